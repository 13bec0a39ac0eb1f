/- A part of the proof. No further condition. -/
import Derived.Test.YtjcjcpebocbonaaGreatKZ14
set_option linter.all false
set_option maxRecDepth 10000000
set_option maxHeartbeats 16000000
namespace Go.Abs
section
section
variable{G:Ctx}{N:Nat}{w0:Base}{M0:Nat->Nat->Prop}
theorem SemC.seq{x y:Code}{Q:Exit->St->Prop}{st:St}(h:SemC G N x (fun e s=>match e with | .normal=>SemC G N y Q s | e=>Q e s) st):SemC G N (x.seq y) Q st:=fun w0 M0 β a w hs=>by
 refine wp_seq (wp_mono (h w0 M0 β a w hs) fun e a' w' hq=> ?_);obtain⟨β',st',hq,a1⟩:=hq;cases e with
 | normal=>exact hq w0 M0 β' a' w' a1
 | _=>exact⟨β',st',hq,a1⟩
end
end
section
section
variable{G:Ctx}{N:Nat}
theorem SemC.le{c:Code}{Q:Exit->St->Prop}{st S:St}(hl:St.Le st S)(h:SemC G N c Q S):SemC G N c Q st:=fun w0 M0 β a w hs=>
 let⟨β2,h2⟩:=hl N w0 M0 β a w hs;h w0 M0 β2 a w h2
def LeC(s S:St):Prop:=St.Le s S
theorem jkj{s S:St}(L:List Nat)(hf:L.map (fun t=>(t,s.get t))=S.fr)(hr:SubR S.rows s.rows)(ht:S.toks=[]):LeC s S:=(St.sub_of L hf hr ht).le
def isSeq:Nat->Code->Bool
 | 0,_=>true
 | k+1,.seq _ y=>isSeq k y
 | _+1,_=>false
theorem SemC.cuts(hG:G.Good){Q:Exit->St->Prop}(S:St):∀(k:Nat) {c:Code} {st:St},isSeq k c=true->dstB N c=true->Go.Abs.awp G (putN k c .skip) (fun e s=>match e with | .normal=>LeC s S | e=>Q e s) st->SemC G N (tailN k c) Q S->SemC G N c Q st
 | 0,c,st,_,_,h1,h2=>SemC.le h1 h2
 | k+1,.seq x y,st,hs,hd,h1,h2=>by
  simp only[dstB,zn]at hd;refine SemC.seq fun w0 M0 β a w a1=> ?_;refine wp_mono (jhg hG x _ st β a w hd.1 h1 a1) fun e a' w' hq=> ?_;obtain⟨β',st',hq,a6⟩:=hq;refine⟨β',st',?_,a6⟩;cases e with
  | normal=>exact SemC.cuts hG S k hs hd.2 hq h2
  | _=>exact hq
theorem SemC.cutsF(hG:G.Good){Q:Exit->St->Prop}{ι:Type}(S:ι->St)(P:ι->Prop):∀(k:Nat) {c:Code} {st:St},isSeq k c=true->dstB N c=true->
  Go.Abs.awp G (putN k c .skip) (fun e s=>match e with | .normal=>∃i,P i/\St.Le s (S i) | e=>Q e s) st->(∀i,P i->SemC G N (tailN k c) Q (S i))->SemC G N c Q st
 | 0,c,st,_,_,⟨i,hi,hl⟩,h2=>SemC.le hl (h2 i hi)
 | k+1,.seq x y,st,hs,hd,h1,h2=>by
  simp only[dstB,zn]at hd;refine SemC.seq fun w0 M0 β a w a1=> ?_;refine wp_mono (jhg hG x _ st β a w hd.1 h1 a1) fun e a' w' hq=> ?_;obtain⟨β',st',hq,a6⟩:=hq;refine⟨β',st',?_,a6⟩;cases e with
  | normal=>exact SemC.cutsF hG S P k hs hd.2 hq h2
  | _=>exact hq
theorem jta(hG:G.Good){f:FuncId}{fn:Func}{args:List AV}{L:Rows}{φ:AV->Rows->Prop}(rs:List ResultVar)(hf:G.P.funcs[f]? =some fn)(hb:fn.body=some (tailN 0 (jcu fn)))(hr:fn.results.toList=rs)(hd:dstC fn.ntmps (tailN 0 (jcu fn))=true)
  (hn:Nat.ble args.length fn.ntmps=true) (h:SemC G fn.ntmps (tailN 0 (jcu fn)) (endQ (aRetH G rs φ)) (jdo args L)):CtrH G.P f args L φ:=by
 subst hr;exact jgp hG hf hb hd (ye hn) h
theorem ctrX_of(hG:G.Good){f:FuncId}{fn:Func}{c:Code}{xs:List IV}{t:Tmp}{x:IV}(hf:G.P.funcs[f]? =some fn)(hb:fn.body=some c)(hd:dstC fn.ntmps c=true)(hn:xs.length<=fn.ntmps)(hr:fn.results.toList=[.tmp t])
  (h:SemC G fn.ntmps c (fun e s=>match e with | .normal=>s.get t= .im x | .ret=>s.get t= .im x | _=>False) (jdo (xs.map .im) [])):Ctr G.P f xs (· =x):=by
 refine jgo (φ:=fun r L'=>r= .im x/\L'=[]) (jgp hG hf hb hd (by rw[za];exact hn) (h.mono fun e s hq=> ?_)) (fun r L' ⟨h1,h2⟩=>⟨x,[],h1,rfl⟩);have key:s.get t= .im x->aRetH G fn.results.toList (fun r L'=>r= .im x/\L'=[]) s:=fun hq=>by
  refine⟨[],fun k y hk=>(by cases hk),?_⟩;rw[hr];show(s.get t).toH= .im x/\([]:Rows)=[];rw[hq];exact⟨rfl,rfl⟩
 cases e with
 | normal=>exact key hq
 | ret=>exact key hq
 | _=>exact hq.elim
theorem endQ_normal{rs:List ResultVar}{φ:AV->Rows->Prop}{st:St}:endQ (aRetH G rs φ) .normal st= @RetH G rs st ⟨φ⟩:=propext ⟨fun h=>h,fun h=>h⟩
end
attribute [go_sem] endQ_normal
