/- A part of the proof. No further condition. -/
import Derived.Test.YtjcjcpebocbonaaGreatKY14
set_option linter.all false
set_option maxRecDepth 10000000
set_option maxHeartbeats 16000000
namespace Go.Abs
section
section
variable{G:Ctx}{N:Nat}{w0:Base}{M0:Nat->Nat->Prop}
theorem SemC.seq{x y:Code}{Q:Exit->St->Prop}{st:St}(h:SemC G N x (fun e s=>match e with | .normal=>SemC G N y Q s | e=>Q e s) st):SemC G N (x.seq y) Q st:=fun w0 M0 β a w hs=>by
 refine wp_seq (wp_mono (h w0 M0 β a w hs) fun e a' w' hq=> ?_);obtain⟨β',st',hq,a1⟩:=hq;cases e with
 | normal=>exact hq w0 M0 β' a' w' a1
 | _=>exact⟨β',st',hq,a1⟩
end
end
section
section
variable{G:Ctx}{N:Nat}
theorem SemC.le{c:Code}{Q:Exit->St->Prop}{st S:St}(hl:St.Le st S)(h:SemC G N c Q S):SemC G N c Q st:=fun w0 M0 β a w hs=>
 let⟨β2,h2⟩:=hl N w0 M0 β a w hs;h w0 M0 β2 a w h2
def LeC(s S:St):Prop:=St.Le s S
theorem jnq{s S:St}(L:List Nat)(hf:L.map (fun t=>(t,s.get t))=S.fr)(hr:SubR S.rows s.rows)(ht:S.toks=[]):LeC s S:=(St.sub_of L hf hr ht).le
def isSeq:Nat->Code->Bool
 | 0,_=>true
 | k+1,.seq _ y=>isSeq k y
 | _+1,_=>false
theorem SemC.cutsF(hG:G.Good){Q:Exit->St->Prop}{ι:Type}(S:ι->St)(P:ι->Prop):∀(k:Nat) {c:Code} {st:St},isSeq k c=true->dstB N c=true->
  Go.Abs.awp G (putN k c .skip) (fun e s=>match e with | .normal=>∃i,P i/\St.Le s (S i) | e=>Q e s) st->(∀i,P i->SemC G N (tailN k c) Q (S i))->SemC G N c Q st
 | 0,c,st,_,_,⟨i,hi,hl⟩,h2=>SemC.le hl (h2 i hi)
 | k+1,.seq x y,st,hs,hd,h1,h2=>by
  simp only[dstB,zn]at hd;refine SemC.seq fun w0 M0 β a w a1=> ?_;refine wp_mono (jj3 hG x _ st β a w hd.1 h1 a1) fun e a' w' hq=> ?_;obtain⟨β',st',hq,a6⟩:=hq;refine⟨β',st',?_,a6⟩;cases e with
  | normal=>exact SemC.cutsF hG S P k hs hd.2 hq h2
  | _=>exact hq
theorem jtd(hG:G.Good){f:FuncId}{fn:Func}{args:List AV}{L:Rows}{φ:AV->Rows->Prop}(rs:List ResultVar)(hf:G.P.funcs[f]? =some fn)(hb:fn.body=some (tailN 0 (jd2 fn)))(hr:fn.results.toList=rs)(hd:dstC fn.ntmps (tailN 0 (jd2 fn))=true)
  (hn:Nat.ble args.length fn.ntmps=true) (h:SemC G fn.ntmps (tailN 0 (jd2 fn)) (endQ (aRetH G rs φ)) (jdt args L)):CtrH G.P f args L φ:=by
 subst hr;exact jia hG hf hb hd (yr hn) h
theorem endQ_normal{rs:List ResultVar}{φ:AV->Rows->Prop}{st:St}:endQ (aRetH G rs φ) .normal st= @RetH G rs st ⟨φ⟩:=propext ⟨fun h=>h,fun h=>h⟩
end
attribute [go_sem] endQ_normal
