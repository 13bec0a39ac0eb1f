/- A part of the proof. No further condition. -/
import Derived.Test.YtkcekimolppapaaGreatKS13
set_option linter.all false
set_option maxRecDepth 10000000
set_option maxHeartbeats 16000000
namespace Go.Abs
section
section
variable{G:Ctx}{N:Nat}{w0:Base}{M0:Nat->Nat->Prop}
def blist(G:Ctx)(K:St->Prop):List Oper->St->Prop
 | [],st=>K st
 | o::r,st=>o.guard=none/\(aop G o (fun s=>blist G K r s) st\/spN1 G st o fun av R'=>blist G K r ((⟨st.fr,R',st.toks⟩:St).put o.dst av))
theorem jm7(hG:G.Good){ops:Array Oper}{K:St->Prop}{Q':Exit->Act->World->Prop}(hK:∀st' β' a' w',K st'->Sim N w0 M0 β' st' a' w'->Q' .normal a' w'):
  ∀(l:List Oper) (st:St) (β:Nat->Option Nat) (a:Act) (w:World),(∀o∈l,∀d,o.dst=some d->d<N)->blist G K l st->Sim N w0 M0 β st a w->wpList G.P ops Q' l a w
 | [],st,β,a,w,_,hA,h=>hK st β a w hA h
 | o::l,st,β,a,w,hd,hA,h=>by
  have ih:=jm7 hG (ops:=ops) hK l;have hd0:=hd o (by simp);have hd':∀o∈l,∀d,o.dst=some d->d<N:=fun o ho=>hd o (by simp[ho]);obtain⟨hg,hA⟩:=hA;unfold wpList;have hw:Region.wanted o (yielded ops a.tmps)=true:=by simp[Region.wanted,hg]
  rw[zm hw];rcases hA with hA | hA
  ·exact .inl (jdr hG h hd0 hA fun st' β' a' w' hk hs=>ih st' β' a' w' hd' hk hs)
  ·exact .inl (jpo hG h hd0 hA fun av R' β' a' w' hk hs=>ih _ β' a' w' hd' hk hs)
theorem SemC.seq{x y:Code}{Q:Exit->St->Prop}{st:St}(h:SemC G N x (fun e s=>match e with | .normal=>SemC G N y Q s | e=>Q e s) st):SemC G N (x.seq y) Q st:=fun w0 M0 β a w hs=>by
 refine wp_seq (wp_mono (h w0 M0 β a w hs) fun e a' w' hq=> ?_);obtain⟨β',st',hq,hs'⟩:=hq;cases e with
 | normal=>exact hq w0 M0 β' a' w' hs'
 | _=>exact⟨β',st',hq,hs'⟩
theorem SemC.list{id:Nat}{ops:List Oper}{Q:Exit->St->Prop}{st:St}(hG:G.Good)(hd:dstsB N ops=true)(h:blist G (Q .normal) ops st):SemC G N (.region id ops.toArray false) Q st:=fun w0 M0 β a w hs=>
 wp_region_list (by simpa using jm7 (ops:=ops.toArray) hG (fun st' β' a' w' hk hs=>⟨β',st',hk,hs⟩) ops st β a w (jrh hd) h hs)
theorem jpp{st:St}{d:Tmp}{t e:TypeId}{s x:Operand}{ty:TypeId}{pos:String}{af:Array Edge}{T:AV->Rows->Prop}(hk:(G.ti t).kind= .sl e)(hs:evO st s= .sx [])(hx:jcl (evO st x)=some [])(h1:(G.ti t).size≠0)(h2:(G.ti e).size≠0)(h3:(G.ti e).bytes≠0)
  (hT:T (.sx []) st.rows):spN1 G st ⟨some d,.call ⟨.builtin .append, #[s,x], #[t,t]⟩,ty,pos,af,none⟩ T:=by
 unfold spN1 spZ1;dsimp only;rw[zm (show isSp _=true from rfl)];unfold sp;dsimp only;rw[hk];exact⟨rfl,[],hx,h1,h2,h3,fun c hc=>(by cases hc),.inr (.inr ⟨by rw[hs];rfl,rfl,by rw[hs];exact hT⟩)⟩
theorem ctrE_of(hG:G.Good){f:FuncId}{fn:Func}{c:Code}{xs:List IV}{t:Tmp}(hf:G.P.funcs[f]? =some fn)(hb:fn.body=some c)(hd:dstC fn.ntmps c=true)(hn:xs.length<=fn.ntmps)(hr:fn.results.toList=[.tmp t])
  (h:SemC G fn.ntmps c (fun e s=>match e with | .normal=>s.get t= .sx [] | .ret=>s.get t= .sx [] | _=>False) (jc9 (xs.map .im) [])):CtrH G.P f (xs.map .im) [] (fun r L'=>r= .im .emp/\L'=[]):=by
 refine ctrS_of hf hb hd (by rw[zq];exact hn) (fun s=>s.get t= .sx []) (h.mono fun e s hq=>by cases e<;>exact hq) fun w M β st a' w' hq hs=> ?_;have hrun:(results fn a'.tmps).run G.P w'= .ok (a'.tmps.getD t undef) w':=by
  rw[jec,Sem.run_bind,yy,Sem.run_map,hr];rfl
 have hv:=hs.fr t;rw[hq]at hv;obtain⟨_,ad,hv⟩:=hv;refine⟨_,_,[],hrun,⟨rfl,rfl⟩,rfl,fun k s es hk=>(by cases hk),?_⟩;rw[hv];exact Rep.emp ad
end
end
section
section
variable{G:Ctx}{N:Nat}
theorem SemC.le{c:Code}{Q:Exit->St->Prop}{st S:St}(hl:St.Le st S)(h:SemC G N c Q S):SemC G N c Q st:=fun w0 M0 β a w hs=>
 let⟨β2,h2⟩:=hl N w0 M0 β a w hs;h w0 M0 β2 a w h2
def LeC(s S:St):Prop:=St.Le s S
theorem jhk{s S:St}(L:List Nat)(hf:L.map (fun t=>(t,s.get t))=S.fr)(hr:SubR S.rows s.rows)(ht:S.toks=[]):LeC s S:=(St.sub_of L hf hr ht).le
def isSeq:Nat->Code->Bool
 | 0,_=>true
 | k+1,.seq _ y=>isSeq k y
 | _+1,_=>false
theorem SemC.cuts(hG:G.Good){Q:Exit->St->Prop}(S:St):∀(k:Nat) {c:Code} {st:St},isSeq k c=true->dstB N c=true->Go.Abs.awp G (putN k c .skip) (fun e s=>match e with | .normal=>LeC s S | e=>Q e s) st->SemC G N (tailN k c) Q S->SemC G N c Q st
 | 0,c,st,_,_,h1,h2=>SemC.le h1 h2
 | k+1,.seq x y,st,hs,hd,h1,h2=>by
  simp only[dstB,zD]at hd;refine SemC.seq fun w0 M0 β a w hsim=> ?_;refine wp_mono (jgc hG x _ st β a w hd.1 h1 hsim) fun e a' w' hq=> ?_;obtain⟨β',st',hq,hs'⟩:=hq;refine⟨β',st',?_,hs'⟩;cases e with
  | normal=>exact SemC.cuts hG S k hs hd.2 hq h2
  | _=>exact hq
theorem SemC.cutsF(hG:G.Good){Q:Exit->St->Prop}{ι:Type}(S:ι->St)(P:ι->Prop):∀(k:Nat) {c:Code} {st:St},isSeq k c=true->dstB N c=true->
  Go.Abs.awp G (putN k c .skip) (fun e s=>match e with | .normal=>∃i,P i/\St.Le s (S i) | e=>Q e s) st->(∀i,P i->SemC G N (tailN k c) Q (S i))->SemC G N c Q st
 | 0,c,st,_,_,⟨i,hi,hl⟩,h2=>SemC.le hl (h2 i hi)
 | k+1,.seq x y,st,hs,hd,h1,h2=>by
  simp only[dstB,zD]at hd;refine SemC.seq fun w0 M0 β a w hsim=> ?_;refine wp_mono (jgc hG x _ st β a w hd.1 h1 hsim) fun e a' w' hq=> ?_;obtain⟨β',st',hq,hs'⟩:=hq;refine⟨β',st',?_,hs'⟩;cases e with
  | normal=>exact SemC.cutsF hG S P k hs hd.2 hq h2
  | _=>exact hq
theorem jkg(hG:G.Good){f:FuncId}{fn:Func}{args:List AV}{L:Rows}{φ:AV->Rows->Prop}(rs:List ResultVar)(hf:G.P.funcs[f]? =some fn)(hb:fn.body=some (tailN 0 (jdg fn)))(hr:fn.results.toList=rs)(hd:dstC fn.ntmps (tailN 0 (jdg fn))=true)
  (hn:Nat.ble args.length fn.ntmps=true) (h:SemC G fn.ntmps (tailN 0 (jdg fn)) (endQ (aRetH G rs φ)) (jc9 args L)):CtrH G.P f args L φ:=by
 subst hr;exact ji8 hG hf hb hd (qW hn) h
theorem ctrX_of(hG:G.Good){f:FuncId}{fn:Func}{c:Code}{xs:List IV}{t:Tmp}{x:IV}(hf:G.P.funcs[f]? =some fn)(hb:fn.body=some c)(hd:dstC fn.ntmps c=true)(hn:xs.length<=fn.ntmps)(hr:fn.results.toList=[.tmp t])
  (h:SemC G fn.ntmps c (fun e s=>match e with | .normal=>s.get t= .im x | .ret=>s.get t= .im x | _=>False) (jc9 (xs.map .im) [])):Ctr G.P f xs (· =x):=by
 refine jf5 (φ:=fun r L'=>r= .im x/\L'=[]) (ji8 hG hf hb hd (by rw[zq];exact hn) (h.mono fun e s hq=> ?_)) (fun r L' ⟨h1,h2⟩=>⟨x,[],h1,rfl⟩);have key:s.get t= .im x->aRetH G fn.results.toList (fun r L'=>r= .im x/\L'=[]) s:=fun hq=>by
  refine⟨[],fun k y hk=>(by cases hk),?_⟩;rw[hr];show(s.get t).toH= .im x/\([]:Rows)=[];rw[hq];exact⟨rfl,rfl⟩
 cases e with
 | normal=>exact key hq
 | ret=>exact key hq
 | _=>exact hq.elim
theorem endQ_normal{rs:List ResultVar}{φ:AV->Rows->Prop}{st:St}:endQ (aRetH G rs φ) .normal st= @RetH G rs st ⟨φ⟩:=propext ⟨fun h=>h,fun h=>h⟩
end
attribute [go_sem] endQ_normal
