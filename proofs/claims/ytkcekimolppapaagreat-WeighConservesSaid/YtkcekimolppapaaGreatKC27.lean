/- A part of the proof. No further condition. -/
import Derived.Test.YtkcekimolppapaaGreatKC24
set_option linter.all false
set_option maxRecDepth 10000000
set_option maxHeartbeats 16000000
namespace Go.Abs
section
section
variable{G:Ctx}{N:Nat}{w0:Base}{M0:Nat->Nat->Prop}
theorem SemC.seq{x y:Code}{Q:Exit->St->Prop}{st:St}(h:SemC G N x (fun e s=>match e with | .normal=>SemC G N y Q s | e=>Q e s) st):SemC G N (x.seq y) Q st:=fun w0 M0 β a w hs=>by
 refine wp_seq (wp_mono (h w0 M0 β a w hs) fun e a' w' hq=> ?_);obtain⟨β',st',hq,hs'⟩:=hq;cases e with
 | normal=>exact hq w0 M0 β' a' w' hs'
 | _=>exact⟨β',st',hq,hs'⟩
end
end
section
open Go.RowKit (Below)
section
variable{G:Ctx}
end
section
variable{G:Ctx}{N:Nat}{w0:Base}{w:World}{M0:Nat->Nat->Prop}{β:Nat->Option Nat}{st:St}{a:Act}
def frzC(b s:Nat)(es:List (List IV))(c:List IV):List IV:=c.map (frz1 b s es)
def St.frzR(st:St)(b:Nat):St:=
 match look st.rows (hp b)with
 | some (s,es)=>⟨(st.frz b).fr,(st.frz b).rows.map fun p=>(p.1,p.2.1,p.2.2.map (frzC b s es)),(st.frz b).toks⟩
 | none=>st
end
section
variable{G:Ctx}
end
def tailN:Nat->Code->Code
 | 0,c=>c
 | n+1,.seq _ y=>tailN n y
 | _+1,c=>c
def putN:Nat->Code->Code->Code
 | 0,_,y=>y
 | n+1,.seq x c,y=> .seq x (putN n c y)
 | _+1,c,_=>c
theorem jeo:∀(j k:Nat) (c:Code),tailN k (tailN j c)=tailN (j+k) c
 | 0,k,c=>by rw[qE];rfl
 | j+1,k,c=>by
  cases c with
  | seq x y=>rw[show j+1+k=(j+k)+1 by omega];exact jeo j k y
  | _=>cases k<;>first | rfl | (rw[show j+1+(_+1)=(j+_+1)+1 by omega];rfl)
def jbl(fn:Func):Code:=match fn.body with
 | some c=>c
 | none=> .skip
section
variable{G:Ctx}
theorem tail_go{fn:Func}{c:Code}(hb:fn.body=some c){k:Nat}{Q:Exit->St->Prop}{st:St}(h:awp G (tailN k c) Q st):awp G (tailN k (jbl fn)) Q st:=by
 unfold jbl;rw[hb];exact h
theorem jhr{fn:Func}{c:Code}(hb:fn.body=some c){k j:Nat}{y:Code}{Q:Exit->St->Prop}{st:St}(h:awp G (putN k (tailN j c) y) Q st):awp G (putN k (tailN j (jbl fn)) y) Q st:=by
 unfold jbl;rw[hb];exact h
end
attribute [go_sem] St.frzR frzC tailN putN
end
section
section
variable{G:Ctx}{N:Nat}
theorem SemC.le{c:Code}{Q:Exit->St->Prop}{st S:St}(hl:St.Le st S)(h:SemC G N c Q S):SemC G N c Q st:=fun w0 M0 β a w hs=>
 let⟨β2,h2⟩:=hl N w0 M0 β a w hs;h w0 M0 β2 a w h2
def LeC(s S:St):Prop:=St.Le s S
theorem jgr{s S:St}(L:List Nat)(hf:L.map (fun t=>(t,s.get t))=S.fr)(hr:SubR S.rows s.rows)(ht:S.toks=[]):LeC s S:=(St.sub_of L hf hr ht).le
def isSeq:Nat->Code->Bool
 | 0,_=>true
 | k+1,.seq _ y=>isSeq k y
 | _+1,_=>false
theorem SemC.cutsF(hG:G.Good){Q:Exit->St->Prop}{ι:Type}(S:ι->St)(P:ι->Prop):∀(k:Nat) {c:Code} {st:St},isSeq k c=true->dstB N c=true->
  Go.Abs.awp G (putN k c .skip) (fun e s=>match e with | .normal=>∃i,P i/\St.Le s (S i) | e=>Q e s) st->(∀i,P i->SemC G N (tailN k c) Q (S i))->SemC G N c Q st
 | 0,c,st,_,_,⟨i,hi,hl⟩,h2=>SemC.le hl (h2 i hi)
 | k+1,.seq x y,st,hs,hd,h1,h2=>by
  simp only[dstB,zC]at hd;refine SemC.seq fun w0 M0 β a w hsim=> ?_;refine wp_mono (je7 hG x _ st β a w hd.1 h1 hsim) fun e a' w' hq=> ?_;obtain⟨β',st',hq,hs'⟩:=hq;refine⟨β',st',?_,hs'⟩;cases e with
  | normal=>exact SemC.cutsF hG S P k hs hd.2 hq h2
  | _=>exact hq
theorem ctrHX_of(hG:G.Good){f:FuncId}{fn:Func}{args:List AV}{L:Rows}{φ:AV->Rows->Prop}(rs:List ResultVar)(hf:G.P.funcs[f]? =some fn)(hb:fn.body=some (tailN 0 (jbl fn)))(hr:fn.results.toList=rs)(hd:dstC fn.ntmps (tailN 0 (jbl fn))=true)
  (hn:Nat.ble args.length fn.ntmps=true) (h:SemC G fn.ntmps (tailN 0 (jbl fn)) (endQ (aRetH G rs φ)) (jc1 args L)):CtrH G.P f args L φ:=by
 subst hr;exact jhd hG hf hb hd (qK hn) h
theorem ctrX_of(hG:G.Good){f:FuncId}{fn:Func}{c:Code}{xs:List IV}{t:Tmp}{x:IV}(hf:G.P.funcs[f]? =some fn)(hb:fn.body=some c)(hd:dstC fn.ntmps c=true)(hn:xs.length<=fn.ntmps)(hr:fn.results.toList=[.tmp t])
  (h:SemC G fn.ntmps c (fun e s=>match e with | .normal=>s.get t= .im x | .ret=>s.get t= .im x | _=>False) (jc1 (xs.map .im) [])):Ctr G.P f xs (· =x):=by
 refine jji (φ:=fun r L'=>r= .im x/\L'=[]) (jhd hG hf hb hd (by rw[za];exact hn) (h.mono fun e s hq=> ?_)) (fun r L' ⟨h1,h2⟩=>⟨x,[],h1,rfl⟩);have key:s.get t= .im x->aRetH G fn.results.toList (fun r L'=>r= .im x/\L'=[]) s:=fun hq=>by
  refine⟨[],fun k y hk=>(by cases hk),?_⟩;rw[hr];show(s.get t).toH= .im x/\([]:Rows)=[];rw[hq];exact⟨rfl,rfl⟩
 cases e with
 | normal=>exact key hq
 | ret=>exact key hq
 | _=>exact hq.elim
theorem endQ_normal{rs:List ResultVar}{φ:AV->Rows->Prop}{st:St}:endQ (aRetH G rs φ) .normal st= @RetH G rs st ⟨φ⟩:=propext ⟨fun h=>h,fun h=>h⟩
end
attribute [go_sem] endQ_normal
end
end Go.Abs
namespace Go.Proofs.YtkcekimolppapaaGreat
section
open Go.Abs
open Go.LP (Dic Rw RT cf cfU ngU jdf)
attribute [local go_sem] ints ic big frac fc rwC tmC lineC
theorem jct{R:Abs.Rows}{d k:Nat}{v:Nat×List (List IV)}(h:Abs.look ((d,v)::R) k=none):Abs.look R k=none:=by
 by_cases e:k=d
 ·subst e;rw[ja2]at h;cases h
 ·rwa [ja0 _ _ e]at h
theorem jg0{Rs R:Abs.Rows}{d:Nat}{v:Nat×List (List IV)}(h:Abs.look R d=none)(hs:SubR Rs R):SubR Rs ((d,v)::R):=fun k x hk=>by
 by_cases e:k=d
 ·subst e;have:=hs _ _ hk;rw[h]at this;cases this
 ·rw[ja0 _ _ e];exact hs _ _ hk
theorem jl9{R:Abs.Rows}{d k:Nat}{u v:Nat×List (List IV)}(h:d≠k):SubR ((d,u)::(k,v)::R) ((k,v)::(d,u)::R):=fun j x hj=>by
 by_cases e:j=k
 ·subst e;rw[ja0 _ _ (zF h),ja2]at hj;rw[ja2];exact hj
 ·by_cases e2:j=d
  ·subst e2;rw[ja2]at hj;rw[ja0 _ _ e,ja2];exact hj
  ·rw[ja0 _ _ e2,ja0 _ _ e]at hj;rw[ja0 _ _ e,ja0 _ _ e2];exact hj
section
variable{L:Abs.Rows}{nm:DN}{D:Dic}{src:Nat->Int×Bool}
theorem put_A(h:HasO L nm D src)(w:Rw)(row:Nat)(turned:Bool)(hN:D.n<=100000){P:Exit->St->Prop}(hP:∀(A b:Nat) (s:St),(¬A=b/\Abs.look L (hp A)=none/\Abs.look L (hp b)=none)->St.Le s ⟨[(0,.loc (hp nm.d) 6 0 0),(1,.im (.int row)),(3,.im (.bool turned)),(6,.loc 6 6 0 0),(8,.loc (hp b) 5 0 0)],(hp b,5,[lineC w.val A D.n])::(hp A,4,tab D.n fun _=>qc 0)::(6,6,[rwC w])::L,[]⟩->P .normal s):
  awp (GH [8,73,84,93] []) (putN 2 (tailN 0 (jbl Tryz.f153)) .skip) P (jc1 [.loc (hp nm.d) 6 0 0,.im (.int row),.im (.agg (rwC w)),.im (.bool turned)] L):=by
 have hb:=h.blk;have F1:=bF hb;have K1:=bK hb;have G1:=bN hb;have c0:=h.hd;have kz:=jic D.n hN;refine jhr rfl ?_;simp only[F1,K1,G1,go_sem];have hs0:SubR [(6,6,[rwC w]),(hp nm.d,6,[[.int D.n,sl0 nm.r 219 5 D.m,.ref nm.g 35 4 D.n,sl0 nm.o 3 1 D.m,.emp,sl0 nm.s 248 2 D.m]])] ((6,6,[rwC w])::L):=jaz _ (jat c0);refine jr9 [false,false,false,false,false,false,true,true,true] (.alt 6 (.alt 7 (.alt 8 .fin .none) (.alt 8 (.alt 7 .fin .none) .none)) (.alt 8 (.alt 6 (.alt 7 .fin .none) .none) .none)) [(6,6,[rwC w]),(hp nm.d,6,[[.int D.n,sl0 nm.r 219 5 D.m,.ref nm.g 35 4 D.n,sl0 nm.o 3 1 D.m,.emp,sl0 nm.s 248 2 D.m]])] (by decide+kernel) hs0 ?_;simp only[F1,K1,G1,go_sem];refine And.intro ?_ ?_
 ·refine jcl kz (by decide) rfl jby jc6 ?_;rintro _ L0 ⟨A,rfl,hA0,hA1,hA2⟩ hfr;have hnA:=(hfr (hp A) (by rw[hA1];rfl)).resolve_left (by simp[Abs.look]);clear hfr;refine⟨(hp A,4,tab D.n fun _=>qc 0)::_,jc4 hA1,?_⟩;clear hA0 hA1 hA2;have hsA:=jg0 (v:=(4,tab D.n fun _=>qc 0)) hnA hs0;refine And.intro hsA ?_;simp only[F1,K1,G1,go_sem];refine And.intro ?_ ?_
  ·refine And.intro hsA ?_
   try simp only[F1,K1,G1,go_sem]
   refine jpe (fun b hb0=>And.intro (jg0 hb0 hsA) ?_);simp only[F1,K1,G1,go_sem];have hLA:Abs.look L (hp A)=none:=by first | exact jct (jct hnA) | exact jct hnA
   have hLb:Abs.look L (hp b)=none:=by first | exact jct (jct hb0) | exact jct hb0
   have hAb:¬A=b:=by first | exact fun e=>by rw[e,ja2]at hb0;cases hb0 | exact fun e=>by rw[<-e,ja2]at hnA;cases hnA
   have hAb':¬b=A:=fun e=>hAb e.symm;have KB:=fun(s:Nat) (es:List (List IV))=>jdd (s:=s) (es:=es) hLb;simp only[hAb,hAb',KB,F1,K1,G1,go_sem];refine hP A b _ ⟨hAb,hLA,hLb⟩ (jgr [0,1,3,6,8] ?_ ?_ rfl)
   ·simp only[zl,zp,go_sem]
   ·first | exact SubR.of_eq rfl | exact jl9 (hpne hAb')
  ·refine jpe (fun b hb0=>And.intro (jg0 hb0 hsA) ?_);simp only[F1,K1,G1,go_sem];refine And.intro (jg0 hb0 hsA) ?_
   try simp only[F1,K1,G1,go_sem]
   have hLA:Abs.look L (hp A)=none:=by first | exact jct (jct hnA) | exact jct hnA
   have hLb:Abs.look L (hp b)=none:=by first | exact jct (jct hb0) | exact jct hb0
   have hAb:¬A=b:=by first | exact fun e=>by rw[e,ja2]at hb0;cases hb0 | exact fun e=>by rw[<-e,ja2]at hnA;cases hnA
   have hAb':¬b=A:=fun e=>hAb e.symm;have KB:=fun(s:Nat) (es:List (List IV))=>jdd (s:=s) (es:=es) hLb;simp only[hAb,hAb',KB,F1,K1,G1,go_sem];refine hP A b _ ⟨hAb,hLA,hLb⟩ (jgr [0,1,3,6,8] ?_ ?_ rfl)
   ·simp only[zl,zp,go_sem]
   ·first | exact SubR.of_eq rfl | exact jl9 (hpne hAb')
 ·refine jpe (fun b hb0=>And.intro (jg0 hb0 hs0) ?_);simp only[F1,K1,G1,go_sem];refine jcl kz (by decide) rfl jby jc6 ?_;rintro _ L0 ⟨A,rfl,hA0,hA1,hA2⟩ hfr;have hnA:=(hfr (hp A) (by rw[hA1];rfl)).resolve_left (by simp[Abs.look]);clear hfr;refine⟨(hp A,4,tab D.n fun _=>qc 0)::_,jc4 hA1,?_⟩;clear hA0 hA1 hA2;refine And.intro (jg0 hnA (jg0 hb0 hs0)) ?_;simp only[F1,K1,G1,go_sem];refine And.intro (jg0 hnA (jg0 hb0 hs0)) ?_
  try simp only[F1,K1,G1,go_sem]
  have hLA:Abs.look L (hp A)=none:=by first | exact jct (jct hnA) | exact jct hnA
  have hLb:Abs.look L (hp b)=none:=by first | exact jct (jct hb0) | exact jct hb0
  have hAb:¬A=b:=by first | exact fun e=>by rw[e,ja2]at hb0;cases hb0 | exact fun e=>by rw[<-e,ja2]at hnA;cases hnA
  have hAb':¬b=A:=fun e=>hAb e.symm;have KB:=fun(s:Nat) (es:List (List IV))=>jdd (s:=s) (es:=es) hLb;simp only[hAb,hAb',KB,F1,K1,G1,go_sem];refine hP A b _ ⟨hAb,hLA,hLb⟩ (jgr [0,1,3,6,8] ?_ ?_ rfl)
  ·simp only[zl,zp,go_sem]
  ·first | exact SubR.of_eq rfl | exact jl9 (hpne hAb')
end
end
section
open Go.Abs
open Go.LP (Dic Rw RT cf cfU ngU jdf)
attribute [local go_sem] ints ic big frac fc rwC tmC lineC
section
variable{L:Abs.Rows}{nm:DN}{D:Dic}{src:Nat->Int×Bool}
theorem put_B(hb:blks L){A b:Nat}(hAb:¬A=b)(hLA:Abs.look L (hp A)=none)(hLb:Abs.look L (hp b)=none)(w:Rw)(row:Nat)(turned:Bool)(hN:D.n<=100000)(hRT:RT w.ts 0 D.n)(hlen:w.ts.length<=100000){P:Exit->St->Prop}
  (hP:∀(M:Abs.Rows) (s:St),(blks M/\SubR L M/\Abs.look M (hp b)=some (5,[lineC w.val A D.n])/\Abs.look M (hp A)=some (4,tab D.n fun k=>qc (cf w.ts k)))->St.Le s ⟨[(0,.loc (hp nm.d) 6 0 0),(1,.im (.int row)),(3,.im (.bool turned)),(6,.loc 6 6 0 0),(8,.loc (hp b) 5 0 0)],(6,6,[rwC w])::M,[]⟩->P .normal s):
  awp (GH [8,73,84,93] []) (putN 1 (tailN 2 (jbl Tryz.f153)) .skip) P ⟨[(0,.loc (hp nm.d) 6 0 0),(1,.im (.int row)),(3,.im (.bool turned)),(6,.loc 6 6 0 0),(8,.loc (hp b) 5 0 0)],(hp b,5,[lineC w.val A D.n])::(hp A,4,tab D.n fun _=>qc 0)::(6,6,[rwC w])::L,[]⟩:=by
 have F1:=bF hb;have K1:=bK hb;have G1:=bN hb;have hAb':¬b=A:=fun e=>hAb e.symm;refine jhr rfl ?_;have KB:=fun(s:Nat) (es:List (List IV))=>jdd (s:=s) (es:=es) hLb;simp only[hAb,hAb',KB,F1,K1,G1,go_sem];clear KB;obtain⟨M0,hM0e,hM0,hs0,hl0,hz0⟩:∃M0,M0=(hp b,5,[lineC w.val A D.n])::(hp A,4,tab D.n fun _=>qc 0)::L/\blks M0/\SubR L M0/\Abs.look M0 (hp b)=some (5,[lineC w.val A D.n])/\Abs.look M0 (hp A)=some (4,tab D.n fun k=>qc (cfU w.ts 0 k)):=by
  refine⟨_,rfl,jaq (jaq hb),jao hLb (jao hLA (SubR.of_eq rfl)),ja2 _ _ _,?_⟩;rw[ja0 _ _ (hpne hAb),ja2];rfl
 refine jay [0,1,3,6,8,22,23,24] (fun g:Nat×Abs.Rows=>⟨[(0,.loc (hp nm.d) 6 0 0),(1,.im (.int row)),(3,.im (.bool turned)),(6,.loc 6 6 0 0),(8,.loc (hp b) 5 0 0),(22,.im (.sl (w.ts.map tmC))),(23,.im (.int w.ts.length)),(24,.im (.int g.1))],(6,6,[rwC w])::g.2,[]⟩)
  (fun g=>g.1<=w.ts.length/\blks g.2/\SubR L g.2/\Abs.look g.2 (hp b)=some (5,[lineC w.val A D.n])/\Abs.look g.2 (hp A)=some (4,tab D.n fun k=>qc (cfU w.ts g.1 k))) (fun g=>w.ts.length-g.1) (0,M0) ?_ ?_ rfl
  ⟨zH _,hM0,hs0,hl0,hz0⟩ ?_
 ·simp only[Int.natCast_zero,go_sem]
 ·show SubR ((6,6,[rwC w])::M0) ((hp b,5,[lineC w.val A D.n])::(hp A,4,tab D.n fun _=>qc 0)::(6,6,[rwC w])::L);refine jb1 ?_ ?_
  ·rw[ja0 _ _ (hp_ne (by decide)),ja0 _ _ (hp_ne (by decide)),ja2]
  ·rw[hM0e];exact jaz _ (jaz _ (ja3 (by decide) hb (SubR.refl _)))
 clear hl0 hz0 hM0 hs0 hM0e;rintro⟨i,M⟩ ⟨hi,hM,hsM,hlb,hlA⟩;dsimp only at hi hM hsM hlb hlA;have F2:=bF hM;have K2:=bK hM;have G2:=bN hM;rcases zW i w.ts.length with hlt | hlt
 ·have hd:decide ((i:Int)<w.ts.length)=true:=zh (by omega);obtain⟨t,hti⟩:=jd6 (l:=w.ts) (i:=i) (by omega);have h1:=ja8 (n:=(i:Int)+1) (by omega);obtain⟨g1,g2,g3⟩:=jos hRT hti;have hg:=tget hti;simp only[fc]at hg;have v0:(0:Int)<=t.1:=by omega
  have vN:(t.1:Int)<D.n:=by omega
  have hq:=qget (f:=fun k=>cfU w.ts i k) g2;simp only[hd,hg,hlb,hlA,hq,v0,vN,ja9,Int.toNat_natCast,F2,K2,G2,go_sem];refine jaa (i+1,M.map (fun p=>if p.1=hp A then(p.1,4,(tab D.n fun k=>qc (cfU w.ts i k)).set t.1 (fc t.2))else p)) ?_ ?_ rfl (by show w.ts.length-(i+1)<w.ts.length-i;omega)
   ⟨hlt,jb5 hM,jh0 hLA hsM,(jai (hpne hAb')).trans hlb,(jad hlA).trans ?_⟩
  ·simp only[h1,Int.natCast_add,go_sem]
  ·show SubR ((6,6,[rwC w])::_) ((10,5,[tmC t])::(6,6,[rwC w])::_);refine jao ?_ (SubR.of_eq rfl);rw[ja0 _ _ (by dsimp only;decide)];exact jaw (jb5 hM) (by dsimp only;decide)
  ·rw[qset];congr 2;refine jam fun k hk=>qa qc ?_;rw[LP.cfU_succ hti]
 have hd:decide ((i:Int)<w.ts.length)=false:=zw (by omega);have hie:i=w.ts.length:=by omega
 subst hie;simp only[hd,go_sem];refine hP M _ ⟨hM,hsM,hlb,?_⟩ (jgr [0,1,3,6,8] ?_ (SubR.of_eq rfl) rfl)
 ·rw[hlA];congr 2;exact jam fun k hk=>qa qc (LP.cfU_all hRT)
 ·simp only[go_sem]
end
end
section
open Go.Abs
open Go.LP (Dic Rw RT cf cfU ngU jdf)
attribute [local go_sem] ints ic big frac fc rwC tmC lineC
section
variable{L:Abs.Rows}{nm:DN}{D:Dic}{src:Nat->Int×Bool}
theorem put_C(hb:blks L){A b:Nat}(hAb:¬A=b)(hLA:Abs.look L (hp A)=none)(hLb:Abs.look L (hp b)=none)(w:Rw)(row:Nat)(turned:Bool)(hN:D.n<=100000)(hRT:RT w.ts 0 D.n)(hts:∀t∈w.ts,FL 100000000 t.2)(hval:FL 100000000 w.val)(hlen:w.ts.length<=100000)
  {M:Abs.Rows} (hM:blks M) (hsM:SubR L M) (hlb:Abs.look M (hp b)=some (5,[lineC w.val A D.n])) (hlA:Abs.look M (hp A)=some (4,tab D.n fun k=>qc (cf w.ts k))) {P:Exit->St->Prop}
  (hP:∀(M:Abs.Rows) (s:St),(blks M/\SubR L M/\Abs.look M (hp b)=some (5,[lineC (if turned=true then-w.val else w.val) A D.n])/\Abs.look M (hp A)=some (4,tab D.n fun k=>qc (if turned=true then-cf w.ts k else cf w.ts k)))->St.Le s ⟨[(0,.loc (hp nm.d) 6 0 0),(1,.im (.int row)),(3,.im (.bool turned)),(8,.loc (hp b) 5 0 0)],(6,6,[rwC w])::M,[]⟩->P .normal s):
  awp (GH [8,73,84,93] []) (putN 1 (tailN 3 (jbl Tryz.f153)) .skip) P ⟨[(0,.loc (hp nm.d) 6 0 0),(1,.im (.int row)),(3,.im (.bool turned)),(6,.loc 6 6 0 0),(8,.loc (hp b) 5 0 0)],(6,6,[rwC w])::M,[]⟩:=by
 have hAb':¬b=A:=fun e=>hAb e.symm;have F2:=bF hM;have K2:=bK hM;have G2:=bN hM;refine jhr rfl ?_;simp only[go_sem];refine jd7 (fun ht=> ?_) (fun ht=> ?_)
 ·skip
  have kn:=f_neg (hval.mono (by omega:100000000<=19000000000));obtain⟨v,hv0⟩:∃v,v= -w.val:=⟨_,rfl⟩;rw[<-hv0]at kn;simp only[frac,ints]at kn;simp only[ht,hlb,F2,K2,G2,go_sem];refine ja1 kn ?_;simp only[ht,hlb,F2,K2,G2,go_sem];clear kn;obtain⟨f0,hf0⟩:∃f0,f0=fun k=>cf w.ts k:=⟨_,rfl⟩;simp only[<-congrFun hf0]at hlA;obtain⟨M1,hM1e,hM1,hs1,hl1,hz1⟩:∃M1,M1=M.map (fun p=>if p.1=hp b then(p.1,5,[lineC v A D.n])else p)/\blks M1/\SubR L M1/\Abs.look M1 (hp b)=some (5,[lineC v A D.n])/\Abs.look M1 (hp A)=some (4,tab D.n fun k=>qc (ngU w.ts f0 0 k)):=
   ⟨_,rfl,jb5 hM,jh0 hLb hsM,jad hlb,(jai (hpne hAb)).trans hlA⟩
  refine jay [0,1,3,6,8,42,43,44] (fun g:Nat×Abs.Rows=>⟨[(0,.loc (hp nm.d) 6 0 0),(1,.im (.int row)),(3,.im (.bool true)),(6,.loc 6 6 0 0),(8,.loc (hp b) 5 0 0),(42,.im (.sl (w.ts.map tmC))),(43,.im (.int w.ts.length)),(44,.im (.int g.1))],(6,6,[rwC w])::g.2,[]⟩)
   (fun g=>g.1<=w.ts.length/\blks g.2/\SubR L g.2/\Abs.look g.2 (hp b)=some (5,[lineC v A D.n])/\Abs.look g.2 (hp A)=some (4,tab D.n fun k=>qc (ngU w.ts f0 g.1 k))) (fun g=>w.ts.length-g.1) (0,M1) ?_ ?_ rfl
   ⟨zH _,hM1,hs1,hl1,hz1⟩ ?_
  ·simp only[Int.natCast_zero,go_sem]
  ·rw[hM1e];exact SubR.of_eq rfl
  clear hl1 hz1 hM1 hs1 hM1e F2 K2 G2 hlb hlA hM hsM;rintro⟨i,M⟩ ⟨hi,hM,hsM,hlb,hlA⟩;dsimp only at hi hM hsM hlb hlA;have F2:=bF hM;have K2:=bK hM;have G2:=bN hM;rcases zW i w.ts.length with hlt | hlt
  ·have hd:decide ((i:Int)<w.ts.length)=true:=zh (by omega);obtain⟨t,hti⟩:=jd6 (l:=w.ts) (i:=i) (by omega);have h1:=ja8 (n:=(i:Int)+1) (by omega);obtain⟨g1,g2,g3⟩:=jos hRT hti;have hg:=tget hti;have v0:(0:Int)<=t.1:=by omega
   have vN:(t.1:Int)<D.n:=by omega
   have hq:=qget (f:=fun k=>ngU w.ts f0 i k) g2;have kn:=f_neg ((hts t (zr hti)).mono (by omega:100000000<=19000000000));generalize hx: -t.2=x at kn;simp only[frac,ints,fc]at kn hg;simp only[hd,hg,hlb,hlA,hq,v0,vN,ja9,Int.toNat_natCast,F2,K2,G2,go_sem];refine jab 8 ?_;simp only[hd,hg,hlb,hlA,hq,v0,vN,ja9,Int.toNat_natCast,F2,K2,G2,go_sem];refine ja4 kn (by decide) ?_;simp only[hd,hg,hlb,hlA,hq,v0,vN,ja9,Int.toNat_natCast,F2,K2,G2,go_sem];refine jaa (i+1,M.map (fun p=>if p.1=hp A then(p.1,4,(tab D.n fun k=>qc (ngU w.ts f0 i k)).set t.1 (fc x))else p)) ?_ ?_ rfl (by show w.ts.length-(i+1)<w.ts.length-i;omega)
    ⟨hlt,jb5 hM,jh0 hLA hsM,(jai (hpne hAb')).trans hlb,(jad hlA).trans ?_⟩
   ·simp only[h1,Int.natCast_add,go_sem]
   ·show SubR ((6,6,[rwC w])::_) ((12,5,[tmC t])::(6,6,[rwC w])::_);refine jao ?_ (SubR.of_eq rfl);rw[ja0 _ _ (by dsimp only;decide)];exact jaw (jb5 hM) (by dsimp only;decide)
   ·rw[qset];congr 2;refine jam fun k hk=>qa qc ?_;rw[LP.ngU_succ hti,hx]
  have hd:decide ((i:Int)<w.ts.length)=false:=zw (by omega);have hie:i=w.ts.length:=by omega
  subst hie;simp only[hd,go_sem];refine hP M _ ⟨hM,hsM,by rw[ht,zm rfl,<-hv0];exact hlb,?_⟩ (jgr [0,1,3,8] ?_ (SubR.of_eq rfl) rfl)
  ·rw[hlA];congr 2;refine jam fun k hk=>qa qc ?_;rw[ht,zm rfl,hf0,LP.ngU_eq hRT (fun i t ht=>LP.cf_get hRT ht) _ (zB _),LP.cfU_all hRT];grind
  ·simp only[ht,go_sem]
 ·simp only[ht,go_sem];refine hP M _ ⟨hM,hsM,by rw[ht];exact hlb,by rw[ht];exact hlA⟩ (jgr [0,1,3,8] ?_ (SubR.of_eq rfl) rfl);simp only[ht,go_sem]
