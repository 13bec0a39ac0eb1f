/- A part of the proof. No further condition. -/
import Derived.Test.YtkcekimolppapaaGreatKS23
set_option linter.all false
set_option maxRecDepth 10000000
set_option maxHeartbeats 16000000
namespace Go.Proofs.YtkcekimolppapaaGreat
section
open Go.Abs
open Go.LP (Dic Rw RT cf cfU ngU jci)
attribute [local go_sem] ints ic big frac fc rwC tmC lineC
theorem jdc{R:Abs.Rows}{d k:Nat}{v:Nat×List (List IV)}(h:Abs.look ((d,v)::R) k=none):Abs.look R k=none:=by
 by_cases e:k=d
 ·subst e;rw[ja2]at h;cases h
 ·rwa [ja0 _ _ e]at h
theorem jgv{Rs R:Abs.Rows}{d:Nat}{v:Nat×List (List IV)}(h:Abs.look R d=none)(hs:SubR Rs R):SubR Rs ((d,v)::R):=fun k x hk=>by
 by_cases e:k=d
 ·subst e;have:=hs _ _ hk;rw[h]at this;cases this
 ·rw[ja0 _ _ e];exact hs _ _ hk
theorem jmd{R:Abs.Rows}{d k:Nat}{u v:Nat×List (List IV)}(h:d≠k):SubR ((d,u)::(k,v)::R) ((k,v)::(d,u)::R):=fun j x hj=>by
 by_cases e:j=k
 ·subst e;rw[ja0 _ _ (zK h),ja2]at hj;rw[ja2];exact hj
 ·by_cases e2:j=d
  ·subst e2;rw[ja2]at hj;rw[ja0 _ _ e,ja2];exact hj
  ·rw[ja0 _ _ e2,ja0 _ _ e]at hj;rw[ja0 _ _ e,ja0 _ _ e2];exact hj
section
variable{L:Abs.Rows}{nm:DN}{D:Dic}{src:Nat->Int×Bool}
theorem put_A(h:HasO L nm D src)(w:Rw)(row:Nat)(turned:Bool)(hN:D.n<=100000){P:Exit->St->Prop}(hP:∀(A b:Nat) (s:St),(¬A=b/\Abs.look L (hp A)=none/\Abs.look L (hp b)=none)->St.Le s ⟨[(0,.loc (hp nm.d) 6 0 0),(1,.im (.int row)),(3,.im (.bool turned)),(6,.loc 6 6 0 0),(8,.loc (hp b) 5 0 0)],(hp b,5,[lineC w.val A D.n])::(hp A,4,tab D.n fun _=>qc 0)::(6,6,[rwC w])::L,[]⟩->P .normal s):
  awp (GH [8,73,84,93] []) (putN 2 (tailN 0 (jdg Tryz.f153)) .skip) P (jc9 [.loc (hp nm.d) 6 0 0,.im (.int row),.im (.agg (rwC w)),.im (.bool turned)] L):=by
 have hb:=h.blk;have F1:=bF hb;have K1:=bK hb;have G1:=bN hb;have c0:=h.hd;have kz:=jj9 D.n hN;refine jh5 rfl ?_;simp only[F1,K1,G1,go_sem];have hs0:SubR [(6,6,[rwC w]),(hp nm.d,6,[[.int D.n,sl0 nm.r 219 5 D.m,.ref nm.g 35 4 D.n,sl0 nm.o 3 1 D.m,.emp,sl0 nm.s 248 2 D.m]])] ((6,6,[rwC w])::L):=jay _ (jaz c0);refine jgx [false,false,false,false,false,false,true,true,true] (.alt 6 (.alt 7 (.alt 8 .fin .none) (.alt 8 (.alt 7 .fin .none) .none)) (.alt 8 (.alt 6 (.alt 7 .fin .none) .none) .none)) [(6,6,[rwC w]),(hp nm.d,6,[[.int D.n,sl0 nm.r 219 5 D.m,.ref nm.g 35 4 D.n,sl0 nm.o 3 1 D.m,.emp,sl0 nm.s 248 2 D.m]])] (by decide+kernel) hs0 ?_;simp only[F1,K1,G1,go_sem];refine And.intro ?_ ?_
 ·refine jbc kz (by decide) rfl jaq jac ?_;rintro _ L0 ⟨A,rfl,hA0,hA1,hA2⟩ hfr;have hnA:=(hfr (hp A) (by rw[hA1];rfl)).resolve_left (by simp[Abs.look]);clear hfr;refine⟨(hp A,4,tab D.n fun _=>qc 0)::_,jcg hA1,?_⟩;clear hA0 hA1 hA2;have hsA:=jgv (v:=(4,tab D.n fun _=>qc 0)) hnA hs0;refine And.intro hsA ?_;simp only[F1,K1,G1,go_sem];refine And.intro ?_ ?_
  ·refine And.intro hsA ?_
   try simp only[F1,K1,G1,go_sem]
   refine jro (fun b hb0=>And.intro (jgv hb0 hsA) ?_);simp only[F1,K1,G1,go_sem];have hLA:Abs.look L (hp A)=none:=by first | exact jdc (jdc hnA) | exact jdc hnA
   have hLb:Abs.look L (hp b)=none:=by first | exact jdc (jdc hb0) | exact jdc hb0
   have hAb:¬A=b:=by first | exact fun e=>by rw[e,ja2]at hb0;cases hb0 | exact fun e=>by rw[<-e,ja2]at hnA;cases hnA
   have hAb':¬b=A:=fun e=>hAb e.symm;have KB:=fun(s:Nat) (es:List (List IV))=>jdu (s:=s) (es:=es) hLb;simp only[hAb,hAb',KB,F1,K1,G1,go_sem];refine hP A b _ ⟨hAb,hLA,hLb⟩ (jhk [0,1,3,6,8] ?_ ?_ rfl)
   ·simp only[zB,zF,go_sem]
   ·first | exact SubR.of_eq rfl | exact jmd (hpne hAb')
  ·refine jro (fun b hb0=>And.intro (jgv hb0 hsA) ?_);simp only[F1,K1,G1,go_sem];refine And.intro (jgv hb0 hsA) ?_
   try simp only[F1,K1,G1,go_sem]
   have hLA:Abs.look L (hp A)=none:=by first | exact jdc (jdc hnA) | exact jdc hnA
   have hLb:Abs.look L (hp b)=none:=by first | exact jdc (jdc hb0) | exact jdc hb0
   have hAb:¬A=b:=by first | exact fun e=>by rw[e,ja2]at hb0;cases hb0 | exact fun e=>by rw[<-e,ja2]at hnA;cases hnA
   have hAb':¬b=A:=fun e=>hAb e.symm;have KB:=fun(s:Nat) (es:List (List IV))=>jdu (s:=s) (es:=es) hLb;simp only[hAb,hAb',KB,F1,K1,G1,go_sem];refine hP A b _ ⟨hAb,hLA,hLb⟩ (jhk [0,1,3,6,8] ?_ ?_ rfl)
   ·simp only[zB,zF,go_sem]
   ·first | exact SubR.of_eq rfl | exact jmd (hpne hAb')
 ·refine jro (fun b hb0=>And.intro (jgv hb0 hs0) ?_);simp only[F1,K1,G1,go_sem];refine jbc kz (by decide) rfl jaq jac ?_;rintro _ L0 ⟨A,rfl,hA0,hA1,hA2⟩ hfr;have hnA:=(hfr (hp A) (by rw[hA1];rfl)).resolve_left (by simp[Abs.look]);clear hfr;refine⟨(hp A,4,tab D.n fun _=>qc 0)::_,jcg hA1,?_⟩;clear hA0 hA1 hA2;refine And.intro (jgv hnA (jgv hb0 hs0)) ?_;simp only[F1,K1,G1,go_sem];refine And.intro (jgv hnA (jgv hb0 hs0)) ?_
  try simp only[F1,K1,G1,go_sem]
  have hLA:Abs.look L (hp A)=none:=by first | exact jdc (jdc hnA) | exact jdc hnA
  have hLb:Abs.look L (hp b)=none:=by first | exact jdc (jdc hb0) | exact jdc hb0
  have hAb:¬A=b:=by first | exact fun e=>by rw[e,ja2]at hb0;cases hb0 | exact fun e=>by rw[<-e,ja2]at hnA;cases hnA
  have hAb':¬b=A:=fun e=>hAb e.symm;have KB:=fun(s:Nat) (es:List (List IV))=>jdu (s:=s) (es:=es) hLb;simp only[hAb,hAb',KB,F1,K1,G1,go_sem];refine hP A b _ ⟨hAb,hLA,hLb⟩ (jhk [0,1,3,6,8] ?_ ?_ rfl)
  ·simp only[zB,zF,go_sem]
  ·first | exact SubR.of_eq rfl | exact jmd (hpne hAb')
end
end
section
open Go.Abs
open Go.LP (Dic Rw RT cf cfU ngU jci)
attribute [local go_sem] ints ic big frac fc rwC tmC lineC
section
variable{L:Abs.Rows}{nm:DN}{D:Dic}{src:Nat->Int×Bool}
theorem put_B(hb:blks L){A b:Nat}(hAb:¬A=b)(hLA:Abs.look L (hp A)=none)(hLb:Abs.look L (hp b)=none)(w:Rw)(row:Nat)(turned:Bool)(hN:D.n<=100000)(hRT:RT w.ts 0 D.n)(hlen:w.ts.length<=100000){P:Exit->St->Prop}
  (hP:∀(M:Abs.Rows) (s:St),(blks M/\SubR L M/\Abs.look M (hp b)=some (5,[lineC w.val A D.n])/\Abs.look M (hp A)=some (4,tab D.n fun k=>qc (cf w.ts k)))->St.Le s ⟨[(0,.loc (hp nm.d) 6 0 0),(1,.im (.int row)),(3,.im (.bool turned)),(6,.loc 6 6 0 0),(8,.loc (hp b) 5 0 0)],(6,6,[rwC w])::M,[]⟩->P .normal s):
  awp (GH [8,73,84,93] []) (putN 1 (tailN 2 (jdg Tryz.f153)) .skip) P ⟨[(0,.loc (hp nm.d) 6 0 0),(1,.im (.int row)),(3,.im (.bool turned)),(6,.loc 6 6 0 0),(8,.loc (hp b) 5 0 0)],(hp b,5,[lineC w.val A D.n])::(hp A,4,tab D.n fun _=>qc 0)::(6,6,[rwC w])::L,[]⟩:=by
 have F1:=bF hb;have K1:=bK hb;have G1:=bN hb;have hAb':¬b=A:=fun e=>hAb e.symm;refine jh5 rfl ?_;have KB:=fun(s:Nat) (es:List (List IV))=>jdu (s:=s) (es:=es) hLb;simp only[hAb,hAb',KB,F1,K1,G1,go_sem];clear KB;obtain⟨M0,hM0e,hM0,hs0,hl0,hz0⟩:∃M0,M0=(hp b,5,[lineC w.val A D.n])::(hp A,4,tab D.n fun _=>qc 0)::L/\blks M0/\SubR L M0/\Abs.look M0 (hp b)=some (5,[lineC w.val A D.n])/\Abs.look M0 (hp A)=some (4,tab D.n fun k=>qc (cfU w.ts 0 k)):=by
  refine⟨_,rfl,jad (jad hb),jav hLb (jav hLA (SubR.of_eq rfl)),ja2 _ _ _,?_⟩;rw[ja0 _ _ (hpne hAb),ja2];rfl
 refine jap [0,1,3,6,8,22,23,24] (fun g:Nat×Abs.Rows=>⟨[(0,.loc (hp nm.d) 6 0 0),(1,.im (.int row)),(3,.im (.bool turned)),(6,.loc 6 6 0 0),(8,.loc (hp b) 5 0 0),(22,.im (.sl (w.ts.map tmC))),(23,.im (.int w.ts.length)),(24,.im (.int g.1))],(6,6,[rwC w])::g.2,[]⟩)
  (fun g=>g.1<=w.ts.length/\blks g.2/\SubR L g.2/\Abs.look g.2 (hp b)=some (5,[lineC w.val A D.n])/\Abs.look g.2 (hp A)=some (4,tab D.n fun k=>qc (cfU w.ts g.1 k))) (fun g=>w.ts.length-g.1) (0,M0) ?_ ?_ rfl
  ⟨zH _,hM0,hs0,hl0,hz0⟩ ?_
 ·simp only[Int.natCast_zero,go_sem]
 ·show SubR ((6,6,[rwC w])::M0) ((hp b,5,[lineC w.val A D.n])::(hp A,4,tab D.n fun _=>qc 0)::(6,6,[rwC w])::L);refine jb9 ?_ ?_
  ·rw[ja0 _ _ (hp_ne (by decide)),ja0 _ _ (hp_ne (by decide)),ja2]
  ·rw[hM0e];exact jay _ (jay _ (ja3 (by decide) hb (SubR.refl _)))
 clear hl0 hz0 hM0 hs0 hM0e;rintro⟨i,M⟩ ⟨hi,hM,hsM,hlb,hlA⟩;dsimp only at hi hM hsM hlb hlA;have F2:=bF hM;have K2:=bK hM;have G2:=bN hM;rcases zU i w.ts.length with hlt | hlt
 ·have hd:decide ((i:Int)<w.ts.length)=true:=zh (by omega);obtain⟨t,hti⟩:=jbf (l:=w.ts) (i:=i) (by omega);have h1:=ja7 (n:=(i:Int)+1) (by omega);obtain⟨g1,g2,g3⟩:=jqv hRT hti;have hg:=tget hti;simp only[fc]at hg;have v0:(0:Int)<=t.1:=by omega
  have vN:(t.1:Int)<D.n:=by omega
  have hq:=qget (f:=fun k=>cfU w.ts i k) g2;simp only[hd,hg,hlb,hlA,hq,v0,vN,jaa,Int.toNat_natCast,F2,K2,G2,go_sem];refine ja6 (i+1,M.map (fun p=>if p.1=hp A then(p.1,4,(tab D.n fun k=>qc (cfU w.ts i k)).set t.1 (fc t.2))else p)) ?_ ?_ rfl (by show w.ts.length-(i+1)<w.ts.length-i;omega)
   ⟨hlt,jbd hM,jhy hLA hsM,(jas (hpne hAb')).trans hlb,(jah hlA).trans ?_⟩
  ·simp only[h1,Int.natCast_add,go_sem]
  ·show SubR ((6,6,[rwC w])::_) ((10,5,[tmC t])::(6,6,[rwC w])::_);refine jav ?_ (SubR.of_eq rfl);rw[ja0 _ _ (by dsimp only;decide)];exact jb2 (jbd hM) (by dsimp only;decide)
  ·rw[qset];congr 2;refine jar fun k hk=>qx qc ?_;rw[LP.cfU_succ hti]
 have hd:decide ((i:Int)<w.ts.length)=false:=zw (by omega);have hie:i=w.ts.length:=by omega
 subst hie;simp only[hd,go_sem];refine hP M _ ⟨hM,hsM,hlb,?_⟩ (jhk [0,1,3,6,8] ?_ (SubR.of_eq rfl) rfl)
 ·rw[hlA];congr 2;exact jar fun k hk=>qx qc (LP.cfU_all hRT)
 ·simp only[go_sem]
end
end
section
open Go.Abs
open Go.LP (Dic Rw RT cf cfU ngU jci)
attribute [local go_sem] ints ic big frac fc rwC tmC lineC
section
variable{L:Abs.Rows}{nm:DN}{D:Dic}{src:Nat->Int×Bool}
theorem put_C(hb:blks L){A b:Nat}(hAb:¬A=b)(hLA:Abs.look L (hp A)=none)(hLb:Abs.look L (hp b)=none)(w:Rw)(row:Nat)(turned:Bool)(hN:D.n<=100000)(hRT:RT w.ts 0 D.n)(hts:∀t∈w.ts,FL 100000000 t.2)(hval:FL 100000000 w.val)(hlen:w.ts.length<=100000)
  {M:Abs.Rows} (hM:blks M) (hsM:SubR L M) (hlb:Abs.look M (hp b)=some (5,[lineC w.val A D.n])) (hlA:Abs.look M (hp A)=some (4,tab D.n fun k=>qc (cf w.ts k))) {P:Exit->St->Prop}
  (hP:∀(M:Abs.Rows) (s:St),(blks M/\SubR L M/\Abs.look M (hp b)=some (5,[lineC (if turned=true then-w.val else w.val) A D.n])/\Abs.look M (hp A)=some (4,tab D.n fun k=>qc (if turned=true then-cf w.ts k else cf w.ts k)))->St.Le s ⟨[(0,.loc (hp nm.d) 6 0 0),(1,.im (.int row)),(3,.im (.bool turned)),(8,.loc (hp b) 5 0 0)],(6,6,[rwC w])::M,[]⟩->P .normal s):
  awp (GH [8,73,84,93] []) (putN 1 (tailN 3 (jdg Tryz.f153)) .skip) P ⟨[(0,.loc (hp nm.d) 6 0 0),(1,.im (.int row)),(3,.im (.bool turned)),(6,.loc 6 6 0 0),(8,.loc (hp b) 5 0 0)],(6,6,[rwC w])::M,[]⟩:=by
 have hAb':¬b=A:=fun e=>hAb e.symm;have F2:=bF hM;have K2:=bK hM;have G2:=bN hM;refine jh5 rfl ?_;simp only[go_sem];refine jc1 (fun ht=> ?_) (fun ht=> ?_)
 ·skip
  have kn:=f_neg (hval.mono (by omega:100000000<=19000000000));obtain⟨v,hv0⟩:∃v,v= -w.val:=⟨_,rfl⟩;rw[<-hv0]at kn;simp only[frac,ints]at kn;simp only[ht,hlb,F2,K2,G2,go_sem];refine ja1 kn ?_;simp only[ht,hlb,F2,K2,G2,go_sem];clear kn;obtain⟨f0,hf0⟩:∃f0,f0=fun k=>cf w.ts k:=⟨_,rfl⟩;simp only[<-congrFun hf0]at hlA;obtain⟨M1,hM1e,hM1,hs1,hl1,hz1⟩:∃M1,M1=M.map (fun p=>if p.1=hp b then(p.1,5,[lineC v A D.n])else p)/\blks M1/\SubR L M1/\Abs.look M1 (hp b)=some (5,[lineC v A D.n])/\Abs.look M1 (hp A)=some (4,tab D.n fun k=>qc (ngU w.ts f0 0 k)):=
   ⟨_,rfl,jbd hM,jhy hLb hsM,jah hlb,(jas (hpne hAb)).trans hlA⟩
  refine jap [0,1,3,6,8,42,43,44] (fun g:Nat×Abs.Rows=>⟨[(0,.loc (hp nm.d) 6 0 0),(1,.im (.int row)),(3,.im (.bool true)),(6,.loc 6 6 0 0),(8,.loc (hp b) 5 0 0),(42,.im (.sl (w.ts.map tmC))),(43,.im (.int w.ts.length)),(44,.im (.int g.1))],(6,6,[rwC w])::g.2,[]⟩)
   (fun g=>g.1<=w.ts.length/\blks g.2/\SubR L g.2/\Abs.look g.2 (hp b)=some (5,[lineC v A D.n])/\Abs.look g.2 (hp A)=some (4,tab D.n fun k=>qc (ngU w.ts f0 g.1 k))) (fun g=>w.ts.length-g.1) (0,M1) ?_ ?_ rfl
   ⟨zH _,hM1,hs1,hl1,hz1⟩ ?_
  ·simp only[Int.natCast_zero,go_sem]
  ·rw[hM1e];exact SubR.of_eq rfl
  clear hl1 hz1 hM1 hs1 hM1e F2 K2 G2 hlb hlA hM hsM;rintro⟨i,M⟩ ⟨hi,hM,hsM,hlb,hlA⟩;dsimp only at hi hM hsM hlb hlA;have F2:=bF hM;have K2:=bK hM;have G2:=bN hM;rcases zU i w.ts.length with hlt | hlt
  ·have hd:decide ((i:Int)<w.ts.length)=true:=zh (by omega);obtain⟨t,hti⟩:=jbf (l:=w.ts) (i:=i) (by omega);have h1:=ja7 (n:=(i:Int)+1) (by omega);obtain⟨g1,g2,g3⟩:=jqv hRT hti;have hg:=tget hti;have v0:(0:Int)<=t.1:=by omega
   have vN:(t.1:Int)<D.n:=by omega
   have hq:=qget (f:=fun k=>ngU w.ts f0 i k) g2;have kn:=f_neg ((hts t (zk hti)).mono (by omega:100000000<=19000000000));generalize hx: -t.2=x at kn;simp only[frac,ints,fc]at kn hg;simp only[hd,hg,hlb,hlA,hq,v0,vN,jaa,Int.toNat_natCast,F2,K2,G2,go_sem];refine jae 8 ?_;simp only[hd,hg,hlb,hlA,hq,v0,vN,jaa,Int.toNat_natCast,F2,K2,G2,go_sem];refine ja4 kn (by decide) ?_;simp only[hd,hg,hlb,hlA,hq,v0,vN,jaa,Int.toNat_natCast,F2,K2,G2,go_sem];refine ja6 (i+1,M.map (fun p=>if p.1=hp A then(p.1,4,(tab D.n fun k=>qc (ngU w.ts f0 i k)).set t.1 (fc x))else p)) ?_ ?_ rfl (by show w.ts.length-(i+1)<w.ts.length-i;omega)
    ⟨hlt,jbd hM,jhy hLA hsM,(jas (hpne hAb')).trans hlb,(jah hlA).trans ?_⟩
   ·simp only[h1,Int.natCast_add,go_sem]
   ·show SubR ((6,6,[rwC w])::_) ((12,5,[tmC t])::(6,6,[rwC w])::_);refine jav ?_ (SubR.of_eq rfl);rw[ja0 _ _ (by dsimp only;decide)];exact jb2 (jbd hM) (by dsimp only;decide)
   ·rw[qset];congr 2;refine jar fun k hk=>qx qc ?_;rw[LP.ngU_succ hti,hx]
  have hd:decide ((i:Int)<w.ts.length)=false:=zw (by omega);have hie:i=w.ts.length:=by omega
  subst hie;simp only[hd,go_sem];refine hP M _ ⟨hM,hsM,by rw[ht,zm rfl,<-hv0];exact hlb,?_⟩ (jhk [0,1,3,8] ?_ (SubR.of_eq rfl) rfl)
  ·rw[hlA];congr 2;refine jar fun k hk=>qx qc ?_;rw[ht,zm rfl,hf0,LP.ngU_eq hRT (fun i t ht=>LP.cf_get hRT ht) _ (zt _),LP.cfU_all hRT];grind
  ·simp only[ht,go_sem]
 ·simp only[ht,go_sem];refine hP M _ ⟨hM,hsM,by rw[ht];exact hlb,by rw[ht];exact hlA⟩ (jhk [0,1,3,8] ?_ (SubR.of_eq rfl) rfl);simp only[ht,go_sem]
