/- A part of the proof. No further condition. -/
import Derived.Test.YtgncgpfjldefpaaGreatKR31
set_option linter.all false
set_option maxRecDepth 10000000
set_option maxHeartbeats 16000000
namespace Go.Proofs.YtgncgpfjldefpaaGreat
section
open Go.Abs
open Go.LP (Dic Rw RT cf cfU ngU jel)
attribute [local go_sem] ints ic big frac fc rwC tmC lineC
theorem jbf{R:Abs.Rows}{d k:Nat}{v:Nat×List (List IV)}(h:Abs.look ((d,v)::R) k=none):Abs.look R k=none:=by
 by_cases e:k=d
 ·subst e;rw[ja2]at h;cases h
 ·rwa [ja0 _ _ e]at h
theorem jd9{Rs R:Abs.Rows}{d:Nat}{v:Nat×List (List IV)}(h:Abs.look R d=none)(hs:SubR Rs R):SubR Rs ((d,v)::R):=fun k x hk=>by
 by_cases e:k=d
 ·subst e;have:=hs _ _ hk;rw[h]at this;cases this
 ·rw[ja0 _ _ e];exact hs _ _ hk
theorem jg3{R:Abs.Rows}{d k:Nat}{u v:Nat×List (List IV)}(h:d≠k):SubR ((d,u)::(k,v)::R) ((k,v)::(d,u)::R):=fun j x hj=>by
 by_cases e:j=k
 ·subst e;rw[ja0 _ _ (zw h),ja2]at hj;rw[ja2];exact hj
 ·by_cases e2:j=d
  ·subst e2;rw[ja2]at hj;rw[ja0 _ _ e,ja2];exact hj
  ·rw[ja0 _ _ e2,ja0 _ _ e]at hj;rw[ja0 _ _ e,ja0 _ _ e2];exact hj
section
variable{L:Abs.Rows}{nm:DN}{D:Dic}{src:Nat->Int×Bool}
theorem x_putF(h:HasO L nm D src)(w:Rw)(row:Nat)(turned:Bool)(ht:turned=false)(hN:D.n<=100000)(hm:D.m<=10000)(hRT:RT w.ts 0 D.n)(hts:∀t∈w.ts,FL 100000000 t.2)(hval:FL 100000000 w.val)(hlen:w.ts.length<=100000):
  CtrH G.P 181 [.loc (hp nm.d) 6 0 0,.im (.int row),.im (.agg (rwC w)),.im (.bool turned)] L
   (fun x L'=>x= .im (.tup [])/\∃nm':DN,nm'.d=nm.d/\HasO L' nm' (D.put w turned) (jel D src row turned)):=by
 have hb:=h.blk;have F1:=bF hb;have K1:=bK hb;have G1:=bN hb;have c0:=h.hd;have kz:=jht D.n hN;refine jan [8,73,84,93] [] [] Tryz.func181 ?_;simp only[F1,K1,G1,go_sem];refine jhr (ι:=Nat×Nat) (fun i=>⟨[(0,.loc (hp nm.d) 6 0 0),(1,.im (.int row)),(3,.im (.bool turned)),(6,.loc 6 6 0 0),(8,.loc (hp i.2) 5 0 0)],(hp i.2,5,[lineC w.val i.1 D.n])::(hp i.1,4,tab D.n fun _=>qc 0)::(6,6,[rwC w])::L,[]⟩) (fun i=>¬i.1=i.2/\Abs.look L (hp i.1)=none/\Abs.look L (hp i.2)=none) ?_ ?_
 ·as_aux_lemma=>
   have hs0:SubR [(6,6,[rwC w]),(hp nm.d,6,[[.int D.n,sl0 nm.r 235 5 D.m,.ref nm.g 69 4 D.n,sl0 nm.o 3 1 D.m,.emp,sl0 nm.s 246 2 D.m]])] ((6,6,[rwC w])::L):=jax _ (jar c0);refine jhq [false,false,false,false,false,false,true,true,true] (.alt 6 (.alt 7 (.alt 8 .fin .none) (.alt 8 (.alt 7 .fin .none) .none)) (.alt 8 (.alt 6 (.alt 7 .fin .none) .none) .none)) [(6,6,[rwC w]),(hp nm.d,6,[[.int D.n,sl0 nm.r 235 5 D.m,.ref nm.g 69 4 D.n,sl0 nm.o 3 1 D.m,.emp,sl0 nm.s 246 2 D.m]])] (by decide+kernel) hs0 ?_;simp only[F1,K1,G1,go_sem];refine And.intro ?_ ?_
   ·refine jbb kz (by decide) rfl jb0 ja7 ?_;rintro _ L0 ⟨A,rfl,hA0,hA1,hA2⟩ hfr;have hnA:=(hfr (hp A) (by rw[hA1];rfl)).resolve_left (by simp[Abs.look]);clear hfr;refine⟨(hp A,4,tab D.n fun _=>qc 0)::_,jc8 hA1,?_⟩;clear hA0 hA1 hA2;have hsA:=jd9 (v:=(4,tab D.n fun _=>qc 0)) hnA hs0;refine And.intro hsA ?_;simp only[F1,K1,G1,go_sem];refine And.intro ?_ ?_
    ·refine And.intro hsA ?_
     try simp only[F1,K1,G1,go_sem]
     refine jbn (fun b hb0=>And.intro (jd9 hb0 hsA) ?_);simp only[F1,K1,G1,go_sem];have hLA:Abs.look L (hp A)=none:=by first | exact jbf (jbf hnA) | exact jbf hnA
     have hLb:Abs.look L (hp b)=none:=by first | exact jbf (jbf hb0) | exact jbf hb0
     have hAb:¬A=b:=by first | exact fun e=>by rw[e,ja2]at hb0;cases hb0 | exact fun e=>by rw[<-e,ja2]at hnA;cases hnA
     have hAb':¬b=A:=fun e=>hAb e.symm;have KB:=fun(s:Nat) (es:List (List IV))=>jcn (s:=s) (es:=es) hLb;simp only[hAb,hAb',KB,F1,K1,G1,go_sem];refine jbz (A,b) ⟨hAb,hLA,hLb⟩ ?_ ?_ ?_
     ·simp only[zr,zE,go_sem]
     ·first | exact SubR.of_eq rfl | exact jg3 (hpne hAb')
     ·rfl
    ·refine jbn (fun b hb0=>And.intro (jd9 hb0 hsA) ?_);simp only[F1,K1,G1,go_sem];refine And.intro (jd9 hb0 hsA) ?_
     try simp only[F1,K1,G1,go_sem]
     have hLA:Abs.look L (hp A)=none:=by first | exact jbf (jbf hnA) | exact jbf hnA
     have hLb:Abs.look L (hp b)=none:=by first | exact jbf (jbf hb0) | exact jbf hb0
     have hAb:¬A=b:=by first | exact fun e=>by rw[e,ja2]at hb0;cases hb0 | exact fun e=>by rw[<-e,ja2]at hnA;cases hnA
     have hAb':¬b=A:=fun e=>hAb e.symm;have KB:=fun(s:Nat) (es:List (List IV))=>jcn (s:=s) (es:=es) hLb;simp only[hAb,hAb',KB,F1,K1,G1,go_sem];refine jbz (A,b) ⟨hAb,hLA,hLb⟩ ?_ ?_ ?_
     ·simp only[zr,zE,go_sem]
     ·first | exact SubR.of_eq rfl | exact jg3 (hpne hAb')
     ·rfl
   ·refine jbn (fun b hb0=>And.intro (jd9 hb0 hs0) ?_);simp only[F1,K1,G1,go_sem];refine jbb kz (by decide) rfl jb0 ja7 ?_;rintro _ L0 ⟨A,rfl,hA0,hA1,hA2⟩ hfr;have hnA:=(hfr (hp A) (by rw[hA1];rfl)).resolve_left (by simp[Abs.look]);clear hfr;refine⟨(hp A,4,tab D.n fun _=>qc 0)::_,jc8 hA1,?_⟩;clear hA0 hA1 hA2;refine And.intro (jd9 hnA (jd9 hb0 hs0)) ?_;simp only[F1,K1,G1,go_sem];refine And.intro (jd9 hnA (jd9 hb0 hs0)) ?_
    try simp only[F1,K1,G1,go_sem]
    have hLA:Abs.look L (hp A)=none:=by first | exact jbf (jbf hnA) | exact jbf hnA
    have hLb:Abs.look L (hp b)=none:=by first | exact jbf (jbf hb0) | exact jbf hb0
    have hAb:¬A=b:=by first | exact fun e=>by rw[e,ja2]at hb0;cases hb0 | exact fun e=>by rw[<-e,ja2]at hnA;cases hnA
    have hAb':¬b=A:=fun e=>hAb e.symm;have KB:=fun(s:Nat) (es:List (List IV))=>jcn (s:=s) (es:=es) hLb;simp only[hAb,hAb',KB,F1,K1,G1,go_sem];refine jbz (A,b) ⟨hAb,hLA,hLb⟩ ?_ ?_ ?_
    ·simp only[zr,zE,go_sem]
    ·first | exact SubR.of_eq rfl | exact jg3 (hpne hAb')
    ·rfl
 rintro⟨A,b⟩ ⟨hAb,hLA,hLb⟩;dsimp only at hAb hLA hLb;have ndA:nm.d≠A:=fun e=>by rw[e,hLA]at c0;cases c0
 have hAb':¬b=A:=fun e=>hAb e.symm;have ndb:¬nm.d=b:=fun e=>by rw[e,hLb]at c0;cases c0
 have KB:=fun(s:Nat) (es:List (List IV))=>jcn (s:=s) (es:=es) hLb;clear kz;simp only[hAb,hAb',KB,F1,K1,G1,go_sem];clear KB;obtain⟨M0,hM0e,hM0,hs0,hl0,hz0⟩:∃M0,M0=(hp b,5,[lineC w.val A D.n])::(hp A,4,tab D.n fun _=>qc 0)::L/\blks M0/\SubR L M0/\Abs.look M0 (hp b)=some (5,[lineC w.val A D.n])/\Abs.look M0 (hp A)=some (4,tab D.n fun k=>qc (cfU w.ts 0 k)):=by
  refine⟨_,rfl,jaq (jaq hb),jas hLb (jas hLA (SubR.of_eq rfl)),ja2 _ _ _,?_⟩;rw[ja0 _ _ (hpne hAb),ja2];rfl
 refine jaz [0,1,3,6,8,22,23,24] (fun g:Nat×Abs.Rows=>⟨[(0,.loc (hp nm.d) 6 0 0),(1,.im (.int row)),(3,.im (.bool turned)),(6,.loc 6 6 0 0),(8,.loc (hp b) 5 0 0),(22,.im (.sl (w.ts.map tmC))),(23,.im (.int w.ts.length)),(24,.im (.int g.1))],(6,6,[rwC w])::g.2,[]⟩)
  (fun g=>g.1<=w.ts.length/\blks g.2/\SubR L g.2/\Abs.look g.2 (hp b)=some (5,[lineC w.val A D.n])/\Abs.look g.2 (hp A)=some (4,tab D.n fun k=>qc (cfU w.ts g.1 k))) (fun g=>w.ts.length-g.1) (0,M0) ?_ ?_ rfl
  ⟨zG _,hM0,hs0,hl0,hz0⟩ ?_
 ·simp only[Int.natCast_zero,go_sem]
 ·show SubR ((6,6,[rwC w])::M0) ((hp b,5,[lineC w.val A D.n])::(hp A,4,tab D.n fun _=>qc 0)::(6,6,[rwC w])::L);refine jb3 ?_ ?_
  ·rw[ja0 _ _ (hp_ne (by decide)),ja0 _ _ (hp_ne (by decide)),ja2]
  ·rw[hM0e];exact jax _ (jax _ (ja3 (by decide) hb (SubR.refl _)))
 clear hl0 hz0 hM0 hs0 hM0e;rintro⟨i,M⟩ ⟨hi,hM,hsM,hlb,hlA⟩;dsimp only at hi hM hsM hlb hlA;have F2:=bF hM;have K2:=bK hM;have G2:=bN hM;rcases zX i w.ts.length with hlt | hlt
 ·have hd:decide ((i:Int)<w.ts.length)=true:=zk (by omega);obtain⟨t,hti⟩:=jbq (l:=w.ts) (i:=i) (by omega);have h1:=ja9 (n:=(i:Int)+1) (by omega);obtain⟨g1,g2,g3⟩:=jmv hRT hti;have hg:=tget hti;simp only[fc]at hg;have v0:(0:Int)<=t.1:=by omega
  have vN:(t.1:Int)<D.n:=by omega
  have hq:=qget (f:=fun k=>cfU w.ts i k) g2;simp only[hd,hg,hlb,hlA,hq,v0,vN,jac,Int.toNat_natCast,F2,K2,G2,go_sem];refine jae (i+1,M.map (fun p=>if p.1=hp A then(p.1,4,(tab D.n fun k=>qc (cfU w.ts i k)).set t.1 (fc t.2))else p)) ?_ ?_ rfl (by show w.ts.length-(i+1)<w.ts.length-i;omega)
   ⟨hlt,jb5 hM,jgq hLA hsM,(jag (hpne hAb')).trans hlb,(jab hlA).trans ?_⟩
  ·simp only[h1,Int.natCast_add,go_sem]
  ·show SubR ((6,6,[rwC w])::_) ((10,5,[tmC t])::(6,6,[rwC w])::_);refine jas ?_ (SubR.of_eq rfl);rw[ja0 _ _ (by dsimp only;decide)];exact jb1 (jb5 hM) (by dsimp only;decide)
  ·rw[qset];congr 2;refine jaw fun k hk=>qb qc ?_;rw[LP.cfU_succ hti]
 have hd:decide ((i:Int)<w.ts.length)=false:=za (by omega);have hie:i=w.ts.length:=by omega
 subst hie;simp only[hd,go_sem];refine jcm (fun hh=>by rw[ht]at hh;cases hh) (fun _=> ?_);obtain⟨f,hf0⟩:∃f,f=fun k=>cfU w.ts w.ts.length k:=⟨_,rfl⟩;obtain⟨v,hv0⟩:∃v,v=w.val:=⟨_,rfl⟩;rw[<-hv0]at hlb;simp only[<-vI hf0]at hlA;have hv:v=if turned=true then-w.val else w.val:=by rw[ht,hv0];rfl
 have hf:∀k,f k=if turned=true then-cf w.ts k else cf w.ts k:=fun k=>by rw[hf0,ht];exact LP.cfU_all hRT
 simp only[ht,go_sem];have d0:=hsM _ _ c0;by_cases hm0:D.m=0
 ·rw[hm0,jb9,jb9,jb9]at d0;have w1:=ja9 (n:=(D.n:Int)) (by omega);refine jbo [false,false,false,false,false,false,false,false,false,false,false,false,false,false,false,false,true,false,false] [(hp nm.d,6,[[.int D.n,.emp,.ref nm.g 69 4 D.n,.emp,.emp,.emp]])] (by decide+kernel) ?_ ?_
  ·exact jho (by decide) (jar d0)
  simp only[d0,w1,yw,F2,K2,G2,go_sem];refine And.intro (fun c hc=>by rw[zC.1 hc];rfl) ?_;refine je4 (fun X1 hX1=> ?_);have lX1:Abs.look M (hp X1)=none:=by rw[ja0 _ _ (hp_ne (by decide)).symm]at hX1;exact hX1
  clear hX1;have xd:¬X1=nm.d:=fun e=>by rw[e,d0]at lX1;cases lX1
  have xb:¬X1=b:=fun e=>by rw[e,hlb]at lX1;cases lX1
  refine And.intro ?_ ?_
  ·refine jar ?_;rw[ja0 _ _ (hpne (zw xd)),ja0 _ _ (hp_ne (by decide)).symm];exact d0
  simp only[d0,xd,zw xd,jac,F2,K2,G2,go_sem];refine jj5 (List.map (fun p=>if p.1=hp nm.d then(p.1,6,[[.int D.n,.emp,.ref nm.g 69 4 D.n,.ref X1 3 1 1,.emp,.emp]])else p) M) (fun Q2 hQ2e=> ?_);simp only[hQ2e,go_sem];have lQ2:∀k,k≠hp nm.d->Abs.look Q2 k=Abs.look M k:=fun k hk=>by rw[<-hQ2e];exact jag hk
  have dQ2:Abs.look Q2 (hp nm.d)=some (6,[[.int D.n,.emp,.ref nm.g 69 4 D.n,.ref X1 3 1 1,.emp,.emp]]):=by rw[<-hQ2e];exact jab d0
  have bQ2:blks Q2:=hQ2e▸jb5 hM;have bb:Abs.look Q2 (hp b)=some (5,[lineC v A D.n]):=by rw[lQ2 _ (hpne (zw ndb))];exact hlb
  have F3:=bF bQ2;have K3:=bK bQ2;have G3:=bN bQ2;refine jhp [false,false,false,false,false,false,false,false,true,false,false,false,false,false,false,false,false,true,false,false,true] [(hp b,5,[lineC v A D.n]),(hp nm.d,6,[[.int D.n,.emp,.ref nm.g 69 4 D.n,.ref X1 3 1 1,.emp,.emp]])] (by decide+kernel) (by decide+kernel) ?_ ?_
  ·refine jb3 ?_ (jar ?_)
   ·dsimp only;rw[ja0 _ _ (hpne (zw xb)),ja0 _ _ (hp_ne (by decide)).symm];exact bb
   ·dsimp only;rw[ja0 _ _ (hpne (zw xd)),ja0 _ _ (hp_ne (by decide)).symm];exact dQ2
  simp only[dQ2,bb,xd,zw xd,xb,zw xb,ndb,zw ndb,jac,jc9,F3,K3,G3,go_sem];refine And.intro (fun c hc=>by rw[zC.1 hc];rfl) ?_;refine je4 (fun X2 hX2=> ?_);have lX2:¬X2=X1/\Abs.look Q2 (hp X2)=none:=by
   have e1:¬X2=X1:=fun e=>by rw[e,ja2]at hX2;cases hX2
   rw[ja0 _ _ (hpne e1),ja0 _ _ (hp_ne (by decide)).symm]at hX2;exact⟨e1,hX2⟩
  clear hX2;obtain⟨x21,lX2⟩:=lX2;have yd:¬X2=nm.d:=fun e=>by rw[e,dQ2]at lX2;cases lX2
  have yb:¬X2=b:=fun e=>by rw[e,bb]at lX2;cases lX2
  refine And.intro ?_ ?_
  ·refine jb3 ?_ (jar ?_)
   ·rw[ja0 _ _ (hpne (zw yb)),ja0 _ _ (hpne (zw xb)),ja0 _ _ (hp_ne (by decide)).symm];exact bb
   ·rw[ja0 _ _ (hpne (zw yd)),ja0 _ _ (hpne (zw xd)),ja0 _ _ (hp_ne (by decide)).symm];exact dQ2
  simp only[dQ2,x21,zw x21,xd,zw xd,yd,zw yd,jac,jc9,F3,K3,G3,go_sem];refine And.intro (fun c hc=>by rw[zC.1 hc];rfl) ?_;refine je4 (fun X3 hX3=> ?_);have lX3:¬X3=X2/\¬X3=X1/\Abs.look Q2 (hp X3)=none:=by
   have e1:¬X3=X2:=fun e=>by rw[e,ja2]at hX3;cases hX3
   rw[ja0 _ _ (hpne e1)]at hX3;have e2:¬X3=X1:=fun e=>by rw[e,ja2]at hX3;cases hX3
   rw[ja0 _ _ (hpne e2),ja0 _ _ (hp_ne (by decide)).symm]at hX3;exact⟨e1,e2,hX3⟩
  clear hX3;obtain⟨x32,x31,lX3⟩:=lX3;have zd:¬X3=nm.d:=fun e=>by rw[e,dQ2]at lX3;cases lX3
  have zb:¬X3=b:=fun e=>by rw[e,bb]at lX3;cases lX3
  refine And.intro ?_ ?_
  ·refine jb3 ?_ (jar ?_)
   ·rw[ja0 _ _ (hpne (zw zb)),ja0 _ _ (hpne (zw yb)),ja0 _ _ (hpne (zw xb)),ja0 _ _ (hp_ne (by decide)).symm];exact bb
   ·rw[ja0 _ _ (hpne (zw zd)),ja0 _ _ (hpne (zw yd)),ja0 _ _ (hpne (zw xd)),ja0 _ _ (hp_ne (by decide)).symm];exact dQ2
  have lm:=fun(s:Nat) (es:List (List IV))=>jab (L:=Q2) (k:=hp nm.d) (s:=s) (es:=es) dQ2;simp only[dQ2,lm,x21,zw x21,x31,zw x31,x32,zw x32,xd,zw xd,yd,zw yd,zd,zw zd,jac,jc9,F3,K3,G3,go_sem];refine jb6 ?_;simp only[go_sem];have A4:Abs.look Q2 (hp A)=some (4,tab D.n fun j=>qc (f j)):=by
   rw[lQ2 _ (hpne (zw ndA))];exact hlA
  have xA:¬X1=A:=fun e=>by rw[e,hlA]at lX1;cases lX1
  have yA:¬X2=A:=fun e=>by rw[e,A4]at lX2;cases lX2
  have zA:¬X3=A:=fun e=>by rw[e,A4]at lX3;cases lX3
  refine h.step (X1:=X1) (X2:=X2) (X3:=X3) (A:=A) (f:=f) (v:=v) jdc ?_ ?_ ?_ ?_ ?_ ⟨fun k x hk h1 h2=> ?_⟩ (zw xd) (zw yd) (zw zd) ndA (zw x21) (zw x31) xA (zw x32) yA zA ?_ ?_
  ·rw[jaf,ja0 _ _ (hpne (zw zd)),ja0 _ _ (hpne (zw yd)),ja0 _ _ (hpne (zw xd)),ja0 _ _ (hp_ne (by decide)).symm,hm0];exact jab (jab dQ2)
  ·rw[jaf,ja0 _ _ (hpne (zw x31)),ja0 _ _ (hpne (zw x21)),ja2,oc,hm0];rfl
  ·rw[jaf,ja0 _ _ (hpne (zw x32)),ja2,hm0];rfl
  ·rw[jaf,ja2,ht,hm0];rfl
  ·rw[jaf,ja0 _ _ (hpne (zw zA)),ja0 _ _ (hpne (zw yA)),ja0 _ _ (hpne (zw xA)),ja0 _ _ (hp_ne (by decide)).symm,jag (hpne (zw ndA)),jag (hpne (zw ndA))];exact A4
  ·have m1:=hsM _ _ hk;have m4:Abs.look Q2 (hp k)=some x:=by rw[lQ2 _ (hpne h1)];exact m1
   have n1:k≠X1:=fun e=>by rw[<-e,m1]at lX1;cases lX1
   have n2:k≠X2:=fun e=>by rw[<-e,m4]at lX2;cases lX2
   have n3:k≠X3:=fun e=>by rw[<-e,m4]at lX3;cases lX3
   refine⟨?_,n1,n2,n3,fun e=>by rw[<-e,hk]at hLA;cases hLA⟩;rw[jaf,ja0 _ _ (hpne n3),ja0 _ _ (hpne n2),ja0 _ _ (hpne n1),ja0 _ _ (hp_ne (by decide)).symm,jag (hpne h1),jag (hpne h1)];exact m4
  ·exact hv
  ·exact hf
 ·rw[jap hm0,jap hm0,jap hm0]at d0;refine jbo [false,false,false,false,false,false,false,false,false,false,false,false,false,false,false,false,true,false,false] [(hp nm.d,6,[[.int D.n,.ref nm.r 235 5 D.m,.ref nm.g 69 4 D.n,.ref nm.o 3 1 D.m,.emp,.ref nm.s 246 2 D.m]])] (by decide+kernel) ?_ ?_
  ·exact jho (by decide) (jar d0)
  have do':=hsM _ _ (h.ho hm0)
  have dr':=hsM _ _ (h.hr hm0);have ds':=hsM _ _ (h.hs hm0);have ap:=h.ap hm0;have nbo:b≠nm.o:=fun e=>by rw[e,h.ho hm0]at hLb;cases hLb
  have nbr:b≠nm.r:=fun e=>by rw[e,h.hr hm0]at hLb;cases hLb
  have nbs:b≠nm.s:=fun e=>by rw[e,h.hs hm0]at hLb;cases hLb
  have nAo:A≠nm.o:=fun e=>by rw[e,h.ho hm0]at hLA;cases hLA
  have nAr:A≠nm.r:=fun e=>by rw[e,h.hr hm0]at hLA;cases hLA
  have nAs:A≠nm.s:=fun e=>by rw[e,h.hs hm0]at hLA;cases hLA
  have w1:=ja9 (n:=(D.n:Int)+D.m) (by omega);simp only[d0,do',w1,jac,jc9,F2,K2,G2,go_sem];refine And.intro (fun c hc=>by rw[zC.1 hc];rfl) (And.intro (zu _) (And.intro (by omega) ?_));refine jdk (fun X1 hX1=> ?_);obtain⟨Q,hQe⟩:∃Q,Abs.del M (hp nm.o)=Q:=⟨_,rfl⟩;have lQ:∀k,k≠hp nm.o->Abs.look Q k=Abs.look M k:=fun k hk=>by rw[<-hQe];exact ja8 _ hk
  have bQ:blks Q:=hQe▸jbc hM;have lX1:Abs.look Q (hp X1)=none:=by
   rw[show Abs.del ((6,6,_)::M) (hp nm.o)=(6,6,_)::Abs.del M (hp nm.o)from jah (hp_ne (by decide))]at hX1;rw[ja0 _ _ (hp_ne (by decide)).symm,hQe]at hX1;exact hX1
  clear hX1;have hQf:List.filter (fun p=>p.1 !=hp nm.o) M=Q:=hQe;have b6:∀k,(6 !=hp k)=true:=fun k=>by simp only[qq,ne_eq];exact hp_ne (by decide)
  have xd:¬X1=nm.d:=fun e=>by rw[e,lQ _ (hpne ap.d_o),d0]at lX1;cases lX1
  have xr:¬X1=nm.r:=fun e=>by rw[e,lQ _ (hpne ap.ro),dr']at lX1;cases lX1
  have xb:¬X1=b:=fun e=>by rw[e,lQ _ (hpne nbo),hlb]at lX1;cases lX1
  have xs:¬X1=nm.s:=fun e=>by rw[e,lQ _ (hpne (zw ap.os)),ds']at lX1;cases lX1
  have nod:¬nm.d=nm.o:=ap.d_o;have d1:=(lQ _ (hpne ap.d_o)).trans d0;refine And.intro ?_ ?_
  ·refine jar ?_;rw[ja0 _ _ (hpne (zw xd)),ja8 _ (hpne nod),ja0 _ _ (hp_ne (by decide)).symm];exact d0
  simp only[d1,xd,zw xd,b6,hQf,nod,jac,F2,K2,G2,go_sem];refine jj5 (List.map (fun p=>if p.1=hp nm.d then(p.1,6,[[.int D.n,.ref nm.r 235 5 D.m,.ref nm.g 69 4 D.n,.ref X1 3 1 (D.m+1),.emp,.ref nm.s 246 2 D.m]])else p) Q) (fun Q2 hQ2e=> ?_);simp only[hQ2e,go_sem];have lQ2:∀k,k≠hp nm.d->Abs.look Q2 k=Abs.look Q k:=fun k hk=>by rw[<-hQ2e];exact jag hk
  have dQ2:Abs.look Q2 (hp nm.d)=some (6,[[.int D.n,.ref nm.r 235 5 D.m,.ref nm.g 69 4 D.n,.ref X1 3 1 (D.m+1),.emp,.ref nm.s 246 2 D.m]]):=by rw[<-hQ2e];exact jab d1
  have bQ2:blks Q2:=hQ2e▸jb5 bQ;have bb:Abs.look Q2 (hp b)=some (5,[lineC v A D.n]):=by rw[lQ2 _ (hpne (zw ndb)),lQ _ (hpne nbo)];exact hlb
  have rr:Abs.look Q2 (hp nm.r)=some (5,tab D.m fun i=>lineC (D.v i) (nm.a i) D.n):=by rw[lQ2 _ (hpne (zw ap.dr)),lQ _ (hpne ap.ro)];exact dr'
  have ss:Abs.look Q2 (hp nm.s)=some (2,tab D.m fun i=>srcC (src i)):=by rw[lQ2 _ (hpne (zw ap.ds)),lQ _ (hpne (zw ap.os))];exact ds'
  have F3:=bF bQ2;have K3:=bK bQ2;have G3:=bN bQ2;refine jhp [false,false,false,false,false,false,false,false,true,false,false,false,false,false,false,false,false,true,false,false,true] [(hp b,5,[lineC v A D.n]),(hp nm.d,6,[[.int D.n,.ref nm.r 235 5 D.m,.ref nm.g 69 4 D.n,.ref X1 3 1 (D.m+1),.emp,.ref nm.s 246 2 D.m]])] (by decide+kernel) (by decide+kernel) ?_ ?_
  ·refine jb3 ?_ (jar ?_)
   ·dsimp only;rw[ja0 _ _ (hpne (zw xb)),ja0 _ _ (hp_ne (by decide)).symm];exact bb
   ·dsimp only;rw[ja0 _ _ (hpne (zw xd)),ja0 _ _ (hp_ne (by decide)).symm];exact dQ2
  simp only[dQ2,bb,rr,xd,zw xd,xb,zw xb,xr,zw xr,xs,zw xs,ndb,zw ndb,jac,jc9,F3,K3,G3,go_sem];refine And.intro (fun c hc=>by rw[zC.1 hc];rfl) (And.intro (zu _) (And.intro (by omega) ?_));refine jdk (fun X2 hX2=> ?_);obtain⟨Q3,hQ3e⟩:∃Q3,Abs.del Q2 (hp nm.r)=Q3:=⟨_,rfl⟩;have lQ3:∀k,k≠hp nm.r->Abs.look Q3 k=Abs.look Q2 k:=fun k hk=>by rw[<-hQ3e];exact ja8 _ hk
  have bQ3:blks Q3:=hQ3e▸jbc bQ2;have lX2:¬X2=X1/\Abs.look Q3 (hp X2)=none:=by
   rw[jah (hpne xr),jah (hp_ne (by decide)),hQ3e]at hX2;have e1:¬X2=X1:=fun e=>by rw[e,ja2]at hX2;cases hX2
   rw[ja0 _ _ (hpne e1),ja0 _ _ (hp_ne (by decide)).symm]at hX2;exact⟨e1,hX2⟩
  clear hX2;obtain⟨x21,lX2⟩:=lX2;have hQ3f:List.filter (fun p=>p.1 !=hp nm.r) Q2=Q3:=hQ3e;have ndr:¬nm.d=nm.r:=ap.dr;have d3:=(lQ3 _ (hpne ndr)).trans dQ2;have b3:=(lQ3 _ (hpne nbr)).trans bb;have s3:=(lQ3 _ (hpne (zw ap.rs))).trans ss;have yd:¬X2=nm.d:=fun e=>by rw[e,d3]at lX2;cases lX2
  have yb:¬X2=b:=fun e=>by rw[e,b3]at lX2;cases lX2
  have ys:¬X2=nm.s:=fun e=>by rw[e,s3]at lX2;cases lX2
  have F4:=bF bQ3;have K4:=bK bQ3;have G4:=bN bQ3;refine And.intro ?_ ?_
  ·rw[jah (hpne xr),jah (hp_ne (by decide)),hQ3e];refine jb3 ?_ (jar ?_)
   ·rw[ja0 _ _ (hpne (zw yb)),ja0 _ _ (hpne (zw xb)),ja0 _ _ (hp_ne (by decide)).symm];exact b3
   ·rw[ja0 _ _ (hpne (zw yd)),ja0 _ _ (hpne (zw xd)),ja0 _ _ (hp_ne (by decide)).symm];exact d3
  have bn1:(hp X1 !=hp nm.r)=true:=by simp only[qq,ne_eq];exact hpne xr
  simp only[d3,s3,x21,zw x21,xd,zw xd,xs,zw xs,yd,zw yd,ys,zw ys,xr,bn1,b6,hQ3f,jac,jc9,F4,K4,G4,go_sem];refine And.intro (fun c hc=>by rw[zC.1 hc];rfl) (And.intro (zu _) (And.intro (by omega) ?_));refine jdk (fun X3 hX3=> ?_);obtain⟨Q4,hQ4e⟩:∃Q4,Abs.del Q3 (hp nm.s)=Q4:=⟨_,rfl⟩;have lQ4:∀k,k≠hp nm.s->Abs.look Q4 k=Abs.look Q3 k:=fun k hk=>by rw[<-hQ4e];exact ja8 _ hk
  have bQ4:blks Q4:=hQ4e▸jbc bQ3;have lX3:¬X3=X2/\¬X3=X1/\Abs.look Q4 (hp X3)=none:=by
   rw[jah (hpne ys),jah (hpne xs),jah (hp_ne (by decide)),hQ4e]at hX3;have e1:¬X3=X2:=fun e=>by rw[e,ja2]at hX3;cases hX3
   rw[ja0 _ _ (hpne e1)]at hX3;have e2:¬X3=X1:=fun e=>by rw[e,ja2]at hX3;cases hX3
   rw[ja0 _ _ (hpne e2),ja0 _ _ (hp_ne (by decide)).symm]at hX3;exact⟨e1,e2,hX3⟩
  clear hX3;obtain⟨x32,x31,lX3⟩:=lX3;have hQ4f:List.filter (fun p=>p.1 !=hp nm.s) Q3=Q4:=hQ4e;have nds:¬nm.d=nm.s:=ap.ds;have d4:=(lQ4 _ (hpne nds)).trans d3;have b4:=(lQ4 _ (hpne nbs)).trans b3;have zd:¬X3=nm.d:=fun e=>by rw[e,d4]at lX3;cases lX3
  have zb:¬X3=b:=fun e=>by rw[e,b4]at lX3;cases lX3
  have F5:=bF bQ4;have K5:=bK bQ4;have G5:=bN bQ4;refine And.intro ?_ ?_
  ·rw[jah (hpne ys),jah (hpne xs),jah (hp_ne (by decide)),hQ4e];refine jb3 ?_ (jar ?_)
   ·rw[ja0 _ _ (hpne (zw zb)),ja0 _ _ (hpne (zw yb)),ja0 _ _ (hpne (zw xb)),ja0 _ _ (hp_ne (by decide)).symm];exact b4
   ·rw[ja0 _ _ (hpne (zw zd)),ja0 _ _ (hpne (zw yd)),ja0 _ _ (hpne (zw xd)),ja0 _ _ (hp_ne (by decide)).symm];exact d4
  have bn2:(hp X1 !=hp nm.s)=true:=by simp only[qq,ne_eq];exact hpne xs
  have bn3:(hp X2 !=hp nm.s)=true:=by simp only[qq,ne_eq];exact hpne ys
  have lm:=fun(s:Nat) (es:List (List IV))=>jab (L:=Q4) (k:=hp nm.d) (s:=s) (es:=es) d4;simp only[d4,lm,x21,zw x21,x31,zw x31,x32,zw x32,xd,zw xd,yd,zw yd,zd,zw zd,xs,ys,bn2,bn3,b6,hQ4f,jac,jc9,F5,K5,G5,go_sem];refine jb6 ?_;simp only[go_sem];have A4:Abs.look Q4 (hp A)=some (4,tab D.n fun j=>qc (f j)):=by
   rw[lQ4 _ (hpne nAs),lQ3 _ (hpne nAr),lQ2 _ (hpne (zw ndA)),lQ _ (hpne nAo)];exact hlA
  have A3:Abs.look Q3 (hp A)=some (4,tab D.n fun j=>qc (f j)):=by rw[<-lQ4 _ (hpne nAs)];exact A4
  have A1:Abs.look Q (hp A)=some (4,tab D.n fun j=>qc (f j)):=by rw[lQ _ (hpne nAo)];exact hlA
  have xA:¬X1=A:=fun e=>by rw[e,A1]at lX1;cases lX1
  have yA:¬X2=A:=fun e=>by rw[e,A3]at lX2;cases lX2
  have zA:¬X3=A:=fun e=>by rw[e,A4]at lX3;cases lX3
  refine h.step (X1:=X1) (X2:=X2) (X3:=X3) (A:=A) (f:=f) (v:=v) jdc ?_ ?_ ?_ ?_ ?_ ⟨fun k x hk h1 h2=> ?_⟩ (zw xd) (zw yd) (zw zd) ndA (zw x21) (zw x31) xA (zw x32) yA zA ?_ ?_
  ·rw[jaf,ja0 _ _ (hpne (zw zd)),ja0 _ _ (hpne (zw yd)),ja0 _ _ (hpne (zw xd)),ja0 _ _ (hp_ne (by decide)).symm];exact jab (jab d4)
  ·rw[jaf,ja0 _ _ (hpne (zw x31)),ja0 _ _ (hpne (zw x21)),ja2,oc,Int.natCast_add]
  ·rw[jaf,ja0 _ _ (hpne (zw x32)),ja2];rfl
  ·rw[jaf,ja2,ht];rfl
  ·rw[jaf,ja0 _ _ (hpne (zw zA)),ja0 _ _ (hpne (zw yA)),ja0 _ _ (hpne (zw xA)),ja0 _ _ (hp_ne (by decide)).symm,jag (hpne (zw ndA)),jag (hpne (zw ndA))];exact A4
  ·obtain⟨k1,k2,k3⟩:=h2 hm0;have m1:=hsM _ _ hk;have m2:Abs.look Q (hp k)=some x:=by rw[lQ _ (hpne k1)];exact m1
   have m3:Abs.look Q3 (hp k)=some x:=by rw[lQ3 _ (hpne k2),lQ2 _ (hpne h1)];exact m2
   have m4:Abs.look Q4 (hp k)=some x:=by rw[lQ4 _ (hpne k3)];exact m3
   have n1:k≠X1:=fun e=>by rw[<-e,m2]at lX1;cases lX1
   have n2:k≠X2:=fun e=>by rw[<-e,m3]at lX2;cases lX2
   have n3:k≠X3:=fun e=>by rw[<-e,m4]at lX3;cases lX3
   refine⟨?_,n1,n2,n3,fun e=>by rw[<-e,hk]at hLA;cases hLA⟩;rw[jaf,ja0 _ _ (hpne n3),ja0 _ _ (hpne n2),ja0 _ _ (hpne n1),ja0 _ _ (hp_ne (by decide)).symm,jag (hpne h1),jag (hpne h1)];exact m4
  ·exact hv
  ·exact hf
theorem x_putT(h:HasO L nm D src)(w:Rw)(row:Nat)(turned:Bool)(ht:turned=true)(hN:D.n<=100000)(hm:D.m<=10000)(hRT:RT w.ts 0 D.n)(hts:∀t∈w.ts,FL 100000000 t.2)(hval:FL 100000000 w.val)(hlen:w.ts.length<=100000):
  CtrH G.P 181 [.loc (hp nm.d) 6 0 0,.im (.int row),.im (.agg (rwC w)),.im (.bool turned)] L
   (fun x L'=>x= .im (.tup [])/\∃nm':DN,nm'.d=nm.d/\HasO L' nm' (D.put w turned) (jel D src row turned)):=by
 have hb:=h.blk;have F1:=bF hb;have K1:=bK hb;have G1:=bN hb;have c0:=h.hd;have kz:=jht D.n hN;refine jan [8,73,84,93] [] [] Tryz.func181 ?_;simp only[F1,K1,G1,go_sem];refine jhr (ι:=Nat×Nat) (fun i=>⟨[(0,.loc (hp nm.d) 6 0 0),(1,.im (.int row)),(3,.im (.bool turned)),(6,.loc 6 6 0 0),(8,.loc (hp i.2) 5 0 0)],(hp i.2,5,[lineC w.val i.1 D.n])::(hp i.1,4,tab D.n fun _=>qc 0)::(6,6,[rwC w])::L,[]⟩) (fun i=>¬i.1=i.2/\Abs.look L (hp i.1)=none/\Abs.look L (hp i.2)=none) ?_ ?_
 ·as_aux_lemma=>
   have hs0:SubR [(6,6,[rwC w]),(hp nm.d,6,[[.int D.n,sl0 nm.r 235 5 D.m,.ref nm.g 69 4 D.n,sl0 nm.o 3 1 D.m,.emp,sl0 nm.s 246 2 D.m]])] ((6,6,[rwC w])::L):=jax _ (jar c0);refine jhq [false,false,false,false,false,false,true,true,true] (.alt 6 (.alt 7 (.alt 8 .fin .none) (.alt 8 (.alt 7 .fin .none) .none)) (.alt 8 (.alt 6 (.alt 7 .fin .none) .none) .none)) [(6,6,[rwC w]),(hp nm.d,6,[[.int D.n,sl0 nm.r 235 5 D.m,.ref nm.g 69 4 D.n,sl0 nm.o 3 1 D.m,.emp,sl0 nm.s 246 2 D.m]])] (by decide+kernel) hs0 ?_;simp only[F1,K1,G1,go_sem];refine And.intro ?_ ?_
   ·refine jbb kz (by decide) rfl jb0 ja7 ?_;rintro _ L0 ⟨A,rfl,hA0,hA1,hA2⟩ hfr;have hnA:=(hfr (hp A) (by rw[hA1];rfl)).resolve_left (by simp[Abs.look]);clear hfr;refine⟨(hp A,4,tab D.n fun _=>qc 0)::_,jc8 hA1,?_⟩;clear hA0 hA1 hA2;have hsA:=jd9 (v:=(4,tab D.n fun _=>qc 0)) hnA hs0;refine And.intro hsA ?_;simp only[F1,K1,G1,go_sem];refine And.intro ?_ ?_
    ·refine And.intro hsA ?_
     try simp only[F1,K1,G1,go_sem]
     refine jbn (fun b hb0=>And.intro (jd9 hb0 hsA) ?_);simp only[F1,K1,G1,go_sem];have hLA:Abs.look L (hp A)=none:=by first | exact jbf (jbf hnA) | exact jbf hnA
     have hLb:Abs.look L (hp b)=none:=by first | exact jbf (jbf hb0) | exact jbf hb0
     have hAb:¬A=b:=by first | exact fun e=>by rw[e,ja2]at hb0;cases hb0 | exact fun e=>by rw[<-e,ja2]at hnA;cases hnA
     have hAb':¬b=A:=fun e=>hAb e.symm;have KB:=fun(s:Nat) (es:List (List IV))=>jcn (s:=s) (es:=es) hLb;simp only[hAb,hAb',KB,F1,K1,G1,go_sem];refine jbz (A,b) ⟨hAb,hLA,hLb⟩ ?_ ?_ ?_
     ·simp only[zr,zE,go_sem]
     ·first | exact SubR.of_eq rfl | exact jg3 (hpne hAb')
     ·rfl
    ·refine jbn (fun b hb0=>And.intro (jd9 hb0 hsA) ?_);simp only[F1,K1,G1,go_sem];refine And.intro (jd9 hb0 hsA) ?_
     try simp only[F1,K1,G1,go_sem]
     have hLA:Abs.look L (hp A)=none:=by first | exact jbf (jbf hnA) | exact jbf hnA
     have hLb:Abs.look L (hp b)=none:=by first | exact jbf (jbf hb0) | exact jbf hb0
     have hAb:¬A=b:=by first | exact fun e=>by rw[e,ja2]at hb0;cases hb0 | exact fun e=>by rw[<-e,ja2]at hnA;cases hnA
     have hAb':¬b=A:=fun e=>hAb e.symm;have KB:=fun(s:Nat) (es:List (List IV))=>jcn (s:=s) (es:=es) hLb;simp only[hAb,hAb',KB,F1,K1,G1,go_sem];refine jbz (A,b) ⟨hAb,hLA,hLb⟩ ?_ ?_ ?_
     ·simp only[zr,zE,go_sem]
     ·first | exact SubR.of_eq rfl | exact jg3 (hpne hAb')
     ·rfl
   ·refine jbn (fun b hb0=>And.intro (jd9 hb0 hs0) ?_);simp only[F1,K1,G1,go_sem];refine jbb kz (by decide) rfl jb0 ja7 ?_;rintro _ L0 ⟨A,rfl,hA0,hA1,hA2⟩ hfr;have hnA:=(hfr (hp A) (by rw[hA1];rfl)).resolve_left (by simp[Abs.look]);clear hfr;refine⟨(hp A,4,tab D.n fun _=>qc 0)::_,jc8 hA1,?_⟩;clear hA0 hA1 hA2;refine And.intro (jd9 hnA (jd9 hb0 hs0)) ?_;simp only[F1,K1,G1,go_sem];refine And.intro (jd9 hnA (jd9 hb0 hs0)) ?_
    try simp only[F1,K1,G1,go_sem]
    have hLA:Abs.look L (hp A)=none:=by first | exact jbf (jbf hnA) | exact jbf hnA
    have hLb:Abs.look L (hp b)=none:=by first | exact jbf (jbf hb0) | exact jbf hb0
    have hAb:¬A=b:=by first | exact fun e=>by rw[e,ja2]at hb0;cases hb0 | exact fun e=>by rw[<-e,ja2]at hnA;cases hnA
    have hAb':¬b=A:=fun e=>hAb e.symm;have KB:=fun(s:Nat) (es:List (List IV))=>jcn (s:=s) (es:=es) hLb;simp only[hAb,hAb',KB,F1,K1,G1,go_sem];refine jbz (A,b) ⟨hAb,hLA,hLb⟩ ?_ ?_ ?_
    ·simp only[zr,zE,go_sem]
    ·first | exact SubR.of_eq rfl | exact jg3 (hpne hAb')
    ·rfl
 rintro⟨A,b⟩ ⟨hAb,hLA,hLb⟩;dsimp only at hAb hLA hLb;have ndA:nm.d≠A:=fun e=>by rw[e,hLA]at c0;cases c0
 have hAb':¬b=A:=fun e=>hAb e.symm;have ndb:¬nm.d=b:=fun e=>by rw[e,hLb]at c0;cases c0
 have KB:=fun(s:Nat) (es:List (List IV))=>jcn (s:=s) (es:=es) hLb;clear kz;simp only[hAb,hAb',KB,F1,K1,G1,go_sem];clear KB;obtain⟨M0,hM0e,hM0,hs0,hl0,hz0⟩:∃M0,M0=(hp b,5,[lineC w.val A D.n])::(hp A,4,tab D.n fun _=>qc 0)::L/\blks M0/\SubR L M0/\Abs.look M0 (hp b)=some (5,[lineC w.val A D.n])/\Abs.look M0 (hp A)=some (4,tab D.n fun k=>qc (cfU w.ts 0 k)):=by
  refine⟨_,rfl,jaq (jaq hb),jas hLb (jas hLA (SubR.of_eq rfl)),ja2 _ _ _,?_⟩;rw[ja0 _ _ (hpne hAb),ja2];rfl
 refine jaz [0,1,3,6,8,22,23,24] (fun g:Nat×Abs.Rows=>⟨[(0,.loc (hp nm.d) 6 0 0),(1,.im (.int row)),(3,.im (.bool turned)),(6,.loc 6 6 0 0),(8,.loc (hp b) 5 0 0),(22,.im (.sl (w.ts.map tmC))),(23,.im (.int w.ts.length)),(24,.im (.int g.1))],(6,6,[rwC w])::g.2,[]⟩)
  (fun g=>g.1<=w.ts.length/\blks g.2/\SubR L g.2/\Abs.look g.2 (hp b)=some (5,[lineC w.val A D.n])/\Abs.look g.2 (hp A)=some (4,tab D.n fun k=>qc (cfU w.ts g.1 k))) (fun g=>w.ts.length-g.1) (0,M0) ?_ ?_ rfl
  ⟨zG _,hM0,hs0,hl0,hz0⟩ ?_
 ·simp only[Int.natCast_zero,go_sem]
 ·show SubR ((6,6,[rwC w])::M0) ((hp b,5,[lineC w.val A D.n])::(hp A,4,tab D.n fun _=>qc 0)::(6,6,[rwC w])::L);refine jb3 ?_ ?_
  ·rw[ja0 _ _ (hp_ne (by decide)),ja0 _ _ (hp_ne (by decide)),ja2]
  ·rw[hM0e];exact jax _ (jax _ (ja3 (by decide) hb (SubR.refl _)))
 clear hl0 hz0 hM0 hs0 hM0e;rintro⟨i,M⟩ ⟨hi,hM,hsM,hlb,hlA⟩;dsimp only at hi hM hsM hlb hlA;have F2:=bF hM;have K2:=bK hM;have G2:=bN hM;rcases zX i w.ts.length with hlt | hlt
 ·have hd:decide ((i:Int)<w.ts.length)=true:=zk (by omega);obtain⟨t,hti⟩:=jbq (l:=w.ts) (i:=i) (by omega);have h1:=ja9 (n:=(i:Int)+1) (by omega);obtain⟨g1,g2,g3⟩:=jmv hRT hti;have hg:=tget hti;simp only[fc]at hg;have v0:(0:Int)<=t.1:=by omega
  have vN:(t.1:Int)<D.n:=by omega
  have hq:=qget (f:=fun k=>cfU w.ts i k) g2;simp only[hd,hg,hlb,hlA,hq,v0,vN,jac,Int.toNat_natCast,F2,K2,G2,go_sem];refine jae (i+1,M.map (fun p=>if p.1=hp A then(p.1,4,(tab D.n fun k=>qc (cfU w.ts i k)).set t.1 (fc t.2))else p)) ?_ ?_ rfl (by show w.ts.length-(i+1)<w.ts.length-i;omega)
   ⟨hlt,jb5 hM,jgq hLA hsM,(jag (hpne hAb')).trans hlb,(jab hlA).trans ?_⟩
  ·simp only[h1,Int.natCast_add,go_sem]
  ·show SubR ((6,6,[rwC w])::_) ((10,5,[tmC t])::(6,6,[rwC w])::_);refine jas ?_ (SubR.of_eq rfl);rw[ja0 _ _ (by dsimp only;decide)];exact jb1 (jb5 hM) (by dsimp only;decide)
  ·rw[qset];congr 2;refine jaw fun k hk=>qb qc ?_;rw[LP.cfU_succ hti]
 have hd:decide ((i:Int)<w.ts.length)=false:=za (by omega);have hie:i=w.ts.length:=by omega
 subst hie;simp only[hd,go_sem];refine jcm (fun _=> ?_) (fun hh=>by rw[ht]at hh;cases hh);have kn:=f_neg (hval.mono (by omega:100000000<=19000000000));have hv1: -w.val=if turned=true then-w.val else w.val:=by rw[ht];rfl
 obtain⟨v,hv0⟩:∃v,v= -w.val:=⟨_,rfl⟩;have hv:v=if turned=true then-w.val else w.val:=hv0.trans hv1
 clear hv1;rw[<-hv0]at kn;clear hv0;simp only[frac,ints]at kn;simp only[ht,hlb,F2,K2,G2,go_sem];refine ja1 kn ?_;simp only[ht,hlb,F2,K2,G2,go_sem];clear kn;obtain⟨f0,hf0⟩:∃f0,f0=fun k=>cfU w.ts w.ts.length k:=⟨_,rfl⟩;simp only[<-vI hf0]at hlA;obtain⟨M1,hM1e,hM1,hs1,hl1,hz1⟩:∃M1,M1=M.map (fun p=>if p.1=hp b then(p.1,5,[lineC v A D.n])else p)/\blks M1/\SubR L M1/\Abs.look M1 (hp b)=some (5,[lineC v A D.n])/\Abs.look M1 (hp A)=some (4,tab D.n fun k=>qc (ngU w.ts f0 0 k)):=
  ⟨_,rfl,jb5 hM,jgq hLb hsM,jab hlb,(jag (hpne hAb)).trans hlA⟩
 refine jaz [0,1,3,6,8,42,43,44] (fun g:Nat×Abs.Rows=>⟨[(0,.loc (hp nm.d) 6 0 0),(1,.im (.int row)),(3,.im (.bool true)),(6,.loc 6 6 0 0),(8,.loc (hp b) 5 0 0),(42,.im (.sl (w.ts.map tmC))),(43,.im (.int w.ts.length)),(44,.im (.int g.1))],(6,6,[rwC w])::g.2,[]⟩)
  (fun g=>g.1<=w.ts.length/\blks g.2/\SubR L g.2/\Abs.look g.2 (hp b)=some (5,[lineC v A D.n])/\Abs.look g.2 (hp A)=some (4,tab D.n fun k=>qc (ngU w.ts f0 g.1 k))) (fun g=>w.ts.length-g.1) (0,M1) ?_ ?_ rfl
  ⟨zG _,hM1,hs1,hl1,hz1⟩ ?_
 ·simp only[Int.natCast_zero,go_sem]
 ·rw[hM1e];exact SubR.of_eq rfl
 clear hl1 hz1 hM1 hs1 hM1e F2 K2 G2 hlb hlA hM hsM hd hi;rintro⟨i,M⟩ ⟨hi,hM,hsM,hlb,hlA⟩;dsimp only at hi hM hsM hlb hlA;have F2:=bF hM;have K2:=bK hM;have G2:=bN hM;rcases zX i w.ts.length with hlt | hlt
 ·have hd:decide ((i:Int)<w.ts.length)=true:=zk (by omega);obtain⟨t,hti⟩:=jbq (l:=w.ts) (i:=i) (by omega);have h1:=ja9 (n:=(i:Int)+1) (by omega);obtain⟨g1,g2,g3⟩:=jmv hRT hti;have hg:=tget hti;have v0:(0:Int)<=t.1:=by omega
  have vN:(t.1:Int)<D.n:=by omega
  have hq:=qget (f:=fun k=>ngU w.ts f0 i k) g2;have kn:=f_neg ((hts t (zl hti)).mono (by omega:100000000<=19000000000));generalize hx: -t.2=x at kn;simp only[frac,ints,fc]at kn hg;simp only[hd,hg,hlb,hlA,hq,v0,vN,jac,Int.toNat_natCast,F2,K2,G2,go_sem];refine jai 8 ?_;simp only[hd,hg,hlb,hlA,hq,v0,vN,jac,Int.toNat_natCast,F2,K2,G2,go_sem];refine ja6 kn (by decide) ?_;simp only[hd,hg,hlb,hlA,hq,v0,vN,jac,Int.toNat_natCast,F2,K2,G2,go_sem];refine jae (i+1,M.map (fun p=>if p.1=hp A then(p.1,4,(tab D.n fun k=>qc (ngU w.ts f0 i k)).set t.1 (fc x))else p)) ?_ ?_ rfl (by show w.ts.length-(i+1)<w.ts.length-i;omega)
   ⟨hlt,jb5 hM,jgq hLA hsM,(jag (hpne hAb')).trans hlb,(jab hlA).trans ?_⟩
  ·simp only[h1,Int.natCast_add,go_sem]
  ·show SubR ((6,6,[rwC w])::_) ((12,5,[tmC t])::(6,6,[rwC w])::_);refine jas ?_ (SubR.of_eq rfl);rw[ja0 _ _ (by dsimp only;decide)];exact jb1 (jb5 hM) (by dsimp only;decide)
  ·rw[qset];congr 2;refine jaw fun k hk=>qb qc ?_;rw[LP.ngU_succ hti,hx]
 have hd:decide ((i:Int)<w.ts.length)=false:=za (by omega);have hie:i=w.ts.length:=by omega
 subst hie;obtain⟨f,hf1⟩:∃f,f=fun k=>ngU w.ts f0 w.ts.length k:=⟨_,rfl⟩;simp only[<-vI hf1]at hlA;have hf:∀k,f k=if turned=true then-cf w.ts k else cf w.ts k:=fun k=>by rw[hf1,hf0,ht];exact LP.ngU_all hRT
 simp only[hd,go_sem];have d0:=hsM _ _ c0;by_cases hm0:D.m=0
 ·rw[hm0,jb9,jb9,jb9]at d0;have w1:=ja9 (n:=(D.n:Int)) (by omega);refine jbo [false,false,false,false,false,false,false,false,false,false,false,false,false,false,false,false,true,false,false] [(hp nm.d,6,[[.int D.n,.emp,.ref nm.g 69 4 D.n,.emp,.emp,.emp]])] (by decide+kernel) ?_ ?_
  ·exact jho (by decide) (jar d0)
  simp only[d0,w1,yw,F2,K2,G2,go_sem];refine And.intro (fun c hc=>by rw[zC.1 hc];rfl) ?_;refine je4 (fun X1 hX1=> ?_);have lX1:Abs.look M (hp X1)=none:=by rw[ja0 _ _ (hp_ne (by decide)).symm]at hX1;exact hX1
  clear hX1;have xd:¬X1=nm.d:=fun e=>by rw[e,d0]at lX1;cases lX1
  have xb:¬X1=b:=fun e=>by rw[e,hlb]at lX1;cases lX1
  refine And.intro ?_ ?_
  ·refine jar ?_;rw[ja0 _ _ (hpne (zw xd)),ja0 _ _ (hp_ne (by decide)).symm];exact d0
  simp only[d0,xd,zw xd,jac,F2,K2,G2,go_sem];refine jj5 (List.map (fun p=>if p.1=hp nm.d then(p.1,6,[[.int D.n,.emp,.ref nm.g 69 4 D.n,.ref X1 3 1 1,.emp,.emp]])else p) M) (fun Q2 hQ2e=> ?_);simp only[hQ2e,go_sem];have lQ2:∀k,k≠hp nm.d->Abs.look Q2 k=Abs.look M k:=fun k hk=>by rw[<-hQ2e];exact jag hk
  have dQ2:Abs.look Q2 (hp nm.d)=some (6,[[.int D.n,.emp,.ref nm.g 69 4 D.n,.ref X1 3 1 1,.emp,.emp]]):=by rw[<-hQ2e];exact jab d0
  have bQ2:blks Q2:=hQ2e▸jb5 hM;have bb:Abs.look Q2 (hp b)=some (5,[lineC v A D.n]):=by rw[lQ2 _ (hpne (zw ndb))];exact hlb
  have F3:=bF bQ2;have K3:=bK bQ2;have G3:=bN bQ2;refine jhp [false,false,false,false,false,false,false,false,true,false,false,false,false,false,false,false,false,true,false,false,true] [(hp b,5,[lineC v A D.n]),(hp nm.d,6,[[.int D.n,.emp,.ref nm.g 69 4 D.n,.ref X1 3 1 1,.emp,.emp]])] (by decide+kernel) (by decide+kernel) ?_ ?_
  ·refine jb3 ?_ (jar ?_)
   ·dsimp only;rw[ja0 _ _ (hpne (zw xb)),ja0 _ _ (hp_ne (by decide)).symm];exact bb
   ·dsimp only;rw[ja0 _ _ (hpne (zw xd)),ja0 _ _ (hp_ne (by decide)).symm];exact dQ2
  simp only[dQ2,bb,xd,zw xd,xb,zw xb,ndb,zw ndb,jac,jc9,F3,K3,G3,go_sem];refine And.intro (fun c hc=>by rw[zC.1 hc];rfl) ?_;refine je4 (fun X2 hX2=> ?_);have lX2:¬X2=X1/\Abs.look Q2 (hp X2)=none:=by
   have e1:¬X2=X1:=fun e=>by rw[e,ja2]at hX2;cases hX2
   rw[ja0 _ _ (hpne e1),ja0 _ _ (hp_ne (by decide)).symm]at hX2;exact⟨e1,hX2⟩
  clear hX2;obtain⟨x21,lX2⟩:=lX2;have yd:¬X2=nm.d:=fun e=>by rw[e,dQ2]at lX2;cases lX2
  have yb:¬X2=b:=fun e=>by rw[e,bb]at lX2;cases lX2
  refine And.intro ?_ ?_
  ·refine jb3 ?_ (jar ?_)
   ·rw[ja0 _ _ (hpne (zw yb)),ja0 _ _ (hpne (zw xb)),ja0 _ _ (hp_ne (by decide)).symm];exact bb
   ·rw[ja0 _ _ (hpne (zw yd)),ja0 _ _ (hpne (zw xd)),ja0 _ _ (hp_ne (by decide)).symm];exact dQ2
  simp only[dQ2,x21,zw x21,xd,zw xd,yd,zw yd,jac,jc9,F3,K3,G3,go_sem];refine And.intro (fun c hc=>by rw[zC.1 hc];rfl) ?_;refine je4 (fun X3 hX3=> ?_);have lX3:¬X3=X2/\¬X3=X1/\Abs.look Q2 (hp X3)=none:=by
   have e1:¬X3=X2:=fun e=>by rw[e,ja2]at hX3;cases hX3
   rw[ja0 _ _ (hpne e1)]at hX3;have e2:¬X3=X1:=fun e=>by rw[e,ja2]at hX3;cases hX3
   rw[ja0 _ _ (hpne e2),ja0 _ _ (hp_ne (by decide)).symm]at hX3;exact⟨e1,e2,hX3⟩
  clear hX3;obtain⟨x32,x31,lX3⟩:=lX3;have zd:¬X3=nm.d:=fun e=>by rw[e,dQ2]at lX3;cases lX3
  have zb:¬X3=b:=fun e=>by rw[e,bb]at lX3;cases lX3
  refine And.intro ?_ ?_
  ·refine jb3 ?_ (jar ?_)
   ·rw[ja0 _ _ (hpne (zw zb)),ja0 _ _ (hpne (zw yb)),ja0 _ _ (hpne (zw xb)),ja0 _ _ (hp_ne (by decide)).symm];exact bb
   ·rw[ja0 _ _ (hpne (zw zd)),ja0 _ _ (hpne (zw yd)),ja0 _ _ (hpne (zw xd)),ja0 _ _ (hp_ne (by decide)).symm];exact dQ2
  have lm:=fun(s:Nat) (es:List (List IV))=>jab (L:=Q2) (k:=hp nm.d) (s:=s) (es:=es) dQ2;simp only[dQ2,lm,x21,zw x21,x31,zw x31,x32,zw x32,xd,zw xd,yd,zw yd,zd,zw zd,jac,jc9,F3,K3,G3,go_sem];refine jb6 ?_;simp only[go_sem];have A4:Abs.look Q2 (hp A)=some (4,tab D.n fun j=>qc (f j)):=by
   rw[lQ2 _ (hpne (zw ndA))];exact hlA
  have xA:¬X1=A:=fun e=>by rw[e,hlA]at lX1;cases lX1
  have yA:¬X2=A:=fun e=>by rw[e,A4]at lX2;cases lX2
  have zA:¬X3=A:=fun e=>by rw[e,A4]at lX3;cases lX3
  refine h.step (X1:=X1) (X2:=X2) (X3:=X3) (A:=A) (f:=f) (v:=v) jdc ?_ ?_ ?_ ?_ ?_ ⟨fun k x hk h1 h2=> ?_⟩ (zw xd) (zw yd) (zw zd) ndA (zw x21) (zw x31) xA (zw x32) yA zA ?_ ?_
  ·rw[jaf,ja0 _ _ (hpne (zw zd)),ja0 _ _ (hpne (zw yd)),ja0 _ _ (hpne (zw xd)),ja0 _ _ (hp_ne (by decide)).symm,hm0];exact jab (jab dQ2)
  ·rw[jaf,ja0 _ _ (hpne (zw x31)),ja0 _ _ (hpne (zw x21)),ja2,oc,hm0];rfl
  ·rw[jaf,ja0 _ _ (hpne (zw x32)),ja2,hm0];rfl
  ·rw[jaf,ja2,ht,hm0];rfl
  ·rw[jaf,ja0 _ _ (hpne (zw zA)),ja0 _ _ (hpne (zw yA)),ja0 _ _ (hpne (zw xA)),ja0 _ _ (hp_ne (by decide)).symm,jag (hpne (zw ndA)),jag (hpne (zw ndA))];exact A4
  ·have m1:=hsM _ _ hk;have m4:Abs.look Q2 (hp k)=some x:=by rw[lQ2 _ (hpne h1)];exact m1
   have n1:k≠X1:=fun e=>by rw[<-e,m1]at lX1;cases lX1
   have n2:k≠X2:=fun e=>by rw[<-e,m4]at lX2;cases lX2
   have n3:k≠X3:=fun e=>by rw[<-e,m4]at lX3;cases lX3
   refine⟨?_,n1,n2,n3,fun e=>by rw[<-e,hk]at hLA;cases hLA⟩;rw[jaf,ja0 _ _ (hpne n3),ja0 _ _ (hpne n2),ja0 _ _ (hpne n1),ja0 _ _ (hp_ne (by decide)).symm,jag (hpne h1),jag (hpne h1)];exact m4
  ·exact hv
  ·exact hf
 ·rw[jap hm0,jap hm0,jap hm0]at d0;refine jbo [false,false,false,false,false,false,false,false,false,false,false,false,false,false,false,false,true,false,false] [(hp nm.d,6,[[.int D.n,.ref nm.r 235 5 D.m,.ref nm.g 69 4 D.n,.ref nm.o 3 1 D.m,.emp,.ref nm.s 246 2 D.m]])] (by decide+kernel) ?_ ?_
  ·exact jho (by decide) (jar d0)
  have do':=hsM _ _ (h.ho hm0)
  have dr':=hsM _ _ (h.hr hm0);have ds':=hsM _ _ (h.hs hm0);have ap:=h.ap hm0;have nbo:b≠nm.o:=fun e=>by rw[e,h.ho hm0]at hLb;cases hLb
  have nbr:b≠nm.r:=fun e=>by rw[e,h.hr hm0]at hLb;cases hLb
  have nbs:b≠nm.s:=fun e=>by rw[e,h.hs hm0]at hLb;cases hLb
  have nAo:A≠nm.o:=fun e=>by rw[e,h.ho hm0]at hLA;cases hLA
  have nAr:A≠nm.r:=fun e=>by rw[e,h.hr hm0]at hLA;cases hLA
  have nAs:A≠nm.s:=fun e=>by rw[e,h.hs hm0]at hLA;cases hLA
  have w1:=ja9 (n:=(D.n:Int)+D.m) (by omega);simp only[d0,do',w1,jac,jc9,F2,K2,G2,go_sem];refine And.intro (fun c hc=>by rw[zC.1 hc];rfl) (And.intro (zu _) (And.intro (by omega) ?_));refine jdk (fun X1 hX1=> ?_);obtain⟨Q,hQe⟩:∃Q,Abs.del M (hp nm.o)=Q:=⟨_,rfl⟩;have lQ:∀k,k≠hp nm.o->Abs.look Q k=Abs.look M k:=fun k hk=>by rw[<-hQe];exact ja8 _ hk
  have bQ:blks Q:=hQe▸jbc hM;have lX1:Abs.look Q (hp X1)=none:=by
   rw[show Abs.del ((6,6,_)::M) (hp nm.o)=(6,6,_)::Abs.del M (hp nm.o)from jah (hp_ne (by decide))]at hX1;rw[ja0 _ _ (hp_ne (by decide)).symm,hQe]at hX1;exact hX1
  clear hX1;have hQf:List.filter (fun p=>p.1 !=hp nm.o) M=Q:=hQe;have b6:∀k,(6 !=hp k)=true:=fun k=>by simp only[qq,ne_eq];exact hp_ne (by decide)
  have xd:¬X1=nm.d:=fun e=>by rw[e,lQ _ (hpne ap.d_o),d0]at lX1;cases lX1
  have xr:¬X1=nm.r:=fun e=>by rw[e,lQ _ (hpne ap.ro),dr']at lX1;cases lX1
  have xb:¬X1=b:=fun e=>by rw[e,lQ _ (hpne nbo),hlb]at lX1;cases lX1
  have xs:¬X1=nm.s:=fun e=>by rw[e,lQ _ (hpne (zw ap.os)),ds']at lX1;cases lX1
  have nod:¬nm.d=nm.o:=ap.d_o;have d1:=(lQ _ (hpne ap.d_o)).trans d0;refine And.intro ?_ ?_
  ·refine jar ?_;rw[ja0 _ _ (hpne (zw xd)),ja8 _ (hpne nod),ja0 _ _ (hp_ne (by decide)).symm];exact d0
  simp only[d1,xd,zw xd,b6,hQf,nod,jac,F2,K2,G2,go_sem];refine jj5 (List.map (fun p=>if p.1=hp nm.d then(p.1,6,[[.int D.n,.ref nm.r 235 5 D.m,.ref nm.g 69 4 D.n,.ref X1 3 1 (D.m+1),.emp,.ref nm.s 246 2 D.m]])else p) Q) (fun Q2 hQ2e=> ?_);simp only[hQ2e,go_sem];have lQ2:∀k,k≠hp nm.d->Abs.look Q2 k=Abs.look Q k:=fun k hk=>by rw[<-hQ2e];exact jag hk
  have dQ2:Abs.look Q2 (hp nm.d)=some (6,[[.int D.n,.ref nm.r 235 5 D.m,.ref nm.g 69 4 D.n,.ref X1 3 1 (D.m+1),.emp,.ref nm.s 246 2 D.m]]):=by rw[<-hQ2e];exact jab d1
  have bQ2:blks Q2:=hQ2e▸jb5 bQ;have bb:Abs.look Q2 (hp b)=some (5,[lineC v A D.n]):=by rw[lQ2 _ (hpne (zw ndb)),lQ _ (hpne nbo)];exact hlb
  have rr:Abs.look Q2 (hp nm.r)=some (5,tab D.m fun i=>lineC (D.v i) (nm.a i) D.n):=by rw[lQ2 _ (hpne (zw ap.dr)),lQ _ (hpne ap.ro)];exact dr'
  have ss:Abs.look Q2 (hp nm.s)=some (2,tab D.m fun i=>srcC (src i)):=by rw[lQ2 _ (hpne (zw ap.ds)),lQ _ (hpne (zw ap.os))];exact ds'
  have F3:=bF bQ2;have K3:=bK bQ2;have G3:=bN bQ2;refine jhp [false,false,false,false,false,false,false,false,true,false,false,false,false,false,false,false,false,true,false,false,true] [(hp b,5,[lineC v A D.n]),(hp nm.d,6,[[.int D.n,.ref nm.r 235 5 D.m,.ref nm.g 69 4 D.n,.ref X1 3 1 (D.m+1),.emp,.ref nm.s 246 2 D.m]])] (by decide+kernel) (by decide+kernel) ?_ ?_
  ·refine jb3 ?_ (jar ?_)
   ·dsimp only;rw[ja0 _ _ (hpne (zw xb)),ja0 _ _ (hp_ne (by decide)).symm];exact bb
   ·dsimp only;rw[ja0 _ _ (hpne (zw xd)),ja0 _ _ (hp_ne (by decide)).symm];exact dQ2
  simp only[dQ2,bb,rr,xd,zw xd,xb,zw xb,xr,zw xr,xs,zw xs,ndb,zw ndb,jac,jc9,F3,K3,G3,go_sem];refine And.intro (fun c hc=>by rw[zC.1 hc];rfl) (And.intro (zu _) (And.intro (by omega) ?_));refine jdk (fun X2 hX2=> ?_);obtain⟨Q3,hQ3e⟩:∃Q3,Abs.del Q2 (hp nm.r)=Q3:=⟨_,rfl⟩;have lQ3:∀k,k≠hp nm.r->Abs.look Q3 k=Abs.look Q2 k:=fun k hk=>by rw[<-hQ3e];exact ja8 _ hk
  have bQ3:blks Q3:=hQ3e▸jbc bQ2;have lX2:¬X2=X1/\Abs.look Q3 (hp X2)=none:=by
   rw[jah (hpne xr),jah (hp_ne (by decide)),hQ3e]at hX2;have e1:¬X2=X1:=fun e=>by rw[e,ja2]at hX2;cases hX2
   rw[ja0 _ _ (hpne e1),ja0 _ _ (hp_ne (by decide)).symm]at hX2;exact⟨e1,hX2⟩
  clear hX2;obtain⟨x21,lX2⟩:=lX2;have hQ3f:List.filter (fun p=>p.1 !=hp nm.r) Q2=Q3:=hQ3e;have ndr:¬nm.d=nm.r:=ap.dr;have d3:=(lQ3 _ (hpne ndr)).trans dQ2;have b3:=(lQ3 _ (hpne nbr)).trans bb;have s3:=(lQ3 _ (hpne (zw ap.rs))).trans ss;have yd:¬X2=nm.d:=fun e=>by rw[e,d3]at lX2;cases lX2
  have yb:¬X2=b:=fun e=>by rw[e,b3]at lX2;cases lX2
  have ys:¬X2=nm.s:=fun e=>by rw[e,s3]at lX2;cases lX2
  have F4:=bF bQ3;have K4:=bK bQ3;have G4:=bN bQ3;refine And.intro ?_ ?_
  ·rw[jah (hpne xr),jah (hp_ne (by decide)),hQ3e];refine jb3 ?_ (jar ?_)
   ·rw[ja0 _ _ (hpne (zw yb)),ja0 _ _ (hpne (zw xb)),ja0 _ _ (hp_ne (by decide)).symm];exact b3
   ·rw[ja0 _ _ (hpne (zw yd)),ja0 _ _ (hpne (zw xd)),ja0 _ _ (hp_ne (by decide)).symm];exact d3
  have bn1:(hp X1 !=hp nm.r)=true:=by simp only[qq,ne_eq];exact hpne xr
  simp only[d3,s3,x21,zw x21,xd,zw xd,xs,zw xs,yd,zw yd,ys,zw ys,xr,bn1,b6,hQ3f,jac,jc9,F4,K4,G4,go_sem];refine And.intro (fun c hc=>by rw[zC.1 hc];rfl) (And.intro (zu _) (And.intro (by omega) ?_));refine jdk (fun X3 hX3=> ?_);obtain⟨Q4,hQ4e⟩:∃Q4,Abs.del Q3 (hp nm.s)=Q4:=⟨_,rfl⟩;have lQ4:∀k,k≠hp nm.s->Abs.look Q4 k=Abs.look Q3 k:=fun k hk=>by rw[<-hQ4e];exact ja8 _ hk
  have bQ4:blks Q4:=hQ4e▸jbc bQ3;have lX3:¬X3=X2/\¬X3=X1/\Abs.look Q4 (hp X3)=none:=by
   rw[jah (hpne ys),jah (hpne xs),jah (hp_ne (by decide)),hQ4e]at hX3;have e1:¬X3=X2:=fun e=>by rw[e,ja2]at hX3;cases hX3
   rw[ja0 _ _ (hpne e1)]at hX3;have e2:¬X3=X1:=fun e=>by rw[e,ja2]at hX3;cases hX3
   rw[ja0 _ _ (hpne e2),ja0 _ _ (hp_ne (by decide)).symm]at hX3;exact⟨e1,e2,hX3⟩
  clear hX3;obtain⟨x32,x31,lX3⟩:=lX3;have hQ4f:List.filter (fun p=>p.1 !=hp nm.s) Q3=Q4:=hQ4e;have nds:¬nm.d=nm.s:=ap.ds;have d4:=(lQ4 _ (hpne nds)).trans d3;have b4:=(lQ4 _ (hpne nbs)).trans b3;have zd:¬X3=nm.d:=fun e=>by rw[e,d4]at lX3;cases lX3
  have zb:¬X3=b:=fun e=>by rw[e,b4]at lX3;cases lX3
  have F5:=bF bQ4;have K5:=bK bQ4;have G5:=bN bQ4;refine And.intro ?_ ?_
  ·rw[jah (hpne ys),jah (hpne xs),jah (hp_ne (by decide)),hQ4e];refine jb3 ?_ (jar ?_)
   ·rw[ja0 _ _ (hpne (zw zb)),ja0 _ _ (hpne (zw yb)),ja0 _ _ (hpne (zw xb)),ja0 _ _ (hp_ne (by decide)).symm];exact b4
   ·rw[ja0 _ _ (hpne (zw zd)),ja0 _ _ (hpne (zw yd)),ja0 _ _ (hpne (zw xd)),ja0 _ _ (hp_ne (by decide)).symm];exact d4
  have bn2:(hp X1 !=hp nm.s)=true:=by simp only[qq,ne_eq];exact hpne xs
  have bn3:(hp X2 !=hp nm.s)=true:=by simp only[qq,ne_eq];exact hpne ys
  have lm:=fun(s:Nat) (es:List (List IV))=>jab (L:=Q4) (k:=hp nm.d) (s:=s) (es:=es) d4;simp only[d4,lm,x21,zw x21,x31,zw x31,x32,zw x32,xd,zw xd,yd,zw yd,zd,zw zd,xs,ys,bn2,bn3,b6,hQ4f,jac,jc9,F5,K5,G5,go_sem];refine jb6 ?_;simp only[go_sem];have A4:Abs.look Q4 (hp A)=some (4,tab D.n fun j=>qc (f j)):=by
   rw[lQ4 _ (hpne nAs),lQ3 _ (hpne nAr),lQ2 _ (hpne (zw ndA)),lQ _ (hpne nAo)];exact hlA
  have A3:Abs.look Q3 (hp A)=some (4,tab D.n fun j=>qc (f j)):=by rw[<-lQ4 _ (hpne nAs)];exact A4
  have A1:Abs.look Q (hp A)=some (4,tab D.n fun j=>qc (f j)):=by rw[lQ _ (hpne nAo)];exact hlA
  have xA:¬X1=A:=fun e=>by rw[e,A1]at lX1;cases lX1
  have yA:¬X2=A:=fun e=>by rw[e,A3]at lX2;cases lX2
  have zA:¬X3=A:=fun e=>by rw[e,A4]at lX3;cases lX3
  refine h.step (X1:=X1) (X2:=X2) (X3:=X3) (A:=A) (f:=f) (v:=v) jdc ?_ ?_ ?_ ?_ ?_ ⟨fun k x hk h1 h2=> ?_⟩ (zw xd) (zw yd) (zw zd) ndA (zw x21) (zw x31) xA (zw x32) yA zA ?_ ?_
  ·rw[jaf,ja0 _ _ (hpne (zw zd)),ja0 _ _ (hpne (zw yd)),ja0 _ _ (hpne (zw xd)),ja0 _ _ (hp_ne (by decide)).symm];exact jab (jab d4)
  ·rw[jaf,ja0 _ _ (hpne (zw x31)),ja0 _ _ (hpne (zw x21)),ja2,oc,Int.natCast_add]
  ·rw[jaf,ja0 _ _ (hpne (zw x32)),ja2];rfl
  ·rw[jaf,ja2,ht];rfl
  ·rw[jaf,ja0 _ _ (hpne (zw zA)),ja0 _ _ (hpne (zw yA)),ja0 _ _ (hpne (zw xA)),ja0 _ _ (hp_ne (by decide)).symm,jag (hpne (zw ndA)),jag (hpne (zw ndA))];exact A4
  ·obtain⟨k1,k2,k3⟩:=h2 hm0;have m1:=hsM _ _ hk;have m2:Abs.look Q (hp k)=some x:=by rw[lQ _ (hpne k1)];exact m1
   have m3:Abs.look Q3 (hp k)=some x:=by rw[lQ3 _ (hpne k2),lQ2 _ (hpne h1)];exact m2
   have m4:Abs.look Q4 (hp k)=some x:=by rw[lQ4 _ (hpne k3)];exact m3
   have n1:k≠X1:=fun e=>by rw[<-e,m2]at lX1;cases lX1
   have n2:k≠X2:=fun e=>by rw[<-e,m3]at lX2;cases lX2
   have n3:k≠X3:=fun e=>by rw[<-e,m4]at lX3;cases lX3
   refine⟨?_,n1,n2,n3,fun e=>by rw[<-e,hk]at hLA;cases hLA⟩;rw[jaf,ja0 _ _ (hpne n3),ja0 _ _ (hpne n2),ja0 _ _ (hpne n1),ja0 _ _ (hp_ne (by decide)).symm,jag (hpne h1),jag (hpne h1)];exact m4
  ·exact hv
  ·exact hf
theorem x_put(h:HasO L nm D src)(w:Rw)(row:Nat)(turned:Bool)(hN:D.n<=100000)(hm:D.m<=10000)(hRT:RT w.ts 0 D.n)(hts:∀t∈w.ts,FL 100000000 t.2)(hval:FL 100000000 w.val)(hlen:w.ts.length<=100000):
  CtrH G.P 181 [.loc (hp nm.d) 6 0 0,.im (.int row),.im (.agg (rwC w)),.im (.bool turned)] L
   (fun x L'=>x= .im (.tup [])/\∃nm':DN,nm'.d=nm.d/\HasO L' nm' (D.put w turned) (jel D src row turned)):=by
 cases ht:turned with
 | false=>exact ht▸x_putF h w row turned ht hN hm hRT hts hval hlen
 | true=>exact ht▸x_putT h w row turned ht hN hm hRT hts hval hlen
