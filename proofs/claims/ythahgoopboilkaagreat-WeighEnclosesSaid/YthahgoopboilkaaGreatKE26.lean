/- A part of the proof. No further condition. -/
import Derived.Test.YthahgoopboilkaaGreatKE25
set_option linter.all false
set_option maxRecDepth 10000000
set_option maxHeartbeats 16000000
namespace Go.Proofs.YthahgoopboilkaaGreat
section
open Go.Abs
open Go.LP (Dic Rw RT cf cfU ngU jcd)
attribute [local go_sem] ints ic big frac fc rwC tmC lineC
section
variable{L:Abs.Rows}{nm:DN}{D:Dic}{src:Nat->Int×Bool}
theorem put_D(h:HasO L nm D src){A b:Nat}(hAb:¬A=b)(hLA:Abs.look L (hp A)=none)(hLb:Abs.look L (hp b)=none)(w:Rw)(row:Nat)(turned:Bool)(hN:D.n<=100000)(hm:D.m<=10000)
  {M:Abs.Rows} (hM:blks M) (hsM:SubR L M) {v:Rat} {f:Nat->Rat} (hv:v=if turned=true then-w.val else w.val) (hf:∀k,f k=if turned=true then-cf w.ts k else cf w.ts k)
  (hlb:Abs.look M (hp b)=some (5,[lineC v A D.n])) (hlA:Abs.look M (hp A)=some (4,tab D.n fun k=>qc (f k))):
  awp (GH [8,73,84,93] []) (tailN 4 (jbm Tryz.f179)) (endQ (aRetH (GH [8,73,84,93] []) [] (fun x L'=>x= .im (.tup [])/\∃nm':DN,nm'.d=nm.d/\HasO L' nm' (D.put w turned) (jcd D src row turned)))) ⟨[(0,.loc (hp nm.d) 6 0 0),(1,.im (.int row)),(3,.im (.bool turned)),(8,.loc (hp b) 5 0 0)],(6,6,[rwC w])::M,[]⟩:=by
 have hb:=h.blk;have c0:=h.hd;have ndA:nm.d≠A:=fun e=>by rw[e,hLA]at c0;cases c0
 have hAb':¬b=A:=fun e=>hAb e.symm;have ndb:¬nm.d=b:=fun e=>by rw[e,hLb]at c0;cases c0
 have F2:=bF hM;have K2:=bK hM;have G2:=bN hM;refine tail_go rfl ?_;simp only[go_sem];have d0:=hsM _ _ c0;by_cases hm0:D.m=0
 ·rw[hm0,jbc,jbc,jbc]at d0;have w1:=ja9 (n:=(D.n:Int)) (by omega);refine jcf [false,false,false,false,false,false,false,false,false,false,false,false,false,false,false,false,true,false,false] [(hp nm.d,6,[[.int D.n,.emp,.ref nm.g 35 4 D.n,.emp,.emp,.emp]])] (by decide+kernel) ?_ ?_
  ·exact jn8 (by decide) (jax d0)
  simp only[d0,w1,yK,F2,K2,G2,go_sem];refine And.intro (fun c hc=>by rw[zF.1 hc];rfl) ?_;refine jji (fun X1 hX1=> ?_);have lX1:Abs.look M (hp X1)=none:=by rw[ja0 _ _ (hp_ne (by decide)).symm]at hX1;exact hX1
  clear hX1;have xd:¬X1=nm.d:=fun e=>by rw[e,d0]at lX1;cases lX1
  have xb:¬X1=b:=fun e=>by rw[e,hlb]at lX1;cases lX1
  refine And.intro ?_ ?_
  ·refine jax ?_;rw[ja0 _ _ (hpne (zD xd)),ja0 _ _ (hp_ne (by decide)).symm];exact d0
  simp only[d0,xd,zD xd,ja6,F2,K2,G2,go_sem];refine jnn (List.map (fun p=>if p.1=hp nm.d then(p.1,6,[[.int D.n,.emp,.ref nm.g 35 4 D.n,.ref X1 3 1 1,.emp,.emp]])else p) M) (fun Q2 hQ2e=> ?_);simp only[hQ2e,go_sem];have lQ2:∀k,k≠hp nm.d->Abs.look Q2 k=Abs.look M k:=fun k hk=>by rw[<-hQ2e];exact jan hk
  have dQ2:Abs.look Q2 (hp nm.d)=some (6,[[.int D.n,.emp,.ref nm.g 35 4 D.n,.ref X1 3 1 1,.emp,.emp]]):=by rw[<-hQ2e];exact jae d0
  have bQ2:blks Q2:=hQ2e▸jb8 hM;have bb:Abs.look Q2 (hp b)=some (5,[lineC v A D.n]):=by rw[lQ2 _ (hpne (zD ndb))];exact hlb
  have F3:=bF bQ2;have K3:=bK bQ2;have G3:=bN bQ2;refine jkb [false,false,false,false,false,false,false,false,true,false,false,false,false,false,false,false,false,true,false,false,true] [(hp b,5,[lineC v A D.n]),(hp nm.d,6,[[.int D.n,.emp,.ref nm.g 35 4 D.n,.ref X1 3 1 1,.emp,.emp]])] (by decide+kernel) (by decide+kernel) ?_ ?_
  ·refine jb5 ?_ (jax ?_)
   ·dsimp only;rw[ja0 _ _ (hpne (zD xb)),ja0 _ _ (hp_ne (by decide)).symm];exact bb
   ·dsimp only;rw[ja0 _ _ (hpne (zD xd)),ja0 _ _ (hp_ne (by decide)).symm];exact dQ2
  simp only[dQ2,bb,xd,zD xd,xb,zD xb,ndb,zD ndb,ja6,jd7,F3,K3,G3,go_sem];refine And.intro (fun c hc=>by rw[zF.1 hc];rfl) ?_;refine jji (fun X2 hX2=> ?_);have lX2:¬X2=X1/\Abs.look Q2 (hp X2)=none:=by
   have e1:¬X2=X1:=fun e=>by rw[e,ja2]at hX2;cases hX2
   rw[ja0 _ _ (hpne e1),ja0 _ _ (hp_ne (by decide)).symm]at hX2;exact⟨e1,hX2⟩
  clear hX2;obtain⟨x21,lX2⟩:=lX2;have yd:¬X2=nm.d:=fun e=>by rw[e,dQ2]at lX2;cases lX2
  have yb:¬X2=b:=fun e=>by rw[e,bb]at lX2;cases lX2
  refine And.intro ?_ ?_
  ·refine jb5 ?_ (jax ?_)
   ·rw[ja0 _ _ (hpne (zD yb)),ja0 _ _ (hpne (zD xb)),ja0 _ _ (hp_ne (by decide)).symm];exact bb
   ·rw[ja0 _ _ (hpne (zD yd)),ja0 _ _ (hpne (zD xd)),ja0 _ _ (hp_ne (by decide)).symm];exact dQ2
  simp only[dQ2,x21,zD x21,xd,zD xd,yd,zD yd,ja6,jd7,F3,K3,G3,go_sem];refine And.intro (fun c hc=>by rw[zF.1 hc];rfl) ?_;refine jji (fun X3 hX3=> ?_);have lX3:¬X3=X2/\¬X3=X1/\Abs.look Q2 (hp X3)=none:=by
   have e1:¬X3=X2:=fun e=>by rw[e,ja2]at hX3;cases hX3
   rw[ja0 _ _ (hpne e1)]at hX3;have e2:¬X3=X1:=fun e=>by rw[e,ja2]at hX3;cases hX3
   rw[ja0 _ _ (hpne e2),ja0 _ _ (hp_ne (by decide)).symm]at hX3;exact⟨e1,e2,hX3⟩
  clear hX3;obtain⟨x32,x31,lX3⟩:=lX3;have zd:¬X3=nm.d:=fun e=>by rw[e,dQ2]at lX3;cases lX3
  have zb:¬X3=b:=fun e=>by rw[e,bb]at lX3;cases lX3
  refine And.intro ?_ ?_
  ·refine jb5 ?_ (jax ?_)
   ·rw[ja0 _ _ (hpne (zD zb)),ja0 _ _ (hpne (zD yb)),ja0 _ _ (hpne (zD xb)),ja0 _ _ (hp_ne (by decide)).symm];exact bb
   ·rw[ja0 _ _ (hpne (zD zd)),ja0 _ _ (hpne (zD yd)),ja0 _ _ (hpne (zD xd)),ja0 _ _ (hp_ne (by decide)).symm];exact dQ2
  have lm:=fun(s:Nat) (es:List (List IV))=>jae (L:=Q2) (k:=hp nm.d) (s:=s) (es:=es) dQ2;simp only[dQ2,lm,x21,zD x21,x31,zD x31,x32,zD x32,xd,zD xd,yd,zD yd,zd,zD zd,ja6,jd7,F3,K3,G3,go_sem];refine jbg ?_;simp only[go_sem];have A4:Abs.look Q2 (hp A)=some (4,tab D.n fun j=>qc (f j)):=by
   rw[lQ2 _ (hpne (zD ndA))];exact hlA
  have xA:¬X1=A:=fun e=>by rw[e,hlA]at lX1;cases lX1
  have yA:¬X2=A:=fun e=>by rw[e,A4]at lX2;cases lX2
  have zA:¬X3=A:=fun e=>by rw[e,A4]at lX3;cases lX3
  refine h.step (X1:=X1) (X2:=X2) (X3:=X3) (A:=A) (f:=f) (v:=v) jee ?_ ?_ ?_ ?_ ?_ ⟨fun k x hk h1 h2=> ?_⟩ (zD xd) (zD yd) (zD zd) ndA (zD x21) (zD x31) xA (zD x32) yA zA ?_ ?_
  ·rw[jau,ja0 _ _ (hpne (zD zd)),ja0 _ _ (hpne (zD yd)),ja0 _ _ (hpne (zD xd)),ja0 _ _ (hp_ne (by decide)).symm,hm0];exact jae (jae dQ2)
  ·rw[jau,ja0 _ _ (hpne (zD x31)),ja0 _ _ (hpne (zD x21)),ja2,oc,hm0];rfl
  ·rw[jau,ja0 _ _ (hpne (zD x32)),ja2,hm0];rfl
  ·rw[jau,ja2,hm0];rfl
  ·rw[jau,ja0 _ _ (hpne (zD zA)),ja0 _ _ (hpne (zD yA)),ja0 _ _ (hpne (zD xA)),ja0 _ _ (hp_ne (by decide)).symm,jan (hpne (zD ndA)),jan (hpne (zD ndA))];exact A4
  ·have m1:=hsM _ _ hk;have m4:Abs.look Q2 (hp k)=some x:=by rw[lQ2 _ (hpne h1)];exact m1
   have n1:k≠X1:=fun e=>by rw[<-e,m1]at lX1;cases lX1
   have n2:k≠X2:=fun e=>by rw[<-e,m4]at lX2;cases lX2
   have n3:k≠X3:=fun e=>by rw[<-e,m4]at lX3;cases lX3
   refine⟨?_,n1,n2,n3,fun e=>by rw[<-e,hk]at hLA;cases hLA⟩;rw[jau,ja0 _ _ (hpne n3),ja0 _ _ (hpne n2),ja0 _ _ (hpne n1),ja0 _ _ (hp_ne (by decide)).symm,jan (hpne h1),jan (hpne h1)];exact m4
  ·exact hv
  ·exact hf
 ·rw[jao hm0,jao hm0,jao hm0]at d0;refine jcf [false,false,false,false,false,false,false,false,false,false,false,false,false,false,false,false,true,false,false] [(hp nm.d,6,[[.int D.n,.ref nm.r 250 5 D.m,.ref nm.g 35 4 D.n,.ref nm.o 3 1 D.m,.emp,.ref nm.s 272 2 D.m]])] (by decide+kernel) ?_ ?_
  ·exact jn8 (by decide) (jax d0)
  have do':=hsM _ _ (h.ho hm0)
  have dr':=hsM _ _ (h.hr hm0);have ds':=hsM _ _ (h.hs hm0);have ap:=h.ap hm0;have nbo:b≠nm.o:=fun e=>by rw[e,h.ho hm0]at hLb;cases hLb
  have nbr:b≠nm.r:=fun e=>by rw[e,h.hr hm0]at hLb;cases hLb
  have nbs:b≠nm.s:=fun e=>by rw[e,h.hs hm0]at hLb;cases hLb
  have nAo:A≠nm.o:=fun e=>by rw[e,h.ho hm0]at hLA;cases hLA
  have nAr:A≠nm.r:=fun e=>by rw[e,h.hr hm0]at hLA;cases hLA
  have nAs:A≠nm.s:=fun e=>by rw[e,h.hs hm0]at hLA;cases hLA
  have w1:=ja9 (n:=(D.n:Int)+D.m) (by omega);simp only[d0,do',w1,ja6,jd7,F2,K2,G2,go_sem];refine And.intro (fun c hc=>by rw[zF.1 hc];rfl) (And.intro (zB _) (And.intro (by omega) ?_));refine jhh (fun X1 hX1=> ?_);obtain⟨Q,hQe⟩:∃Q,Abs.del M (hp nm.o)=Q:=⟨_,rfl⟩;have lQ:∀k,k≠hp nm.o->Abs.look Q k=Abs.look M k:=fun k hk=>by rw[<-hQe];exact ja7 _ hk
  have bQ:blks Q:=hQe▸jbx hM;have lX1:Abs.look Q (hp X1)=none:=by
   rw[show Abs.del ((6,6,_)::M) (hp nm.o)=(6,6,_)::Abs.del M (hp nm.o)from jam (hp_ne (by decide))]at hX1;rw[ja0 _ _ (hp_ne (by decide)).symm,hQe]at hX1;exact hX1
  clear hX1;have hQf:List.filter (fun p=>p.1 !=hp nm.o) M=Q:=hQe;have b6:∀k,(6 !=hp k)=true:=fun k=>by simp only[qk,ne_eq];exact hp_ne (by decide)
  have xd:¬X1=nm.d:=fun e=>by rw[e,lQ _ (hpne ap.d_o),d0]at lX1;cases lX1
  have xr:¬X1=nm.r:=fun e=>by rw[e,lQ _ (hpne ap.ro),dr']at lX1;cases lX1
  have xb:¬X1=b:=fun e=>by rw[e,lQ _ (hpne nbo),hlb]at lX1;cases lX1
  have xs:¬X1=nm.s:=fun e=>by rw[e,lQ _ (hpne (zD ap.os)),ds']at lX1;cases lX1
  have nod:¬nm.d=nm.o:=ap.d_o;have d1:=(lQ _ (hpne ap.d_o)).trans d0;refine And.intro ?_ ?_
  ·refine jax ?_;rw[ja0 _ _ (hpne (zD xd)),ja7 _ (hpne nod),ja0 _ _ (hp_ne (by decide)).symm];exact d0
  simp only[d1,xd,zD xd,b6,hQf,nod,ja6,F2,K2,G2,go_sem];refine jnn (List.map (fun p=>if p.1=hp nm.d then(p.1,6,[[.int D.n,.ref nm.r 250 5 D.m,.ref nm.g 35 4 D.n,.ref X1 3 1 (D.m+1),.emp,.ref nm.s 272 2 D.m]])else p) Q) (fun Q2 hQ2e=> ?_);simp only[hQ2e,go_sem];have lQ2:∀k,k≠hp nm.d->Abs.look Q2 k=Abs.look Q k:=fun k hk=>by rw[<-hQ2e];exact jan hk
  have dQ2:Abs.look Q2 (hp nm.d)=some (6,[[.int D.n,.ref nm.r 250 5 D.m,.ref nm.g 35 4 D.n,.ref X1 3 1 (D.m+1),.emp,.ref nm.s 272 2 D.m]]):=by rw[<-hQ2e];exact jae d1
  have bQ2:blks Q2:=hQ2e▸jb8 bQ;have bb:Abs.look Q2 (hp b)=some (5,[lineC v A D.n]):=by rw[lQ2 _ (hpne (zD ndb)),lQ _ (hpne nbo)];exact hlb
  have rr:Abs.look Q2 (hp nm.r)=some (5,tab D.m fun i=>lineC (D.v i) (nm.a i) D.n):=by rw[lQ2 _ (hpne (zD ap.dr)),lQ _ (hpne ap.ro)];exact dr'
  have ss:Abs.look Q2 (hp nm.s)=some (2,tab D.m fun i=>srcC (src i)):=by rw[lQ2 _ (hpne (zD ap.ds)),lQ _ (hpne (zD ap.os))];exact ds'
  have F3:=bF bQ2;have K3:=bK bQ2;have G3:=bN bQ2;refine jkb [false,false,false,false,false,false,false,false,true,false,false,false,false,false,false,false,false,true,false,false,true] [(hp b,5,[lineC v A D.n]),(hp nm.d,6,[[.int D.n,.ref nm.r 250 5 D.m,.ref nm.g 35 4 D.n,.ref X1 3 1 (D.m+1),.emp,.ref nm.s 272 2 D.m]])] (by decide+kernel) (by decide+kernel) ?_ ?_
  ·refine jb5 ?_ (jax ?_)
   ·dsimp only;rw[ja0 _ _ (hpne (zD xb)),ja0 _ _ (hp_ne (by decide)).symm];exact bb
   ·dsimp only;rw[ja0 _ _ (hpne (zD xd)),ja0 _ _ (hp_ne (by decide)).symm];exact dQ2
  simp only[dQ2,bb,rr,xd,zD xd,xb,zD xb,xr,zD xr,xs,zD xs,ndb,zD ndb,ja6,jd7,F3,K3,G3,go_sem];refine And.intro (fun c hc=>by rw[zF.1 hc];rfl) (And.intro (zB _) (And.intro (by omega) ?_));refine jhh (fun X2 hX2=> ?_);obtain⟨Q3,hQ3e⟩:∃Q3,Abs.del Q2 (hp nm.r)=Q3:=⟨_,rfl⟩;have lQ3:∀k,k≠hp nm.r->Abs.look Q3 k=Abs.look Q2 k:=fun k hk=>by rw[<-hQ3e];exact ja7 _ hk
  have bQ3:blks Q3:=hQ3e▸jbx bQ2;have lX2:¬X2=X1/\Abs.look Q3 (hp X2)=none:=by
   rw[jam (hpne xr),jam (hp_ne (by decide)),hQ3e]at hX2;have e1:¬X2=X1:=fun e=>by rw[e,ja2]at hX2;cases hX2
   rw[ja0 _ _ (hpne e1),ja0 _ _ (hp_ne (by decide)).symm]at hX2;exact⟨e1,hX2⟩
  clear hX2;obtain⟨x21,lX2⟩:=lX2;have hQ3f:List.filter (fun p=>p.1 !=hp nm.r) Q2=Q3:=hQ3e;have ndr:¬nm.d=nm.r:=ap.dr;have d3:=(lQ3 _ (hpne ndr)).trans dQ2;have b3:=(lQ3 _ (hpne nbr)).trans bb;have s3:=(lQ3 _ (hpne (zD ap.rs))).trans ss;have yd:¬X2=nm.d:=fun e=>by rw[e,d3]at lX2;cases lX2
  have yb:¬X2=b:=fun e=>by rw[e,b3]at lX2;cases lX2
  have ys:¬X2=nm.s:=fun e=>by rw[e,s3]at lX2;cases lX2
  have F4:=bF bQ3;have K4:=bK bQ3;have G4:=bN bQ3;refine And.intro ?_ ?_
  ·rw[jam (hpne xr),jam (hp_ne (by decide)),hQ3e];refine jb5 ?_ (jax ?_)
   ·rw[ja0 _ _ (hpne (zD yb)),ja0 _ _ (hpne (zD xb)),ja0 _ _ (hp_ne (by decide)).symm];exact b3
   ·rw[ja0 _ _ (hpne (zD yd)),ja0 _ _ (hpne (zD xd)),ja0 _ _ (hp_ne (by decide)).symm];exact d3
  have bn1:(hp X1 !=hp nm.r)=true:=by simp only[qk,ne_eq];exact hpne xr
  simp only[d3,s3,x21,zD x21,xd,zD xd,xs,zD xs,yd,zD yd,ys,zD ys,xr,bn1,b6,hQ3f,ja6,jd7,F4,K4,G4,go_sem];refine And.intro (fun c hc=>by rw[zF.1 hc];rfl) (And.intro (zB _) (And.intro (by omega) ?_));refine jhh (fun X3 hX3=> ?_);obtain⟨Q4,hQ4e⟩:∃Q4,Abs.del Q3 (hp nm.s)=Q4:=⟨_,rfl⟩;have lQ4:∀k,k≠hp nm.s->Abs.look Q4 k=Abs.look Q3 k:=fun k hk=>by rw[<-hQ4e];exact ja7 _ hk
  have bQ4:blks Q4:=hQ4e▸jbx bQ3;have lX3:¬X3=X2/\¬X3=X1/\Abs.look Q4 (hp X3)=none:=by
   rw[jam (hpne ys),jam (hpne xs),jam (hp_ne (by decide)),hQ4e]at hX3;have e1:¬X3=X2:=fun e=>by rw[e,ja2]at hX3;cases hX3
   rw[ja0 _ _ (hpne e1)]at hX3;have e2:¬X3=X1:=fun e=>by rw[e,ja2]at hX3;cases hX3
   rw[ja0 _ _ (hpne e2),ja0 _ _ (hp_ne (by decide)).symm]at hX3;exact⟨e1,e2,hX3⟩
  clear hX3;obtain⟨x32,x31,lX3⟩:=lX3;have hQ4f:List.filter (fun p=>p.1 !=hp nm.s) Q3=Q4:=hQ4e;have nds:¬nm.d=nm.s:=ap.ds;have d4:=(lQ4 _ (hpne nds)).trans d3;have b4:=(lQ4 _ (hpne nbs)).trans b3;have zd:¬X3=nm.d:=fun e=>by rw[e,d4]at lX3;cases lX3
  have zb:¬X3=b:=fun e=>by rw[e,b4]at lX3;cases lX3
  have F5:=bF bQ4;have K5:=bK bQ4;have G5:=bN bQ4;refine And.intro ?_ ?_
  ·rw[jam (hpne ys),jam (hpne xs),jam (hp_ne (by decide)),hQ4e];refine jb5 ?_ (jax ?_)
   ·rw[ja0 _ _ (hpne (zD zb)),ja0 _ _ (hpne (zD yb)),ja0 _ _ (hpne (zD xb)),ja0 _ _ (hp_ne (by decide)).symm];exact b4
   ·rw[ja0 _ _ (hpne (zD zd)),ja0 _ _ (hpne (zD yd)),ja0 _ _ (hpne (zD xd)),ja0 _ _ (hp_ne (by decide)).symm];exact d4
  have bn2:(hp X1 !=hp nm.s)=true:=by simp only[qk,ne_eq];exact hpne xs
  have bn3:(hp X2 !=hp nm.s)=true:=by simp only[qk,ne_eq];exact hpne ys
  have lm:=fun(s:Nat) (es:List (List IV))=>jae (L:=Q4) (k:=hp nm.d) (s:=s) (es:=es) d4;simp only[d4,lm,x21,zD x21,x31,zD x31,x32,zD x32,xd,zD xd,yd,zD yd,zd,zD zd,xs,ys,bn2,bn3,b6,hQ4f,ja6,jd7,F5,K5,G5,go_sem];refine jbg ?_;simp only[go_sem];have A4:Abs.look Q4 (hp A)=some (4,tab D.n fun j=>qc (f j)):=by
   rw[lQ4 _ (hpne nAs),lQ3 _ (hpne nAr),lQ2 _ (hpne (zD ndA)),lQ _ (hpne nAo)];exact hlA
  have A3:Abs.look Q3 (hp A)=some (4,tab D.n fun j=>qc (f j)):=by rw[<-lQ4 _ (hpne nAs)];exact A4
  have A1:Abs.look Q (hp A)=some (4,tab D.n fun j=>qc (f j)):=by rw[lQ _ (hpne nAo)];exact hlA
  have xA:¬X1=A:=fun e=>by rw[e,A1]at lX1;cases lX1
  have yA:¬X2=A:=fun e=>by rw[e,A3]at lX2;cases lX2
  have zA:¬X3=A:=fun e=>by rw[e,A4]at lX3;cases lX3
  refine h.step (X1:=X1) (X2:=X2) (X3:=X3) (A:=A) (f:=f) (v:=v) jee ?_ ?_ ?_ ?_ ?_ ⟨fun k x hk h1 h2=> ?_⟩ (zD xd) (zD yd) (zD zd) ndA (zD x21) (zD x31) xA (zD x32) yA zA ?_ ?_
  ·rw[jau,ja0 _ _ (hpne (zD zd)),ja0 _ _ (hpne (zD yd)),ja0 _ _ (hpne (zD xd)),ja0 _ _ (hp_ne (by decide)).symm];exact jae (jae d4)
  ·rw[jau,ja0 _ _ (hpne (zD x31)),ja0 _ _ (hpne (zD x21)),ja2,oc,Int.natCast_add]
  ·rw[jau,ja0 _ _ (hpne (zD x32)),ja2];rfl
  ·rw[jau,ja2];rfl
  ·rw[jau,ja0 _ _ (hpne (zD zA)),ja0 _ _ (hpne (zD yA)),ja0 _ _ (hpne (zD xA)),ja0 _ _ (hp_ne (by decide)).symm,jan (hpne (zD ndA)),jan (hpne (zD ndA))];exact A4
  ·obtain⟨k1,k2,k3⟩:=h2 hm0;have m1:=hsM _ _ hk;have m2:Abs.look Q (hp k)=some x:=by rw[lQ _ (hpne k1)];exact m1
   have m3:Abs.look Q3 (hp k)=some x:=by rw[lQ3 _ (hpne k2),lQ2 _ (hpne h1)];exact m2
   have m4:Abs.look Q4 (hp k)=some x:=by rw[lQ4 _ (hpne k3)];exact m3
   have n1:k≠X1:=fun e=>by rw[<-e,m2]at lX1;cases lX1
   have n2:k≠X2:=fun e=>by rw[<-e,m3]at lX2;cases lX2
   have n3:k≠X3:=fun e=>by rw[<-e,m4]at lX3;cases lX3
   refine⟨?_,n1,n2,n3,fun e=>by rw[<-e,hk]at hLA;cases hLA⟩;rw[jau,ja0 _ _ (hpne n3),ja0 _ _ (hpne n2),ja0 _ _ (hpne n1),ja0 _ _ (hp_ne (by decide)).symm,jan (hpne h1),jan (hpne h1)];exact m4
  ·exact hv
  ·exact hf
