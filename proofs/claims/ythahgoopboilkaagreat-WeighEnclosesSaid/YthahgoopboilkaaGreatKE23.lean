/- A part of the proof. No further condition. -/
import Derived.Test.YthahgoopboilkaaGreatKE22
set_option linter.all false
set_option maxRecDepth 10000000
set_option maxHeartbeats 16000000
namespace Go.Proofs.YthahgoopboilkaaGreat
section
open Go.Abs
open Go.LP (Dic find)
attribute [local go_sem] ints ic big frac fc
section
variable{L:Abs.Rows}{nm:DN}{N:Nat}{D:Dic}{src:Nat->Int×Bool}
def rf0(D:Dic)(N r:Nat)(src:Nat->Int×Bool):Nat->Rat:=if D.own r<N then fun _=>0 else chU (src (D.own r-N)).2 (fun _=>0) (src (D.own r-N)).1.toNat 1
theorem FL_rf0{D:Dic}{N r:Nat}{src:Nat->Int×Bool}(k:Nat):FL 100000005 (rf0 D N r src k):=by
 have h0:FL 4 (0:Rat):=jb3 (n:=0) (by omega);have h1:FL 4 (1:Rat):=jb3 (n:=1) (by omega);unfold rf0;split
 ·exact h0.mono (by omega)
 ·exact(FL_chU (y:=fun _=>0) (c:=4) h0 (h1.mono (by omega))).mono (by omega)
theorem jjm(h:HasD L nm N D src)(R:Nat){r:Nat}(hrm:r<D.m)(hn0:D.n≠0)(hR:R<=100000)(hm:D.m<=100000)(hn:D.n<=100)(hN:N<=100000)(hs:Srcs D N R src)(hf:∀j,j<D.n->D.free j<=1000000)(ho:∀i,i<D.m->D.own i<=1000000)(sm:SmD D):
  CtrH G.P 132 [.loc (hp nm.d) 6 0 0,.im (.int R),.im (.int r)] L (fun x L'=>∃b,x= .im (.ref b 35 4 R)/\blks L'/\SubR L L'/\Abs.look L (hp b)=none/\
   Abs.look L' (hp b)=some (4,tab R fun k=>qc (prU D N src (rf0 D N r src) (fun j=>D.a r j) D.n k))):=by
 have hb:=h.blk;have F1:=bF hb;have K1:=bK hb;have G1:=bN hb;have hm0:D.m≠0:=by omega
 have c0:=h.hd;rw[jao hn0,jao hm0,jao hm0,jao hm0]at c0;have c1:=h.ho hm0;have c2:=h.hr hm0;have cf:=h.hf hn0;have rg:=lget (v:=D.v) (A:=nm.a) (n:=D.n) hrm;have og:=oget (o:=D.own) hrm;have hrm':(r:Int)<D.m:=by omega
 have hr00:(0:Int)<=r:=by omega
 have hor:=ho r hrm;have kz:=jiw R hR;have o1:=jbt 1 (by omega);rw[show((1:Int):Rat)=1 from rfl]at o1;rcases zT (D.own r) N with hv | hv
 ·have hd2:decide ((N:Int)<=D.own r)=false:=zq (by omega);have hrf:rf0 D N r src=fun _=>0:=by unfold rf0;rw[zm hv]
  refine jav [] [] [.tmp 6] Tryz.func132 ?_;simp only[F1,K1,G1,go_sem];refine jd4 kz (by decide) rfl jc8 jad ?_;rintro _ L0 ⟨b,rfl,hb0,hb1,hb2⟩ hfr;have hnew:=(hfr (hp b) (by rw[hb1];rfl)).resolve_left (by simp[Abs.look]);refine⟨(hp b,4,tab R fun _=>qc 0)::L,?_,?_⟩
  ·simp only[F1,K1,G1,go_sem];exact jcb hb1
  have hLb:Abs.look L (hp b)=none:=by
   revert hnew;simp only[F1,K1,G1,go_sem];exact fun h=>h
  clear hnew hfr kz;have ndb:¬nm.d=b:=fun e=>by rw[e,hLb]at c0;cases c0
  have nob:¬nm.o=b:=fun e=>by rw[e,hLb]at c1;cases c1
  have hbM:blks ((hp b,4,tab R fun _=>qc 0)::L):=jat hb;have F5:=fun(d:Nat) (h:d<100000)=>je8 (L:=(hp b,4,tab R fun _=>qc 0)::L) (d:=d) hbM h;simp only[c0,c1,og,ndb,nob,hd2,hrm',hr00,ja6,Int.toNat_natCast,F1,K1,G1,go_sem];obtain⟨M1,hM1e,hM1,hs1,hl1⟩:∃M1,M1=(hp b,4,(tab R fun _=>qc 0))::L/\blks M1/\SubR L M1/\Abs.look M1 (hp b)=some (4,tab R fun k=>qc (prU D N src (rf0 D N r src) (fun j=>D.a r j) 0 k)):=by
   refine⟨_,rfl,jat hb,jas hLb (SubR.of_eq rfl),?_⟩;rw[ja2,prU,hrf]
  clear hrf;refine jaz [0,2,7,39,40,41] (fun g:Nat×Abs.Rows=>⟨[(0,.loc (hp nm.d) 6 0 0),(2,.im (.int r)),(7,.im (.ref b 35 4 R)),(39,.im (.ref nm.f 3 1 D.n)),(40,.im (.int D.n)),(41,.im (.int g.1))],g.2,[]⟩)
   (fun g=>g.1<=D.n/\blks g.2/\SubR L g.2/\Abs.look g.2 (hp b)=some (4,tab R fun k=>qc (prU D N src (rf0 D N r src) (fun j=>D.a r j) g.1 k))) (fun g=>D.n-g.1) (0,M1) ?_ (SubR.of_eq hM1e) rfl
   ⟨zE _,hM1,hs1,hl1⟩ ?_
  ·simp only[Int.natCast_zero,go_sem]
  rintro⟨j,M⟩ ⟨hj,hM,hsM,hl⟩;dsimp only at hj hM hsM hl;have F2:=bF hM;have K2:=bK hM;have G2:=bN hM;have d0:=hsM _ _ c0;have df:=hsM _ _ cf;have dr:=hsM _ _ c2;have da:=hsM _ _ (h.ha r hrm);rcases zT j D.n with hlt | hlt
  ·have hd:decide ((j:Int)<D.n)=true:=za (by omega);have hjn:(j:Int)<D.n:=by omega
   have hj0:(0:Int)<=j:=by omega
   have w1:=ja9 (n:=(j:Int)+1) (by omega);have fg:=oget (o:=D.free) hlt;have ag:=qget (f:=D.a r) hlt;have hfj:=hf j hlt;rcases zT (D.free j) N with hv | hv
   ·have hd2:decide ((N:Int)<=D.free j)=false:=zq (by omega);simp only[hd,hd2,d0,df,fg,hjn,hj0,ja6,Int.toNat_natCast,F2,K2,G2,go_sem];refine jaa (j+1,M) ?_ (SubR.of_eq rfl) rfl (by show D.n-(j+1)<D.n-j;omega) ⟨hlt,hM,hsM,hl.trans ?_⟩
    ·simp only[w1,Int.natCast_add,go_sem]
    ·congr 2;refine jak fun k hk=>qd qc ?_;rw[prU,zm hv]
   ·have hd2:decide ((N:Int)<=D.free j)=true:=za (by omega);have him:=hs.free j hlt hv;have hsr:=hs.row _ him;have w2:=ja9 (n:=((D.free j-N:Nat):Int)) (by omega);have w3:(D.free j:Int)-N=((D.free j-N:Nat):Int):=by omega
    have HM:=h.sub hM hsM;have ky:=jsx (D:=D) (N:=N) (src:=src) (y0:=rf0 D N r src) (pr:=fun j=>D.a r j) (c:=100000005) (fun k=>FL_rf0 k) (fun j hj=>sm.a r j hrm hj) j hj (src (D.free j-N)).1.toNat;have kc:=jk1 HM him (r:=(src (D.free j-N)).1.toNat) (by omega) (by omega:(src (D.free j-N)).1.toNat<R) _ hl (D.a r j) hR hm (ky.mono (by
     have:j*100000001<=100*100000001:=qy _ (by omega);omega)) (sm.a r j hrm hlt)
    have hps:prU D N src (rf0 D N r src) (fun j=>D.a r j) (j+1)=chU (src (D.free j-N)).2 (prU D N src (rf0 D N r src) (fun j=>D.a r j) j) (src (D.free j-N)).1.toNat (D.a r j):=by
     rw[prU,zn (by omega)]
    simp only[frac,ints]at kc;simp only[hd,hd2,d0,df,fg,hjn,hj0,ja6,Int.toNat_natCast,F2,K2,G2,go_sem];refine jac 19 ?_;simp only[hd,hd2,d0,df,dr,da,fg,rg,ag,hrm',hr00,hjn,hj0,w2,w3,ja6,Int.toNat_natCast,F2,K2,G2,go_sem];refine jaj kc (by decide) (by simp only[zl,zC,jaw];rfl) hM (SubR.of_eq rfl) ?_;rintro _ L2 ⟨rfl,t1,t2,t3⟩ _;refine⟨L2,jbn,?_⟩;have F3:=bF t1;simp only[F3,go_sem];refine jaa (j+1,L2) ?_ (SubR.of_eq rfl) rfl (by show D.n-(j+1)<D.n-j;omega) ⟨hlt,t1,fun k x hk=> ?_,t2.trans ?_⟩
    ·simp only[w1,Int.natCast_add,go_sem]
    ·rw[t3 k (fun e=>by subst e;rw[hLb]at hk;cases hk)];exact hsM k x hk
    ·dsimp only;rw[hps]
  ·have hd:decide ((j:Int)<D.n)=false:=zq (by omega);have hjn:j=D.n:=by omega
   subst hjn;simp only[hd,go_sem];refine jbh M hM (SubR.of_eq rfl) ?_;simp only[go_sem];exact⟨b,rfl,hM,hsM,hLb,hl⟩
 ·have hd2:decide ((N:Int)<=D.own r)=true:=za (by omega);have him0:=hs.own r hrm hv;have hsr0:=hs.row _ him0;have hrf:rf0 D N r src=chU (src (D.own r-N)).2 (fun _=>0) (src (D.own r-N)).1.toNat 1:=by unfold rf0;rw[zn (by omega)]
  have v2:=ja9 (n:=((D.own r-N:Nat):Int)) (by omega);have v3:(D.own r:Int)-N=((D.own r-N:Nat):Int):=by omega
  refine jav [] [] [.tmp 6] Tryz.func132 ?_;simp only[F1,K1,G1,go_sem];refine jd4 kz (by decide) rfl jc8 jad ?_;rintro _ L0 ⟨b,rfl,hb0,hb1,hb2⟩ hfr;have hnew:=(hfr (hp b) (by rw[hb1];rfl)).resolve_left (by simp[Abs.look]);refine⟨(hp b,4,tab R fun _=>qc 0)::L,?_,?_⟩
  ·simp only[F1,K1,G1,go_sem];exact jcb hb1
  have hLb:Abs.look L (hp b)=none:=by
   revert hnew;simp only[F1,K1,G1,go_sem];exact fun h=>h
  clear hnew hfr kz;have ndb:¬nm.d=b:=fun e=>by rw[e,hLb]at c0;cases c0
  have nob:¬nm.o=b:=fun e=>by rw[e,hLb]at c1;cases c1
  have hbM:blks ((hp b,4,tab R fun _=>qc 0)::L):=jat hb;have F5:=fun(d:Nat) (h:d<100000)=>je8 (L:=(hp b,4,tab R fun _=>qc 0)::L) (d:=d) hbM h;have HM0:HasD ((hp b,4,tab R fun _=>qc 0)::L) nm N D src:=h.sub hbM (jas hLb (SubR.of_eq rfl));have kc:=jk1 HM0 him0 (r:=(src (D.own r-N)).1.toNat) (by omega) (by omega:(src (D.own r-N)).1.toNat<R) (fun _=>0) (ja2 _ _ _) 1 hR hm ((jb3 (n:=0) (by omega):FL 4 ((0:Int):Rat)).mono (by omega)) ((jb3 (n:=1) (by omega):FL 4 ((1:Int):Rat)).mono (by omega));rw[<-hrf]at kc;generalize (1:Rat)=one at o1 kc;simp only[frac,ints]at o1 kc;simp only[c0,c1,og,ndb,nob,hd2,hrm',hr00,ja6,Int.toNat_natCast,F1,K1,G1,go_sem];refine jac 9 ?_;simp only[c0,c1,og,ndb,nob,hd2,v2,v3,hrm',hr00,ja6,Int.toNat_natCast,F1,K1,G1,go_sem];refine ja4 o1 (by decide) ?_;simp only[c0,c1,og,ndb,nob,hd2,v2,v3,hrm',hr00,ja6,Int.toNat_natCast,F1,K1,G1,go_sem];refine jaj kc (by decide) (by simp only[zl,zC,jaw];rfl) hbM (SubR.of_eq rfl) ?_;rintro _ M1 ⟨rfl,hM1,t2,t3⟩ _;refine⟨M1,jbn,?_⟩;have hs1:SubR L M1:=fun k x hk=>by
   have hne:k≠hp b:=fun e=>by subst e;rw[hLb]at hk;cases hk
   rw[t3 k hne,ja0 _ _ hne];exact hk
  have hl1:Abs.look M1 (hp b)=some (4,tab R fun k=>qc (prU D N src (rf0 D N r src) (fun j=>D.a r j) 0 k)):=t2;have hM1e:M1=M1:=rfl;have F3:=bF hM1;have e0:=hs1 _ _ c0;simp only[e0,F3,go_sem];refine jaz [0,2,7,39,40,41] (fun g:Nat×Abs.Rows=>⟨[(0,.loc (hp nm.d) 6 0 0),(2,.im (.int r)),(7,.im (.ref b 35 4 R)),(39,.im (.ref nm.f 3 1 D.n)),(40,.im (.int D.n)),(41,.im (.int g.1))],g.2,[]⟩)
   (fun g=>g.1<=D.n/\blks g.2/\SubR L g.2/\Abs.look g.2 (hp b)=some (4,tab R fun k=>qc (prU D N src (rf0 D N r src) (fun j=>D.a r j) g.1 k))) (fun g=>D.n-g.1) (0,M1) ?_ (SubR.of_eq hM1e) rfl
   ⟨zE _,hM1,hs1,hl1⟩ ?_
  ·simp only[Int.natCast_zero,go_sem]
  rintro⟨j,M⟩ ⟨hj,hM,hsM,hl⟩;dsimp only at hj hM hsM hl;have F2:=bF hM;have K2:=bK hM;have G2:=bN hM;have d0:=hsM _ _ c0;have df:=hsM _ _ cf;have dr:=hsM _ _ c2;have da:=hsM _ _ (h.ha r hrm);rcases zT j D.n with hlt | hlt
  ·have hd:decide ((j:Int)<D.n)=true:=za (by omega);have hjn:(j:Int)<D.n:=by omega
   have hj0:(0:Int)<=j:=by omega
   have w1:=ja9 (n:=(j:Int)+1) (by omega);have fg:=oget (o:=D.free) hlt;have ag:=qget (f:=D.a r) hlt;have hfj:=hf j hlt;rcases zT (D.free j) N with hv | hv
   ·have hd2:decide ((N:Int)<=D.free j)=false:=zq (by omega);simp only[hd,hd2,d0,df,fg,hjn,hj0,ja6,Int.toNat_natCast,F2,K2,G2,go_sem];refine jaa (j+1,M) ?_ (SubR.of_eq rfl) rfl (by show D.n-(j+1)<D.n-j;omega) ⟨hlt,hM,hsM,hl.trans ?_⟩
    ·simp only[w1,Int.natCast_add,go_sem]
    ·congr 2;refine jak fun k hk=>qd qc ?_;rw[prU,zm hv]
   ·have hd2:decide ((N:Int)<=D.free j)=true:=za (by omega);have him:=hs.free j hlt hv;have hsr:=hs.row _ him;have w2:=ja9 (n:=((D.free j-N:Nat):Int)) (by omega);have w3:(D.free j:Int)-N=((D.free j-N:Nat):Int):=by omega
    have HM:=h.sub hM hsM;have ky:=jsx (D:=D) (N:=N) (src:=src) (y0:=rf0 D N r src) (pr:=fun j=>D.a r j) (c:=100000005) (fun k=>FL_rf0 k) (fun j hj=>sm.a r j hrm hj) j hj (src (D.free j-N)).1.toNat;have kc:=jk1 HM him (r:=(src (D.free j-N)).1.toNat) (by omega) (by omega:(src (D.free j-N)).1.toNat<R) _ hl (D.a r j) hR hm (ky.mono (by
     have:j*100000001<=100*100000001:=qy _ (by omega);omega)) (sm.a r j hrm hlt)
    have hps:prU D N src (rf0 D N r src) (fun j=>D.a r j) (j+1)=chU (src (D.free j-N)).2 (prU D N src (rf0 D N r src) (fun j=>D.a r j) j) (src (D.free j-N)).1.toNat (D.a r j):=by
     rw[prU,zn (by omega)]
    simp only[frac,ints]at kc;simp only[hd,hd2,d0,df,fg,hjn,hj0,ja6,Int.toNat_natCast,F2,K2,G2,go_sem];refine jac 19 ?_;simp only[hd,hd2,d0,df,dr,da,fg,rg,ag,hrm',hr00,hjn,hj0,w2,w3,ja6,Int.toNat_natCast,F2,K2,G2,go_sem];refine jaj kc (by decide) (by simp only[zl,zC,jaw];rfl) hM (SubR.of_eq rfl) ?_;rintro _ L2 ⟨rfl,t1,t2,t3⟩ _;refine⟨L2,jbn,?_⟩;have F3:=bF t1;simp only[F3,go_sem];refine jaa (j+1,L2) ?_ (SubR.of_eq rfl) rfl (by show D.n-(j+1)<D.n-j;omega) ⟨hlt,t1,fun k x hk=> ?_,t2.trans ?_⟩
    ·simp only[w1,Int.natCast_add,go_sem]
    ·rw[t3 k (fun e=>by subst e;rw[hLb]at hk;cases hk)];exact hsM k x hk
    ·dsimp only;rw[hps]
  ·have hd:decide ((j:Int)<D.n)=false:=zq (by omega);have hjn:j=D.n:=by omega
   subst hjn;simp only[hd,go_sem];refine jbh M hM (SubR.of_eq rfl) ?_;simp only[go_sem];exact⟨b,rfl,hM,hsM,hLb,hl⟩
