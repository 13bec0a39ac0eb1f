/- A part of the proof. No further condition. -/
import Derived.Test.YtjcjcpebocbonaaGreatKZ24
set_option linter.all false
set_option maxRecDepth 10000000
set_option maxHeartbeats 16000000
namespace Go.Proofs.YtjcjcpebocbonaaGreat
section
set_option maxRecDepth 1000000
open Go.Abs
open Go.LP (Dic find)
attribute [local go_sem] ints ic big frac fc
section
variable{L:Abs.Rows}{nm:DN}{N:Nat}{D:Dic}{src:Nat->Int×Bool}
def rf0(D:Dic)(N r:Nat)(src:Nat->Int×Bool):Nat->Rat:=if D.own r<N then fun _=>0 else chU (src (D.own r-N)).2 (fun _=>0) (src (D.own r-N)).1.toNat 1
theorem FL_rf0{D:Dic}{N r:Nat}{src:Nat->Int×Bool}(k:Nat):FL 100000005 (rf0 D N r src k):=by
 have h0:FL 4 (0:Rat):=jbn (n:=0) (by omega);have h1:FL 4 (1:Rat):=jbn (n:=1) (by omega);unfold rf0;split
 ·exact h0.mono (by omega)
 ·exact(FL_chU (y:=fun _=>0) (c:=4) h0 (h1.mono (by omega))).mono (by omega)
theorem jk1(h:HasD L nm N D src)(R:Nat){r:Nat}(b0:r<D.m)(c9:D.n≠0)(hR:R<=100000)(hm:D.m<=100000)(hn:D.n<=100)(hN:N<=100000)(hs:Srcs D N R src)(hf:∀j,j<D.n->D.free j<=1000000)(ho:∀i,i<D.m->D.own i<=1000000)(sm:SmD D):
  CtrH G.P 143 [.loc (hp nm.d) 6 0 0,.im (.int R),.im (.int r)] L (fun x L'=>∃b,x= .im (.ref b 48 4 R)/\blks L'/\SubR L L'/\Abs.look L (hp b)=none/\
   Abs.look L' (hp b)=some (4,tab R fun k=>qc (prU D N src (rf0 D N r src) (fun j=>D.a r j) D.n k))):=by
 have hb:=h.blk;have F1:=bB hb;have b7:D.m≠0:=by omega
 have c0:=h.hd;rw[jal c9,jal b7,jal b7,jal b7]at c0;have c1:=h.ho b7;have c2:=h.hr b7;have cf:=h.hf c9;have rg:=lget (v:=D.v) (A:=nm.a) (n:=D.n) b0;have og:=oget (o:=D.own) b0;have b1:(r:Int)<D.m:=by omega
 have b2:(0:Int)<=r:=by omega
 have e5:=ho r b0;have kz:=jjg R hR;have o1:=jcj 1 (by omega);rw[show((1:Int):Rat)=1 from rfl]at o1;rcases zT (D.own r) N with hv | hv
 ·have a6:decide ((N:Int)<=D.own r)=false:=dFo;have c4:rf0 D N r src=fun _=>0:=by unfold rf0;rw[zh hv]
  refine jap [] [] [.tmp 6] Tryz.func143 ?_;simp only[F1,go_sem];refine jcw kz (by decide) rfl jb5 jba ?_;rintro _ L0 ⟨b,rfl,hb0,hb1,hb2⟩ hfr;have b3:=(hfr (hp b) (by rw[hb1];rfl)).resolve_left (by simp[Abs.look]);refine⟨(hp b,4,tab R fun _=>qc 0)::L,?_,?_⟩
  ·simp only[F1,go_sem];exact jcb hb1
  have a7:Abs.look L (hp b)=none:=by
   revert b3;simp only[F1,go_sem];exact fun h=>h
  clear b3 hfr kz;have b6:¬nm.d=b:=fun e=>by rw[e,a7]at c0;cases c0
  have b5:¬nm.o=b:=fun e=>by rw[e,a7]at c1;cases c1
  have b9:blks ((hp b,4,tab R fun _=>qc 0)::L):=jao hb;have F5:=fun(d:Nat) (h:d<100000)=>jec (L:=(hp b,4,tab R fun _=>qc 0)::L) (d:=d) b9 h;simp only[c0,c1,og,b6,b5,a6,b1,b2,jad,Int.toNat_natCast,F1,go_sem];obtain⟨M1,c3,hM1,hs1,c7⟩:∃M1,M1=(hp b,4,(tab R fun _=>qc 0))::L/\blks M1/\SubR L M1/\Abs.look M1 (hp b)=some (4,tab R fun k=>qc (prU D N src (rf0 D N r src) (fun j=>D.a r j) 0 k)):=by
   refine⟨_,rfl,jao hb,jaw a7 ja5,?_⟩;rw[ja2,prU,c4]
  clear c4;refine jar [0,2,7,39,40,41] (fun g:Nat×Abs.Rows=>⟨[(0,.loc (hp nm.d) 6 0 0),(2,.im (.int r)),(7,.im (.ref b 48 4 R)),(39,.im (.ref nm.f 3 1 D.n)),(40,.im (.int D.n)),(41,.im (.int g.1))],g.2,[]⟩)
   (fun g=>g.1<=D.n/\blks g.2/\SubR L g.2/\Abs.look g.2 (hp b)=some (4,tab R fun k=>qc (prU D N src (rf0 D N r src) (fun j=>D.a r j) g.1 k))) (fun g=>D.n-g.1) (0,M1) ?_ (SubR.of_eq c3) rfl
   ⟨zG _,hM1,hs1,c7⟩ ?_
  ·simp only[Int.natCast_zero,go_sem]
  rintro⟨j,M⟩ ⟨hj,hM,a1,hl⟩;dsimp only at hj hM a1 hl;have F2:=bB hM;have d0:=a1 _ _ c0;have df:=a1 _ _ cf;have dr:=a1 _ _ c2;have da:=a1 _ _ (h.ha r b0);rcases zT j D.n with hlt | hlt
  ·have hd:decide ((j:Int)<D.n)=true:=dTo;have a8:(j:Int)<D.n:=by omega
   have b4:(0:Int)<=j:=by omega
   have w1:=ja8 ((j:Int)+1);have fg:=oget (o:=D.free) hlt;have ag:=qget (f:=D.a r) hlt;have e2:=hf j hlt;rcases zT (D.free j) N with hv | hv
   ·have a6:decide ((N:Int)<=D.free j)=false:=dFo;simp only[hd,a6,d0,df,fg,a8,b4,jad,Int.toNat_natCast,F2,go_sem];refine jac (j+1,M) ?_ ja5 rfl (by show D.n-(j+1)<D.n-j;omega) ⟨hlt,hM,a1,hl.trans ?_⟩
    ·simp only[w1,Int.natCast_add,go_sem]
    ·congr 2;refine jan fun k hk=>zS qc ?_;rw[prU,zh hv]
   ·have a6:decide ((N:Int)<=D.free j)=true:=dTo;have b8:=hs.free j hlt hv;have e1:=hs.row _ b8;have w2:=ja8 (((D.free j-N:Nat):Int));have w3:(D.free j:Int)-N=((D.free j-N:Nat):Int):=by omega
    have HM:=h.sub hM a1;have ky:=jto (D:=D) (N:=N) (src:=src) (y0:=rf0 D N r src) (pr:=fun j=>D.a r j) (c:=100000005) (fun k=>FL_rf0 k) (fun j hj=>sm.a r j b0 hj) j hj (src (D.free j-N)).1.toNat;have kc:=jkk HM b8 (r:=(src (D.free j-N)).1.toNat) (by omega) (by omega:(src (D.free j-N)).1.toNat<R) _ hl (D.a r j) hR hm (ky.mono (by
     have:j*100000001<=100*100000001:=qj _ (by omega);omega)) (sm.a r j b0 hlt)
    have c6:prU D N src (rf0 D N r src) (fun j=>D.a r j) (j+1)=chU (src (D.free j-N)).2 (prU D N src (rf0 D N r src) (fun j=>D.a r j) j) (src (D.free j-N)).1.toNat (D.a r j):=by
     rw[prU,iNo]
    simp only[frac,ints]at kc;simp only[hd,a6,d0,df,fg,a8,b4,jad,Int.toNat_natCast,F2,go_sem];refine jaf 19 ?_;simp only[hd,a6,d0,df,dr,da,fg,rg,ag,b1,b2,a8,b4,w2,w3,jad,Int.toNat_natCast,F2,go_sem];refine jaj kc (by decide) (by simp only[zt,zF,jb3];rfl) hM ja5 ?_;rintro _ L2 ⟨rfl,t1,t2,t3⟩ _;refine⟨L2,jb9,?_⟩;have F3:=bF t1;simp only[F3,go_sem];refine jac (j+1,L2) ?_ ja5 rfl (by show D.n-(j+1)<D.n-j;omega) ⟨hlt,t1,fun k x hk=> ?_,t2.trans ?_⟩
    ·simp only[w1,Int.natCast_add,go_sem]
    ·rw[t3 k (fun e=>by subst e;rw[a7]at hk;cases hk)];exact a1 k x hk
    ·dsimp only;rw[c6]
  ·have hd:decide ((j:Int)<D.n)=false:=dFo;have a8:j=D.n:=by omega
   subst a8;simp only[hd,go_sem];refine jb1 M hM ja5 ?_;simp only[go_sem];exact⟨b,rfl,hM,a1,a7,hl⟩
 ·have a6:decide ((N:Int)<=D.own r)=true:=dTo;have c5:=hs.own r b0 hv;have e4:=hs.row _ c5;have c4:rf0 D N r src=chU (src (D.own r-N)).2 (fun _=>0) (src (D.own r-N)).1.toNat 1:=by unfold rf0;rw[iNo]
  have v2:=ja8 (((D.own r-N:Nat):Int));have v3:(D.own r:Int)-N=((D.own r-N:Nat):Int):=by omega
  refine jap [] [] [.tmp 6] Tryz.func143 ?_;simp only[F1,go_sem];refine jcw kz (by decide) rfl jb5 jba ?_;rintro _ L0 ⟨b,rfl,hb0,hb1,hb2⟩ hfr;have b3:=(hfr (hp b) (by rw[hb1];rfl)).resolve_left (by simp[Abs.look]);refine⟨(hp b,4,tab R fun _=>qc 0)::L,?_,?_⟩
  ·simp only[F1,go_sem];exact jcb hb1
  have a7:Abs.look L (hp b)=none:=by
   revert b3;simp only[F1,go_sem];exact fun h=>h
  clear b3 hfr kz;have b6:¬nm.d=b:=fun e=>by rw[e,a7]at c0;cases c0
  have b5:¬nm.o=b:=fun e=>by rw[e,a7]at c1;cases c1
  have b9:blks ((hp b,4,tab R fun _=>qc 0)::L):=jao hb;have F5:=fun(d:Nat) (h:d<100000)=>jec (L:=(hp b,4,tab R fun _=>qc 0)::L) (d:=d) b9 h;have e3:HasD ((hp b,4,tab R fun _=>qc 0)::L) nm N D src:=h.sub b9 (jaw a7 ja5);have kc:=jkk e3 c5 (r:=(src (D.own r-N)).1.toNat) (by omega) (by omega:(src (D.own r-N)).1.toNat<R) (fun _=>0) (ja2 _ _ _) 1 hR hm ((jbn (n:=0) (by omega):FL 4 ((0:Int):Rat)).mono (by omega)) ((jbn (n:=1) (by omega):FL 4 ((1:Int):Rat)).mono (by omega));rw[<-c4]at kc;generalize (1:Rat)=one at o1 kc;simp only[frac,ints]at o1 kc;simp only[c0,c1,og,b6,b5,a6,b1,b2,jad,Int.toNat_natCast,F1,go_sem];refine jaf 9 ?_;simp only[c0,c1,og,b6,b5,a6,v2,v3,b1,b2,jad,Int.toNat_natCast,F1,go_sem];refine ja3 o1 (by decide) ?_;simp only[c0,c1,og,b6,b5,a6,v2,v3,b1,b2,jad,Int.toNat_natCast,F1,go_sem];refine jaj kc (by decide) (by simp only[zt,zF,jb3];rfl) b9 ja5 ?_;rintro _ M1 ⟨rfl,hM1,t2,t3⟩ _;refine⟨M1,jb9,?_⟩;have hs1:SubR L M1:=fun k x hk=>by
   have c8:k≠hp b:=fun e=>by subst e;rw[a7]at hk;cases hk
   rw[t3 k c8,ja1 _ _ c8];exact hk
  have c7:Abs.look M1 (hp b)=some (4,tab R fun k=>qc (prU D N src (rf0 D N r src) (fun j=>D.a r j) 0 k)):=t2;have c3:M1=M1:=rfl;have F3:=bF hM1;have e0:=hs1 _ _ c0;simp only[e0,F3,go_sem];refine jar [0,2,7,39,40,41] (fun g:Nat×Abs.Rows=>⟨[(0,.loc (hp nm.d) 6 0 0),(2,.im (.int r)),(7,.im (.ref b 48 4 R)),(39,.im (.ref nm.f 3 1 D.n)),(40,.im (.int D.n)),(41,.im (.int g.1))],g.2,[]⟩)
   (fun g=>g.1<=D.n/\blks g.2/\SubR L g.2/\Abs.look g.2 (hp b)=some (4,tab R fun k=>qc (prU D N src (rf0 D N r src) (fun j=>D.a r j) g.1 k))) (fun g=>D.n-g.1) (0,M1) ?_ (SubR.of_eq c3) rfl
   ⟨zG _,hM1,hs1,c7⟩ ?_
  ·simp only[Int.natCast_zero,go_sem]
  rintro⟨j,M⟩ ⟨hj,hM,a1,hl⟩;dsimp only at hj hM a1 hl;have F2:=bB hM;have d0:=a1 _ _ c0;have df:=a1 _ _ cf;have dr:=a1 _ _ c2;have da:=a1 _ _ (h.ha r b0);rcases zT j D.n with hlt | hlt
  ·have hd:decide ((j:Int)<D.n)=true:=dTo;have a8:(j:Int)<D.n:=by omega
   have b4:(0:Int)<=j:=by omega
   have w1:=ja8 ((j:Int)+1);have fg:=oget (o:=D.free) hlt;have ag:=qget (f:=D.a r) hlt;have e2:=hf j hlt;rcases zT (D.free j) N with hv | hv
   ·have a6:decide ((N:Int)<=D.free j)=false:=dFo;simp only[hd,a6,d0,df,fg,a8,b4,jad,Int.toNat_natCast,F2,go_sem];refine jac (j+1,M) ?_ ja5 rfl (by show D.n-(j+1)<D.n-j;omega) ⟨hlt,hM,a1,hl.trans ?_⟩
    ·simp only[w1,Int.natCast_add,go_sem]
    ·congr 2;refine jan fun k hk=>zS qc ?_;rw[prU,zh hv]
   ·have a6:decide ((N:Int)<=D.free j)=true:=dTo;have b8:=hs.free j hlt hv;have e1:=hs.row _ b8;have w2:=ja8 (((D.free j-N:Nat):Int));have w3:(D.free j:Int)-N=((D.free j-N:Nat):Int):=by omega
    have HM:=h.sub hM a1;have ky:=jto (D:=D) (N:=N) (src:=src) (y0:=rf0 D N r src) (pr:=fun j=>D.a r j) (c:=100000005) (fun k=>FL_rf0 k) (fun j hj=>sm.a r j b0 hj) j hj (src (D.free j-N)).1.toNat;have kc:=jkk HM b8 (r:=(src (D.free j-N)).1.toNat) (by omega) (by omega:(src (D.free j-N)).1.toNat<R) _ hl (D.a r j) hR hm (ky.mono (by
     have:j*100000001<=100*100000001:=qj _ (by omega);omega)) (sm.a r j b0 hlt)
    have c6:prU D N src (rf0 D N r src) (fun j=>D.a r j) (j+1)=chU (src (D.free j-N)).2 (prU D N src (rf0 D N r src) (fun j=>D.a r j) j) (src (D.free j-N)).1.toNat (D.a r j):=by
     rw[prU,iNo]
    simp only[frac,ints]at kc;simp only[hd,a6,d0,df,fg,a8,b4,jad,Int.toNat_natCast,F2,go_sem];refine jaf 19 ?_;simp only[hd,a6,d0,df,dr,da,fg,rg,ag,b1,b2,a8,b4,w2,w3,jad,Int.toNat_natCast,F2,go_sem];refine jaj kc (by decide) (by simp only[zt,zF,jb3];rfl) hM ja5 ?_;rintro _ L2 ⟨rfl,t1,t2,t3⟩ _;refine⟨L2,jb9,?_⟩;have F3:=bF t1;simp only[F3,go_sem];refine jac (j+1,L2) ?_ ja5 rfl (by show D.n-(j+1)<D.n-j;omega) ⟨hlt,t1,fun k x hk=> ?_,t2.trans ?_⟩
    ·simp only[w1,Int.natCast_add,go_sem]
    ·rw[t3 k (fun e=>by subst e;rw[a7]at hk;cases hk)];exact a1 k x hk
    ·dsimp only;rw[c6]
  ·have hd:decide ((j:Int)<D.n)=false:=dFo;have a8:j=D.n:=by omega
   subst a8;simp only[hd,go_sem];refine jb1 M hM ja5 ?_;simp only[go_sem];exact⟨b,rfl,hM,a1,a7,hl⟩
