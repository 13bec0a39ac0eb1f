/- A part of the proof. No further condition. -/
import Derived.Test.YthahgoopboilkaaGreatKE20
set_option linter.all false
set_option maxRecDepth 10000000
set_option maxHeartbeats 16000000
namespace Go.Proofs.YthahgoopboilkaaGreat
section
open Go.Abs
open Go.LP (Dic find)
attribute [local go_sem] ints ic big frac fc
section
variable{L:Abs.Rows}{nm:DN}{N:Nat}{D:Dic}{src:Nat->Int×Bool}
def chU(turned:Bool)(y:Nat->Rat)(r:Nat)(price:Rat)(k:Nat):Rat:=if k=r then y k+(if turned then price else-price)else y k
theorem jk1(h:HasD L nm N D src){i r R Y:Nat}(hi:i<D.m)(hsr:(src i).1=(r:Int))(hr:r<R)(y:Nat->Rat)(hY:Abs.look L (hp Y)=some (4,tab R fun k=>qc (y k)))(price:Rat)(hR:R<=100000)(hm:D.m<=100000)(ky:FL 18000000000 (y r))(kp:FL 100000000 price):
  CtrH G.P 186 [.loc (hp nm.d) 6 0 0,.im (.ref Y 35 4 R),.im (.int i),.im (frac price)] L
   (fun x L'=>x= .im (.tup [])/\blks L'/\Abs.look L' (hp Y)=some (4,tab R fun k=>qc (chU (src i).2 y r price k))/\∀k,k≠hp Y->Abs.look L' k=Abs.look L k):=by
 have hb:=h.blk;have F1:=bF hb;have K1:=bK hb;have G1:=bN hb;have hm0:D.m≠0:=by omega
 have c0:=h.hd;rw[jao hm0,jao hm0,jao hm0]at c0;have c1:=h.hs hm0;have hi':(i:Int)<D.m:=by omega
 have hi0:(0:Int)<=i:=by omega
 have hr':(r:Int)<R:=by omega
 have hr0:(0:Int)<=r:=by omega
 have sg:=sget (o:=src) hi;rw[hsr]at sg;have yg:=qget (f:=y) hr;have kn:=f_neg (kp.mono (by omega:100000000<=19000000000));rcases ht:(src i).2 with _ | _
 ·rw[ht]at sg;have ka:=f_add (ky.mono (by omega:18000000000<=19000000000)) ((jhj kp).mono (by omega:100000000<=19000000000));generalize hx:y r+ -price=x at*;generalize hnp: -price=np at*;obtain⟨L',hL',hb',hl',ho'⟩:∃L',L'=L.map (fun p=>if p.1=hp Y then(p.1,4,(tab R fun k=>qc (y k)).set r (fc x))else p)/\blks L'/\Abs.look L' (hp Y)=some (4,tab R fun k=>qc (chU false y r price k))/\∀k,k≠hp Y->Abs.look L' k=Abs.look L k:=by
   refine⟨_,rfl,jb8 hb,(jae hY).trans ?_,fun k hk=>jan hk⟩;rw[qset];congr 2;refine jak fun k hk=>qd qc ?_;unfold chU;by_cases e:k=r
   ·rw[zm e,zm e,e,zn yz,hnp,hx]
   ·rw[zn e,zn e]
  simp only[frac,ints]at kn ka;refine jav [] [] [] Tryz.func186 ?_;unfold frac;simp only[c0,c1,sg,hi',hi0,ja6,Int.toNat_natCast,F1,K1,G1,go_sem];refine ja1 kn ?_;simp only[c0,c1,sg,hi',hi0,ja6,Int.toNat_natCast,F1,K1,G1,go_sem];refine jaf ?_;simp only[c0,c1,sg,hY,yg,hi',hi0,hr',hr0,ja6,Int.toNat_natCast,F1,K1,G1,go_sem];refine ja4 ka (by decide) ?_;simp only[c0,c1,sg,hY,yg,hi',hi0,hr',hr0,ja6,Int.toNat_natCast,F1,K1,G1,go_sem];refine jbh L' hb' (ja3 (by decide) hb' (ja3 (by decide) hb' (SubR.of_eq hL'))) ?_;simp only[go_sem];exact⟨hb',hl',ho'⟩
 ·rw[ht]at sg;have ka:=f_add (ky.mono (by omega:18000000000<=19000000000)) (kp.mono (by omega:100000000<=19000000000));generalize hx:y r+price=x at*;obtain⟨L',hL',hb',hl',ho'⟩:∃L',L'=L.map (fun p=>if p.1=hp Y then(p.1,4,(tab R fun k=>qc (y k)).set r (fc x))else p)/\blks L'/\Abs.look L' (hp Y)=some (4,tab R fun k=>qc (chU true y r price k))/\∀k,k≠hp Y->Abs.look L' k=Abs.look L k:=by
   refine⟨_,rfl,jb8 hb,(jae hY).trans ?_,fun k hk=>jan hk⟩;rw[qset];congr 2;refine jak fun k hk=>qd qc ?_;unfold chU;by_cases e:k=r
   ·rw[zm e,zm e,e,zm rfl,hx]
   ·rw[zn e,zn e]
  simp only[frac,ints]at ka;refine jav [] [] [] Tryz.func186 ?_;unfold frac;simp only[c0,c1,sg,hi',hi0,ja6,Int.toNat_natCast,F1,K1,G1,go_sem];refine jaf ?_;simp only[c0,c1,sg,hY,yg,hi',hi0,hr',hr0,ja6,Int.toNat_natCast,F1,K1,G1,go_sem];refine ja4 ka (by decide) ?_;simp only[c0,c1,sg,hY,yg,hi',hi0,hr',hr0,ja6,Int.toNat_natCast,F1,K1,G1,go_sem];refine jbh L' hb' (ja3 (by decide) hb' (ja3 (by decide) hb' (SubR.of_eq hL'))) ?_;simp only[go_sem];exact⟨hb',hl',ho'⟩
end
end
section
open Go.Abs
open Go.LP (Dic find)
attribute [local go_sem] ints ic big frac fc
theorem jaw(b s i j:Nat):AV.toH (.loc (hp b) s i j)= .loc (hp b) s i j:=by simp only[AV.toH,hp_ge,qC]
def prU(D:Dic)(N:Nat)(src:Nat->Int×Bool)(y0:Nat->Rat)(pr:Nat->Rat):Nat->Nat->Rat
 | 0=>y0
 | j+1=>if D.free j<N then prU D N src y0 pr j else chU (src (D.free j-N)).2 (prU D N src y0 pr j) (src (D.free j-N)).1.toNat (pr j)
theorem FL_chU{t:Bool}{y:Nat->Rat}{r:Nat}{p:Rat}{k c:Nat}(hy:FL c (y k))(hp:FL 100000000 p):FL (c+100000001) (chU t y r p k):=by
 unfold chU;split
 ·cases t
  ·exact(jfc hy (jhj hp)).mono (by omega)
  ·exact(jfc hy hp).mono (by omega)
 ·exact hy.mono (by omega)
theorem jsx{D:Dic}{N:Nat}{src:Nat->Int×Bool}{y0 pr:Nat->Rat}{c:Nat}(h0:∀k,FL c (y0 k))(hp:∀j,j<D.n->FL 100000000 (pr j)):∀j,j<=D.n->∀k,FL (c+j*100000001) (prU D N src y0 pr j k)
 | 0,_,k=>(h0 k).mono (by omega)
 | j+1,hj,k=>by
  have ih:=jsx (D:=D) (N:=N) (src:=src) h0 hp j (by omega);rw[prU];split
  ·exact(ih k).mono (by omega)
  ·exact(FL_chU (ih k) (hp j (by omega))).mono (by omega)
section
variable{L:Abs.Rows}{nm:DN}{N:Nat}{D:Dic}{src:Nat->Int×Bool}
structure Srcs(D:Dic)(N R:Nat)(src:Nat->Int×Bool):Prop where
 free:∀j,j<D.n->N<=D.free j->D.free j-N<D.m
 own:∀i,i<D.m->N<=D.own i->D.own i-N<D.m
 row:∀i,i<D.m->0<=(src i).1/\(src i).1<(R:Int)
theorem x_prices(h:HasD L nm N D src)(R:Nat)(hR:R<=100000)(hm:D.m<=100000)(hn:D.n<=100)(hN:N<=100000)(hs:Srcs D N R src)(hf:∀j,j<D.n->D.free j<=1000000)(sm:SmD D):
  CtrH G.P 134 [.loc (hp nm.d) 6 0 0,.im (.int R)] L (fun x L'=>∃b,x= .im (.ref b 35 4 R)/\blks L'/\SubR L L'/\Abs.look L (hp b)=none/\Abs.look L' (hp b)=some (4,tab R fun k=>qc (prU D N src (fun _=>0) (fun j=> -D.g j) D.n k))):=by
 have hb:=h.blk;have F1:=bF hb;have K1:=bK hb;have G1:=bN hb;have c0:=h.hd;have kz:=jiw R hR;by_cases hn0:D.n=0
 ·rw[hn0,jbc]at c0;refine jav [] [] [.tmp 4] Tryz.func134 ?_;simp only[F1,K1,G1,go_sem];refine jd4 kz (by decide) rfl jc8 jad ?_;rintro _ L0 ⟨b,rfl,hb0,hb1,hb2⟩ hfr;have hnew:=(hfr (hp b) (by rw[hb1];rfl)).resolve_left (by simp[Abs.look]);refine⟨(hp b,4,tab R fun _=>qc 0)::L,?_,?_⟩
  ·simp only[F1,K1,G1,go_sem];exact jcb hb1
  have hLb:Abs.look L (hp b)=none:=by
   revert hnew;simp only[F1,K1,G1,go_sem];exact fun h=>h
  clear hnew hfr kz;have ndb:¬nm.d=b:=fun e=>by rw[e,hLb]at c0;cases c0
  have hbM:blks ((hp b,4,tab R fun _=>qc 0)::L):=jat hb;simp only[c0,ndb,F1,K1,G1,go_sem];refine jaz [5,14,15] (fun g:Unit=>⟨[(5,.im (.ref b 35 4 R)),(14,.im (.int 0)),(15,.im (.int 0))],(hp b,4,tab R fun _=>qc 0)::L,[]⟩) (fun _=>True) (fun _=>0) () ?_ (SubR.of_eq rfl) rfl trivial ?_
  ·simp only[go_sem]
  intro _ _;have hpt:(tab R fun k=>qc (prU D N src (fun _=>0) (fun j=> -D.g j) D.n k))=tab R fun _=>qc 0:=by rw[hn0];rfl
  simp only[go_sem];refine jbh _ hbM (SubR.of_eq rfl) ?_;rw[hpt];simp only[go_sem];exact⟨b,rfl,hbM,jas hLb (SubR.of_eq rfl),hLb,zm rfl⟩
 ·rw[jao hn0]at c0;have cf:=h.hf hn0;refine jav [] [] [.tmp 4] Tryz.func134 ?_;simp only[F1,K1,G1,go_sem];refine jd4 kz (by decide) rfl jc8 jad ?_;rintro _ L0 ⟨b,rfl,hb0,hb1,hb2⟩ hfr;have hnew:=(hfr (hp b) (by rw[hb1];rfl)).resolve_left (by simp[Abs.look]);refine⟨(hp b,4,tab R fun _=>qc 0)::L,?_,?_⟩
  ·simp only[F1,K1,G1,go_sem];exact jcb hb1
  have hLb:Abs.look L (hp b)=none:=by
   revert hnew;simp only[F1,K1,G1,go_sem];exact fun h=>h
  clear hnew hfr kz;have ndb:¬nm.d=b:=fun e=>by rw[e,hLb]at c0;cases c0
  have hbM:blks ((hp b,4,tab R fun _=>qc 0)::L):=jat hb;simp only[c0,ndb,F1,K1,G1,go_sem];refine jaz [0,5,13,14,15] (fun g:Nat×Abs.Rows=>⟨[(0,.loc (hp nm.d) 6 0 0),(5,.im (.ref b 35 4 R)),(13,.im (.ref nm.f 3 1 D.n)),(14,.im (.int D.n)),(15,.im (.int g.1))],g.2,[]⟩)
   (fun g=>g.1<=D.n/\blks g.2/\SubR L g.2/\Abs.look g.2 (hp b)=some (4,tab R fun k=>qc (prU D N src (fun _=>0) (fun j=> -D.g j) g.1 k))) (fun g=>D.n-g.1) (0,(hp b,4,tab R fun _=>qc 0)::L) ?_ (SubR.of_eq rfl) rfl
   ⟨zE _,hbM,jas hLb (SubR.of_eq rfl),ja2 _ _ _⟩ ?_
  ·simp only[Int.natCast_zero,go_sem]
  rintro⟨j,M⟩ ⟨hj,hM,hsM,hl⟩;dsimp only at hj hM hsM hl;have F2:=bF hM;have K2:=bK hM;have G2:=bN hM;have d0:=hsM _ _ c0;have df:=hsM _ _ cf;have dg:=hsM _ _ h.hg;rcases zT j D.n with hlt | hlt
  ·have hd:decide ((j:Int)<D.n)=true:=za (by omega);have hjn:(j:Int)<D.n:=by omega
   have hj0:(0:Int)<=j:=by omega
   have w1:=ja9 (n:=(j:Int)+1) (by omega);have fg:=oget (o:=D.free) hlt;have gg:=qget (f:=D.g) hlt;have hfj:=hf j hlt;rcases zT (D.free j) N with hv | hv
   ·have hd2:decide ((N:Int)<=D.free j)=false:=zq (by omega);simp only[hd,hd2,d0,df,fg,hjn,hj0,ja6,Int.toNat_natCast,F2,K2,G2,go_sem];refine jaa (j+1,M) ?_ (SubR.of_eq rfl) rfl (by show D.n-(j+1)<D.n-j;omega) ⟨hlt,hM,hsM,hl.trans ?_⟩
    ·simp only[w1,Int.natCast_add,go_sem]
    ·congr 2;refine jak fun k hk=>qd qc ?_;rw[prU,zm hv]
   ·have hd2:decide ((N:Int)<=D.free j)=true:=za (by omega);have him:=hs.free j hlt hv;have hsr:=hs.row _ him;have w2:=ja9 (n:=((D.free j-N:Nat):Int)) (by omega);have w3:(D.free j:Int)-N=((D.free j-N:Nat):Int):=by omega
    have HM:=h.sub hM hsM;have kn:=f_neg (sm.g j hlt |>.mono (by omega:100000000<=19000000000));have ky:=jsx (D:=D) (N:=N) (src:=src) (y0:=fun _=>0) (pr:=fun j=> -D.g j) (c:=4) (fun _=>jb3 (n:=0) (by omega)) (fun j hj=>jhj (sm.g j hj)) j hj (src (D.free j-N)).1.toNat;have kc:=jk1 HM him (r:=(src (D.free j-N)).1.toNat) (by omega) (by omega:(src (D.free j-N)).1.toNat<R) _ hl (-D.g j) hR hm (ky.mono (by
     have:j*100000001<=100*100000001:=qy _ (by omega);omega)) (jhj (sm.g j hlt))
    have hps:prU D N src (fun _=>0) (fun j=> -D.g j) (j+1)=chU (src (D.free j-N)).2 (prU D N src (fun _=>0) (fun j=> -D.g j) j) (src (D.free j-N)).1.toNat (-D.g j):=by
     rw[prU,zn (by omega)]
    generalize-D.g j=ng at*;simp only[frac,ints]at kn kc;simp only[hd,hd2,d0,df,fg,hjn,hj0,ja6,Int.toNat_natCast,F2,K2,G2,go_sem];refine jac 16 ?_;simp only[hd,hd2,d0,df,dg,fg,gg,hjn,hj0,w2,w3,ja6,Int.toNat_natCast,F2,K2,G2,go_sem];refine ja4 kn (by decide) ?_;simp only[hd,hd2,d0,df,dg,fg,gg,hjn,hj0,w2,w3,ja6,Int.toNat_natCast,F2,K2,G2,go_sem];refine jaj kc (by decide) (by simp only[zl,zC,jaw];rfl) hM (SubR.of_eq rfl) ?_;rintro _ L2 ⟨rfl,t1,t2,t3⟩ _;refine⟨L2,jbn,?_⟩;have F3:=bF t1;simp only[F3,go_sem];refine jaa (j+1,L2) ?_ (SubR.of_eq rfl) rfl (by show D.n-(j+1)<D.n-j;omega) ⟨hlt,t1,fun k x hk=> ?_,t2.trans ?_⟩
    ·simp only[w1,Int.natCast_add,go_sem]
    ·rw[t3 k (fun e=>by subst e;rw[hLb]at hk;cases hk)];exact hsM k x hk
    ·dsimp only;rw[hps]
  ·have hd:decide ((j:Int)<D.n)=false:=zq (by omega);have hjn:j=D.n:=by omega
   subst hjn;simp only[hd,go_sem];refine jbh M hM (SubR.of_eq rfl) ?_;simp only[go_sem];exact⟨b,rfl,hM,hsM,hLb,hl⟩
