/- A part of the proof. No further condition. -/
import Derived.Test.YtdhlmmoicchgpaaGreatKV21
set_option linter.all false
set_option maxRecDepth 10000000
set_option maxHeartbeats 16000000
namespace Go.Proofs.YtdhlmmoicchgpaaGreat
section
open Go.Abs
open Go.LP (Dic find)
attribute [local go_sem] ints ic big frac fc
theorem jcc{R L0:Abs.Rows}{b s:Nat}{es:List (List IV)}(h:Abs.look L0 (hp b)=some (s,es)):jed R [] L0 ((hp b,s,es)::R):=fun k x hk=>by
 by_cases e:k=hp b
 ·subst e;rw[ja1]at hk;rw[h,hk];exact .inl rfl
 ·rw[ja0 _ _ e]at hk;exact .inr ⟨rfl,hk⟩
theorem jho{L M:Abs.Rows}{b s:Nat}{es:List (List IV)}(hL:Abs.look L (hp b)=none)(h:SubR L M):SubR L (M.map (fun p=>if p.1=hp b then(p.1,s,es)else p)):=fun k x hk=>by
 rw[jal (fun e=>by subst e;rw[hL]at hk;cases hk)];exact h k x hk
def ptU(D:Dic)(i k:Nat):Rat:=match find D.own k i with
 | some i'=>D.v i'
 | none=>0
theorem jr9{D:Dic}{i k:Nat}:ptU D (i+1) k=if D.own i=k then D.v i else ptU D i k:=by
 unfold ptU;rw[LP.find];split
 ·rename_i h;split at h
  ·rename_i e;cases h;rw[zm e]
  ·rename_i e;rw[zr e,h]
 ·rename_i h;split at h
  ·cases h
  ·rename_i e;rw[zr e,h]
section
variable{L:Abs.Rows}{nm:DN}{N:Nat}{D:Dic}{src:Nat->Int×Bool}
theorem x_point(h:HasD L nm N D src)(hN:N<=100000)(hm:D.m<=100000)(ho:∀i,i<D.m->D.own i<=1000000):
  CtrH G.P 92 [.loc (hp nm.d) 6 0 0] L (fun x L'=>∃b,x= .im (.ref b 63 4 N)/\blks L'/\SubR L L'/\Abs.look L (hp b)=none/\Abs.look L' (hp b)=some (4,tab N fun k=>qc (D.pt k))):=by
 have hb:=h.blk;have F1:=bF hb;have K1:=bK hb;have G1:=bN hb;have c0:=h.hd;have kz:=jj5 N hN;by_cases hm0:D.m=0
 ·rw[hm0,jb7,jb7,jb7]at c0;refine jag [] [] [.tmp 2] Tryz.func92 ?_;simp only[c0,F1,K1,G1,go_sem];refine jbn kz (by decide) rfl jak jad ?_;rintro _ L0 ⟨b,rfl,hb0,hb1,hb2⟩ hfr;have hnew:=(hfr (hp b) (by rw[hb1];rfl)).resolve_left (by simp[Abs.look]);refine⟨(hp b,4,tab N fun _=>qc 0)::L,?_,?_⟩
  ·simp only[c0,F1,K1,G1,go_sem];exact jcc hb1
  have hLb:Abs.look L (hp b)=none:=by
   revert hnew;simp only[c0,F1,K1,G1,go_sem];exact fun h=>h
  clear hnew hfr kz;have hbM:blks ((hp b,4,tab N fun _=>qc 0)::L):=jac hb;have F2:=fun(d:Nat) (h:d<100000)=>jem (L:=(hp b,4,tab N fun _=>qc 0)::L) (d:=d) hbM h;have ndb:¬nm.d=b:=fun e=>by rw[e,hLb]at c0;cases c0
  simp only[c0,ndb,F1,K1,G1,go_sem];refine jb1 [3,15,16] (fun g:Unit=>⟨[(3,.im (.ref b 63 4 N)),(15,.im (.int 0)),(16,.im (.int 0))],(hp b,4,tab N fun _=>qc 0)::L,[]⟩) (fun _=>True) (fun _=>0) () ?_ (SubR.of_eq rfl) rfl trivial ?_
  ·simp only[go_sem]
  intro _ _;have hpt:(tab N fun k=>qc (D.pt k))=tab N fun _=>qc 0:=jaz fun k _=>by
   rw[show D.pt k=ptU D D.m k from rfl,hm0];rfl
  simp only[go_sem];refine jao _ hbM (SubR.of_eq rfl) ?_;rw[hpt];simp only[go_sem];exact⟨b,rfl,hbM,jat hLb (SubR.of_eq rfl),hLb,zm rfl⟩
 ·rw[jab hm0,jab hm0,jab hm0]at c0;have c1:=h.ho hm0;have c2:=h.hr hm0;refine jag [] [] [.tmp 2] Tryz.func92 ?_;simp only[c0,F1,K1,G1,go_sem];refine jbn kz (by decide) rfl jak jad ?_;rintro _ L0 ⟨b,rfl,hb0,hb1,hb2⟩ hfr;have hnew:=(hfr (hp b) (by rw[hb1];rfl)).resolve_left (by simp[Abs.look]);refine⟨(hp b,4,tab N fun _=>qc 0)::L,?_,?_⟩
  ·simp only[c0,F1,K1,G1,go_sem];exact jcc hb1
  have hLb:Abs.look L (hp b)=none:=by
   revert hnew;simp only[c0,F1,K1,G1,go_sem];exact fun h=>h
  clear hnew hfr kz;have hbM:blks ((hp b,4,tab N fun _=>qc 0)::L):=jac hb;have ndb:¬nm.d=b:=fun e=>by rw[e,hLb]at c0;cases c0
  simp only[c0,ndb,F1,K1,G1,go_sem];refine jb1 [0,3,14,15,16] (fun g:Nat×Abs.Rows=>⟨[(0,.loc (hp nm.d) 6 0 0),(3,.im (.ref b 63 4 N)),(14,.im (.ref nm.o 3 1 D.m)),(15,.im (.int D.m)),(16,.im (.int g.1))],g.2,[]⟩)
   (fun g=>g.1<=D.m/\blks g.2/\SubR L g.2/\Abs.look g.2 (hp b)=some (4,tab N fun k=>qc (ptU D g.1 k))) (fun g=>D.m-g.1) (0,(hp b,4,tab N fun _=>qc 0)::L) ?_ (SubR.of_eq rfl) rfl
   ⟨zI _,hbM,jat hLb (SubR.of_eq rfl),ja1 _ _ _⟩ ?_
  ·simp only[Int.natCast_zero,go_sem]
  rintro⟨i,M⟩ ⟨hi,hM,hs,hl⟩;dsimp only at hi hM hs hl;have F2:=bF hM;have K2:=bK hM;have G2:=bN hM;have d0:=hs _ _ c0;have d1:=hs _ _ c1;have d2:=hs _ _ c2;by_cases hlt:i<D.m
  ·have hd:decide ((i:Int)<D.m)=true:=ze (by omega);have him:(i:Int)<D.m:=by omega
   have hi0:(0:Int)<=i:=by omega
   have w1:=jaa (n:=(i:Int)+1) (by omega);have og:=oget (o:=D.own) hlt;have rg:=lget (v:=D.v) (A:=nm.a) (n:=D.n) hlt;by_cases hv:D.own i<N
   ·have hd2:decide ((D.own i:Int)<N)=true:=ze (by omega);have hvN:(D.own i:Int)<N:=by omega
    have hv0:(0:Int)<=D.own i:=by omega
    have hq:=qget (f:=ptU D i) hv;simp only[hd,hd2,d0,d1,d2,og,rg,hl,hq,hvN,hv0,him,hi0,jae,Int.toNat_natCast,F2,K2,G2,go_sem];refine ja8 (i+1,M.map (fun p=>if p.1=hp b then(p.1,4,(tab N fun k=>qc (ptU D i k)).set (D.own i) (fc (D.v i)))else p)) ?_ (SubR.of_eq rfl) rfl (by show D.m-(i+1)<D.m-i;omega) ⟨hlt,jb6 hM,jho hLb hs,(jaj hl).trans ?_⟩
    ·simp only[w1,Int.natCast_add,go_sem]
    ·rw[qset];congr 2;refine jaz fun k hk=>qw qc ?_;rw[jr9];by_cases e:k=D.own i
     ·rw[zm e,zm e.symm]
     ·rw[zr e,zr fun h=>e h.symm]
   ·have hd2:decide ((D.own i:Int)<N)=false:=zw (by omega);simp only[hd,hd2,d0,d1,d2,og,rg,him,hi0,jae,Int.toNat_natCast,F2,K2,G2,go_sem];refine ja8 (i+1,M) ?_ (SubR.of_eq rfl) rfl (by show D.m-(i+1)<D.m-i;omega) ⟨hlt,hM,hs,hl.trans ?_⟩
    ·simp only[w1,Int.natCast_add,go_sem]
    ·congr 2;refine jaz fun k hk=>qw qc ?_;rw[jr9,zr (by omega)]
  ·have hd:decide ((i:Int)<D.m)=false:=zw (by omega);have him:i=D.m:=by omega
   subst him;simp only[hd,go_sem];refine jao M hM (SubR.of_eq rfl) ?_;simp only[go_sem];exact⟨b,rfl,hM,hs,hLb,hl⟩
end
end
section
open Go.Abs
open Go.LP (Dic find)
attribute [local go_sem] ints ic big frac fc
section
variable{L:Abs.Rows}{nm:DN}{N:Nat}{D:Dic}{src:Nat->Int×Bool}
def chU(turned:Bool)(y:Nat->Rat)(r:Nat)(price:Rat)(k:Nat):Rat:=if k=r then y k+(if turned then price else-price)else y k
theorem jk3(h:HasD L nm N D src){i r R Y:Nat}(hi:i<D.m)(hsr:(src i).1=(r:Int))(hr:r<R)(y:Nat->Rat)(hY:Abs.look L (hp Y)=some (4,tab R fun k=>qc (y k)))(price:Rat)(hR:R<=100000)(hm:D.m<=100000)(ky:FL 18000000000 (y r))(kp:FL 100000000 price):
  CtrH G.P 129 [.loc (hp nm.d) 6 0 0,.im (.ref Y 63 4 R),.im (.int i),.im (frac price)] L
   (fun x L'=>x= .im (.tup [])/\blks L'/\Abs.look L' (hp Y)=some (4,tab R fun k=>qc (chU (src i).2 y r price k))/\∀k,k≠hp Y->Abs.look L' k=Abs.look L k):=by
 have hb:=h.blk;have F1:=bF hb;have K1:=bK hb;have G1:=bN hb;have hm0:D.m≠0:=by omega
 have c0:=h.hd;rw[jab hm0,jab hm0,jab hm0]at c0;have c1:=h.hs hm0;have hi':(i:Int)<D.m:=by omega
 have hi0:(0:Int)<=i:=by omega
 have hr':(r:Int)<R:=by omega
 have hr0:(0:Int)<=r:=by omega
 have sg:=sget (o:=src) hi;rw[hsr]at sg;have yg:=qget (f:=y) hr;have kn:=f_neg (kp.mono (by omega:100000000<=19000000000));rcases ht:(src i).2 with _ | _
 ·rw[ht]at sg;have ka:=f_add (ky.mono (by omega:18000000000<=19000000000)) ((jn0 kp).mono (by omega:100000000<=19000000000));generalize hx:y r+ -price=x at*;generalize hnp: -price=np at*;obtain⟨L',hL',hb',hl',ho'⟩:∃L',L'=L.map (fun p=>if p.1=hp Y then(p.1,4,(tab R fun k=>qc (y k)).set r (fc x))else p)/\blks L'/\Abs.look L' (hp Y)=some (4,tab R fun k=>qc (chU false y r price k))/\∀k,k≠hp Y->Abs.look L' k=Abs.look L k:=by
   refine⟨_,rfl,jb6 hb,(jaj hY).trans ?_,fun k hk=>jal hk⟩;rw[qset];congr 2;refine jaz fun k hk=>qw qc ?_;unfold chU;by_cases e:k=r
   ·rw[zm e,zm e,e,zr qo,hnp,hx]
   ·rw[zr e,zr e]
  simp only[frac,ints]at kn ka;refine jag [] [] [] Tryz.func129 ?_;unfold frac;simp only[c0,c1,sg,hi',hi0,jae,Int.toNat_natCast,F1,K1,G1,go_sem];refine ja2 kn ?_;simp only[c0,c1,sg,hi',hi0,jae,Int.toNat_natCast,F1,K1,G1,go_sem];refine jav ?_;simp only[c0,c1,sg,hY,yg,hi',hi0,hr',hr0,jae,Int.toNat_natCast,F1,K1,G1,go_sem];refine ja4 ka (by decide) ?_;simp only[c0,c1,sg,hY,yg,hi',hi0,hr',hr0,jae,Int.toNat_natCast,F1,K1,G1,go_sem];refine jao L' hb' (ja3 (by decide) hb' (ja3 (by decide) hb' (SubR.of_eq hL'))) ?_;simp only[go_sem];exact⟨hb',hl',ho'⟩
 ·rw[ht]at sg;have ka:=f_add (ky.mono (by omega:18000000000<=19000000000)) (kp.mono (by omega:100000000<=19000000000));generalize hx:y r+price=x at*;obtain⟨L',hL',hb',hl',ho'⟩:∃L',L'=L.map (fun p=>if p.1=hp Y then(p.1,4,(tab R fun k=>qc (y k)).set r (fc x))else p)/\blks L'/\Abs.look L' (hp Y)=some (4,tab R fun k=>qc (chU true y r price k))/\∀k,k≠hp Y->Abs.look L' k=Abs.look L k:=by
   refine⟨_,rfl,jb6 hb,(jaj hY).trans ?_,fun k hk=>jal hk⟩;rw[qset];congr 2;refine jaz fun k hk=>qw qc ?_;unfold chU;by_cases e:k=r
   ·rw[zm e,zm e,e,zm rfl,hx]
   ·rw[zr e,zr e]
  simp only[frac,ints]at ka;refine jag [] [] [] Tryz.func129 ?_;unfold frac;simp only[c0,c1,sg,hi',hi0,jae,Int.toNat_natCast,F1,K1,G1,go_sem];refine jav ?_;simp only[c0,c1,sg,hY,yg,hi',hi0,hr',hr0,jae,Int.toNat_natCast,F1,K1,G1,go_sem];refine ja4 ka (by decide) ?_;simp only[c0,c1,sg,hY,yg,hi',hi0,hr',hr0,jae,Int.toNat_natCast,F1,K1,G1,go_sem];refine jao L' hb' (ja3 (by decide) hb' (ja3 (by decide) hb' (SubR.of_eq hL'))) ?_;simp only[go_sem];exact⟨hb',hl',ho'⟩
end
end
section
open Go.Abs
open Go.LP (Dic find)
attribute [local go_sem] ints ic big frac fc
theorem jaq(b s i j:Nat):AV.toH (.loc (hp b) s i j)= .loc (hp b) s i j:=by simp only[AV.toH,hp_ge,qv]
def prU(D:Dic)(N:Nat)(src:Nat->Int×Bool)(y0:Nat->Rat)(pr:Nat->Rat):Nat->Nat->Rat
 | 0=>y0
 | j+1=>if D.free j<N then prU D N src y0 pr j else chU (src (D.free j-N)).2 (prU D N src y0 pr j) (src (D.free j-N)).1.toNat (pr j)
theorem FL_chU{t:Bool}{y:Nat->Rat}{r:Nat}{p:Rat}{k c:Nat}(hy:FL c (y k))(hp:FL 100000000 p):FL (c+100000001) (chU t y r p k):=by
 unfold chU;split
 ·cases t
  ·exact(jpt hy (jn0 hp)).mono (by omega)
  ·exact(jpt hy hp).mono (by omega)
 ·exact hy.mono (by omega)
theorem jsj{D:Dic}{N:Nat}{src:Nat->Int×Bool}{y0 pr:Nat->Rat}{c:Nat}(h0:∀k,FL c (y0 k))(hp:∀j,j<D.n->FL 100000000 (pr j)):∀j,j<=D.n->∀k,FL (c+j*100000001) (prU D N src y0 pr j k)
 | 0,_,k=>(h0 k).mono (by omega)
 | j+1,hj,k=>by
  have ih:=jsj (D:=D) (N:=N) (src:=src) h0 hp j (by omega);rw[prU];split
  ·exact(ih k).mono (by omega)
  ·exact(FL_chU (ih k) (hp j (by omega))).mono (by omega)
section
variable{L:Abs.Rows}{nm:DN}{N:Nat}{D:Dic}{src:Nat->Int×Bool}
structure Srcs(D:Dic)(N R:Nat)(src:Nat->Int×Bool):Prop where
 free:∀j,j<D.n->N<=D.free j->D.free j-N<D.m
 own:∀i,i<D.m->N<=D.own i->D.own i-N<D.m
 row:∀i,i<D.m->0<=(src i).1/\(src i).1<(R:Int)
theorem x_prices(h:HasD L nm N D src)(R:Nat)(hR:R<=100000)(hm:D.m<=100000)(hn:D.n<=100)(hN:N<=100000)(hs:Srcs D N R src)(hf:∀j,j<D.n->D.free j<=1000000)(sm:SmD D):
  CtrH G.P 96 [.loc (hp nm.d) 6 0 0,.im (.int R)] L (fun x L'=>∃b,x= .im (.ref b 63 4 R)/\blks L'/\SubR L L'/\Abs.look L (hp b)=none/\Abs.look L' (hp b)=some (4,tab R fun k=>qc (prU D N src (fun _=>0) (fun j=> -D.g j) D.n k))):=by
 have hb:=h.blk;have F1:=bF hb;have K1:=bK hb;have G1:=bN hb;have c0:=h.hd;have kz:=jj5 R hR;by_cases hn0:D.n=0
 ·rw[hn0,jb7]at c0;refine jag [] [] [.tmp 4] Tryz.func96 ?_;simp only[F1,K1,G1,go_sem];refine jbn kz (by decide) rfl jak jad ?_;rintro _ L0 ⟨b,rfl,hb0,hb1,hb2⟩ hfr;have hnew:=(hfr (hp b) (by rw[hb1];rfl)).resolve_left (by simp[Abs.look]);refine⟨(hp b,4,tab R fun _=>qc 0)::L,?_,?_⟩
  ·simp only[F1,K1,G1,go_sem];exact jcc hb1
  have hLb:Abs.look L (hp b)=none:=by
   revert hnew;simp only[F1,K1,G1,go_sem];exact fun h=>h
  clear hnew hfr kz;have ndb:¬nm.d=b:=fun e=>by rw[e,hLb]at c0;cases c0
  have hbM:blks ((hp b,4,tab R fun _=>qc 0)::L):=jac hb;simp only[c0,ndb,F1,K1,G1,go_sem];refine jb1 [5,14,15] (fun g:Unit=>⟨[(5,.im (.ref b 63 4 R)),(14,.im (.int 0)),(15,.im (.int 0))],(hp b,4,tab R fun _=>qc 0)::L,[]⟩) (fun _=>True) (fun _=>0) () ?_ (SubR.of_eq rfl) rfl trivial ?_
  ·simp only[go_sem]
  intro _ _;have hpt:(tab R fun k=>qc (prU D N src (fun _=>0) (fun j=> -D.g j) D.n k))=tab R fun _=>qc 0:=by rw[hn0];rfl
  simp only[go_sem];refine jao _ hbM (SubR.of_eq rfl) ?_;rw[hpt];simp only[go_sem];exact⟨b,rfl,hbM,jat hLb (SubR.of_eq rfl),hLb,zm rfl⟩
 ·rw[jab hn0]at c0;have cf:=h.hf hn0;refine jag [] [] [.tmp 4] Tryz.func96 ?_;simp only[F1,K1,G1,go_sem];refine jbn kz (by decide) rfl jak jad ?_;rintro _ L0 ⟨b,rfl,hb0,hb1,hb2⟩ hfr;have hnew:=(hfr (hp b) (by rw[hb1];rfl)).resolve_left (by simp[Abs.look]);refine⟨(hp b,4,tab R fun _=>qc 0)::L,?_,?_⟩
  ·simp only[F1,K1,G1,go_sem];exact jcc hb1
  have hLb:Abs.look L (hp b)=none:=by
   revert hnew;simp only[F1,K1,G1,go_sem];exact fun h=>h
  clear hnew hfr kz;have ndb:¬nm.d=b:=fun e=>by rw[e,hLb]at c0;cases c0
  have hbM:blks ((hp b,4,tab R fun _=>qc 0)::L):=jac hb;simp only[c0,ndb,F1,K1,G1,go_sem];refine jb1 [0,5,13,14,15] (fun g:Nat×Abs.Rows=>⟨[(0,.loc (hp nm.d) 6 0 0),(5,.im (.ref b 63 4 R)),(13,.im (.ref nm.f 3 1 D.n)),(14,.im (.int D.n)),(15,.im (.int g.1))],g.2,[]⟩)
   (fun g=>g.1<=D.n/\blks g.2/\SubR L g.2/\Abs.look g.2 (hp b)=some (4,tab R fun k=>qc (prU D N src (fun _=>0) (fun j=> -D.g j) g.1 k))) (fun g=>D.n-g.1) (0,(hp b,4,tab R fun _=>qc 0)::L) ?_ (SubR.of_eq rfl) rfl
   ⟨zI _,hbM,jat hLb (SubR.of_eq rfl),ja1 _ _ _⟩ ?_
  ·simp only[Int.natCast_zero,go_sem]
  rintro⟨j,M⟩ ⟨hj,hM,hsM,hl⟩;dsimp only at hj hM hsM hl;have F2:=bF hM;have K2:=bK hM;have G2:=bN hM;have d0:=hsM _ _ c0;have df:=hsM _ _ cf;have dg:=hsM _ _ h.hg;rcases zR j D.n with hlt | hlt
  ·have hd:decide ((j:Int)<D.n)=true:=ze (by omega);have hjn:(j:Int)<D.n:=by omega
   have hj0:(0:Int)<=j:=by omega
   have w1:=jaa (n:=(j:Int)+1) (by omega);have fg:=oget (o:=D.free) hlt;have gg:=qget (f:=D.g) hlt;have hfj:=hf j hlt;rcases zR (D.free j) N with hv | hv
   ·have hd2:decide ((N:Int)<=D.free j)=false:=zw (by omega);simp only[hd,hd2,d0,df,fg,hjn,hj0,jae,Int.toNat_natCast,F2,K2,G2,go_sem];refine ja8 (j+1,M) ?_ (SubR.of_eq rfl) rfl (by show D.n-(j+1)<D.n-j;omega) ⟨hlt,hM,hsM,hl.trans ?_⟩
    ·simp only[w1,Int.natCast_add,go_sem]
    ·congr 2;refine jaz fun k hk=>qw qc ?_;rw[prU,zm hv]
   ·have hd2:decide ((N:Int)<=D.free j)=true:=ze (by omega);have him:=hs.free j hlt hv;have hsr:=hs.row _ him;have w2:=jaa (n:=((D.free j-N:Nat):Int)) (by omega);have w3:(D.free j:Int)-N=((D.free j-N:Nat):Int):=by omega
    have HM:=h.sub hM hsM;have kn:=f_neg (sm.g j hlt |>.mono (by omega:100000000<=19000000000));have ky:=jsj (D:=D) (N:=N) (src:=src) (y0:=fun _=>0) (pr:=fun j=> -D.g j) (c:=4) (fun _=>jcy (n:=0) (by omega)) (fun j hj=>jn0 (sm.g j hj)) j hj (src (D.free j-N)).1.toNat;have kc:=jk3 HM him (r:=(src (D.free j-N)).1.toNat) (by omega) (by omega:(src (D.free j-N)).1.toNat<R) _ hl (-D.g j) hR hm (ky.mono (by
     have:j*100000001<=100*100000001:=zZ _ (by omega);omega)) (jn0 (sm.g j hlt))
    have hps:prU D N src (fun _=>0) (fun j=> -D.g j) (j+1)=chU (src (D.free j-N)).2 (prU D N src (fun _=>0) (fun j=> -D.g j) j) (src (D.free j-N)).1.toNat (-D.g j):=by
     rw[prU,zr (by omega)]
    generalize-D.g j=ng at*;simp only[frac,ints]at kn kc;simp only[hd,hd2,d0,df,fg,hjn,hj0,jae,Int.toNat_natCast,F2,K2,G2,go_sem];refine jaf 16 ?_;simp only[hd,hd2,d0,df,dg,fg,gg,hjn,hj0,w2,w3,jae,Int.toNat_natCast,F2,K2,G2,go_sem];refine ja4 kn (by decide) ?_;simp only[hd,hd2,d0,df,dg,fg,gg,hjn,hj0,w2,w3,jae,Int.toNat_natCast,F2,K2,G2,go_sem];refine ja9 kc (by decide) (by simp only[zl,zB,jaq];rfl) hM (SubR.of_eq rfl) ?_;rintro _ L2 ⟨rfl,t1,t2,t3⟩ _;refine⟨L2,jap,?_⟩;have F3:=bF t1;simp only[F3,go_sem];refine ja8 (j+1,L2) ?_ (SubR.of_eq rfl) rfl (by show D.n-(j+1)<D.n-j;omega) ⟨hlt,t1,fun k x hk=> ?_,t2.trans ?_⟩
    ·simp only[w1,Int.natCast_add,go_sem]
    ·rw[t3 k (fun e=>by subst e;rw[hLb]at hk;cases hk)];exact hsM k x hk
    ·dsimp only;rw[hps]
  ·have hd:decide ((j:Int)<D.n)=false:=zw (by omega);have hjn:j=D.n:=by omega
   subst hjn;simp only[hd,go_sem];refine jao M hM (SubR.of_eq rfl) ?_;simp only[go_sem];exact⟨b,rfl,hM,hsM,hLb,hl⟩
end
end
section
open Go.Abs
open Go.LP (Rw RT tsum)
attribute [local go_sem] ints ic big frac fc rwC tmC Evid.c Place.c Move.c Cert.c Recall.c Purity.c
structure MN where
 (d r o:Nat)
structure HasM(L:Abs.Rows)(nm:MN)(e:Evid)(ws:List Rw)(os:List (List IV)):Prop where
 blk:blks L
 dr:ws.length≠0->nm.d≠nm.r
 d_o:ws.length≠0->nm.d≠nm.o
 ro:ws.length≠0->nm.r≠nm.o
 len:os.length=ws.length
 o4:∀c∈os,c.length=4
 hd:Abs.look L (hp nm.d)=some (10,[e.c++[sl0 nm.r 195 6 ws.length,sl0 nm.o 190 4 ws.length]])
 hr:ws.length≠0->Abs.look L (hp nm.r)=some (6,ws.map rwC)
 ho:ws.length≠0->Abs.look L (hp nm.o)=some (4,os)
theorem HasM.sub{L L':Abs.Rows}{nm:MN}{e:Evid}{ws:List Rw}{os:List (List IV)}(h:HasM L nm e ws os)(hb:blks L')(hs:SubR L L'):HasM L' nm e ws os:=
 ⟨hb,h.dr,h.d_o,h.ro,h.len,h.o4,hs _ _ h.hd,fun hw=>hs _ _ (h.hr hw),fun hw=>hs _ _ (h.ho hw)⟩
theorem jdg{L R:Abs.Rows}{b X:Nat}{v:Nat×List (List IV)}(hs:SubR L R)(hb:Abs.look L (hp b)=none)(hX:Abs.look (Abs.del R (hp b)) (hp X)=none):
  SubR L ((hp X,v)::Abs.del R (hp b))/\Abs.look L (hp X)=none:=by
 have hl:∀k x,Abs.look L k=some x->Abs.look (Abs.del R (hp b)) k=some x:=fun k x hk=>by
  rw[ja6 _ (fun e=>by subst e;rw[hb]at hk;cases hk)];exact hs k x hk
 have hx:Abs.look L (hp X)=none:=by
  cases hx:Abs.look L (hp X)with
  | none=>rfl
  | some y=>rw[hl _ y hx]at hX;cases hX
 exact⟨jat hx hl,hx⟩
section
variable{L:Abs.Rows}{nm:MN}{e:Evid}{ws:List Rw}{os:List (List IV)}{M:Nat}
theorem e_var(h:HasM L nm e ws os)(hM:e.mats=(M:Int))(mv k:Nat)(hm:mv<=1000)(hk:k<=1000)(hM6:M<=6):
  CtrH G.P 116 [.loc (hp nm.d) 10 0 0,.im (.int mv),.im (.int k)] L (fun x L'=>x= .im (.int ((mv*M+k:Nat):Int))/\L'=L):=by
 have hb:=h.blk;have F1:=bF hb;have K1:=bK hb;have G1:=bN hb;have c0:=h.hd;have hb1:mv*M<=1000*6:=yl hm hM6;have w1:=jaa (n:=(mv:Int)*e.mats) (by rw[hM,<-Int.natCast_mul];omega);have w2:=jaa (n:=(mv:Int)*e.mats+k) (by rw[hM,<-Int.natCast_mul];omega);have w3:(mv:Int)*e.mats+k=((mv*M+k:Nat):Int):=by rw[hM,Int.natCast_add,Int.natCast_mul]
 rw[<-w3];refine jag [] [] [.tmp 6] Tryz.func116 ?_;simp only[c0,F1,K1,G1,go_sem];refine jao L hb (SubR.of_eq rfl) ?_;simp only[w1,w2,go_sem]
theorem joi{mv:Nat}{b own more:Int}{k:Nat}(h:coF b own more k=0):sumT M mv b own more (k+1)=sumT M mv b own more k:=by rw[sumT,zm h]
theorem jn4{mv:Nat}{b own more:Int}:∀k,(sumT M mv b own more k).length<=k
 | 0=>zn _
 | k+1=>by
  have:=jn4 (mv:=mv) (b:=b) (own:=own) (more:=more) k;rw[sumT];split
  ·omega
  ·rw[zD,List.length_singleton];omega
theorem jn7{mv:Nat}{b own more:Int}{k:Nat}(h:coF b own more k≠0):sumT M mv b own more (k+1)=sumT M mv b own more k++[(mv*M+k,((coF b own more k:Int):Rat))]:=by rw[sumT,zr h]
def NEWT(L R:Abs.Rows)(b:Nat)(ts:List (Nat×Rat)):Prop:=ts.length≠0->Abs.look R (hp b)=some (5,ts.map tmC)/\Abs.look L (hp b)=none
def sA(A n:Nat):AV:=if n=0 then .sx []else .im (.ref A 132 5 n)
def rA(A n:Nat):AV:=if n=0 then .im (.sl [])else .im (.ref A 132 5 n)
theorem jd9{A n:Nat}(h:n=0):sA A n= .sx []:=zm h
theorem jcr{A n:Nat}(h:n≠0):sA A n= .im (.ref A 132 5 n):=zr h
theorem NEWT.app{L R:Abs.Rows}{X:Nat}{ts:List (Nat×Rat)}{t:Nat×Rat}(h:Abs.look R (hp X)=some (5,ts.map tmC++[tmC t]))(h':Abs.look L (hp X)=none):NEWT L R X (ts++[t]):=fun _=>⟨by rw[h,qD];rfl,h'⟩
theorem e_sum(h:HasM L nm e ws os)(hM:e.mats=(M:Int))(mv:Nat)(b own more:Int)(hm:mv<=1000)(hM6:M<=6)(hb1: -1000<=b/\b<=1000)(hmo: -1000<=more/\more<=1000):
  CtrH G.P 119 [.loc (hp nm.d) 10 0 0,.im (.int mv),.im (.int b),.im (.int own),.im (.int more)] L
   (fun x L'=>∃A,x=rA A (sumT M mv b own more M).length/\blks L'/\SubR L L'/\NEWT L L' A (sumT M mv b own more M)):=by
 have hb:=h.blk;have F1:=bF hb;have K1:=bK hb;have G1:=bN hb;have c0:=h.hd;simp only[Evid.c,hM]at c0;refine jag [40] [] [.tmp 10] Tryz.func119 ?_;simp only[c0,hM,F1,K1,G1,go_sem];refine jb1 [0,1,2,3,4,11,18,19] (fun g:(Nat×Nat)×Abs.Rows=>⟨[(0,.loc (hp nm.d) 10 0 0),(1,.im (.int mv)),(2,.im (.int b)),(3,.im (.int own)),(4,.im (.int more)),(11,sA g.1.2 (sumT M mv b own more g.1.1).length),(18,.im (.int M)),(19,.im (.int g.1.1))],g.2,[]⟩)
  (fun g=>g.1.1<=M/\blks g.2/\SubR L g.2/\NEWT L g.2 g.1.2 (sumT M mv b own more g.1.1)) (fun g=>M-g.1.1) ((0,0),L) ?_ (SubR.of_eq rfl) rfl ⟨zI _,hb,SubR.of_eq rfl,fun h=>absurd rfl h⟩ ?_
 ·have hz:=jd9 (A:=0) (show(sumT M mv b own more 0).length=0 from rfl);simp only[Int.natCast_zero,hz,go_sem]
 rintro⟨⟨k,A⟩,R⟩ hP;obtain⟨hj,hR,hsR,hbn⟩:=hP;dsimp only at hj hR hsR hbn;have F2:=bF hR;have K2:=bK hR;have G2:=bN hR;have d0:=hsR _ _ c0;rcases zR k M with hlt | hlt
 ·have hd:decide ((k:Int)<M)=true:=ze (by omega);have h1:=jaa (n:=(k:Int)+1) (by omega);have h2:=jaa (n:=b+more) (by omega);have kv:=e_var (h.sub hR hsR) hM mv k hm (by omega) hM6;have vl:mv*M+k<100000:=by
   have:mv*M<=1000*6:=yl hm hM6;omega
  obtain⟨c,hc⟩:∃c,c=coF b own more k:=⟨_,rfl⟩;have kI:Ctr G.P 52 [.int c] (· =frac (c:Rat)):=jck c (by rw[hc];unfold coF;split<;>omega);simp only[frac,ints]at kI;have key:∀(p:Bool),decide ((k:Int)=own)=p->(if p=true then b+more else b)=c:=fun p hp=>by
   rw[hc];unfold coF;cases p
   ·rw[zr (by decide),zr (zJ hp)]
   ·rw[zm rfl,zm (zK hp)]
  rcases hown:decide ((k:Int)=own)with _ | _
  ·have hcb:=key _ hown;simp only[qb,z8]at hcb;subst hcb;rcases hc0:decide (b=0)with _ | _
   ·have hadd:=jn7 (M:=M) (mv:=mv) (hc▸zJ hc0:coF b own more k≠0);rw[<-hc]at hadd;by_cases hn:(sumT M mv b own more k).length=0
    ·have hs0:=jd9 (A:=A) hn;have hnil:sumT M mv b own more k=[]:=zF hn;simp only[hd,hown,h2,hc0,hs0,go_sem];refine ja9 kv (by decide) (by simp only[zl,zB,jaq];rfl) hR (SubR.of_eq rfl) ?_;rintro _ L1 ⟨rfl,hL1⟩ _;subst hL1;refine⟨_,jap,?_⟩;simp only[F2,K2,G2,go_sem];refine ja2 kI ?_;simp only[F2,K2,G2,go_sem];refine And.intro (fun c' hc'=>by rw[zp.1 hc'];rfl) ?_;refine jc2 (fun X hX=> ?_);have lX1:Abs.look L1 (hp X)=none:=hX;clear hX;have lX:Abs.look L (hp X)=none:=by
      cases hx:Abs.look L (hp X)with
      | none=>rfl
      | some y=>rw[hsR _ _ hx]at lX1;cases lX1
     have hs1:=jcr (A:=X) (n:=(sumT M mv b own more (k+1)).length) (by rw[hadd,zD];exact ql _);have hl1:(sumT M mv b own more (k+1)).length=1:=by rw[hadd,hnil];rfl
     rw[hl1]at hs1;simp only[F2,K2,G2,go_sem];refine ja8 ((k+1,X),(hp X,5,[tmC (mv*M+k,((b:Int):Rat))])::L1) ?_ (SubR.of_eq rfl) rfl (by show M-(k+1)<M-k;omega) ⟨hlt,jac hR,jat lX hsR,?_⟩
     ·simp only[h1,hl1,hs1,Int.natCast_add,go_sem]
     ·dsimp only;rw[hadd];refine NEWT.app ?_ lX;rw[ja1,hnil];rfl
    ·have hs0:=jcr (A:=A) hn;obtain⟨hrA,hLA⟩:=hbn hn;have htk:List.take (sumT M mv b own more k).length ((sumT M mv b own more k).map tmC)=(sumT M mv b own more k).map tmC:=zu (by rw[zq];exact zn _);have hlk:=jn4 (M:=M) (mv:=mv) (b:=b) (own:=own) (more:=more) k;simp only[hd,hown,h2,hc0,hs0,go_sem];refine ja9 kv (by decide) (by simp only[zl,zB,jaq];rfl) hR (SubR.of_eq rfl) ?_;rintro _ L1 ⟨rfl,hL1⟩ _;subst hL1;refine⟨_,jap,?_⟩;simp only[F2,K2,G2,go_sem];refine ja2 kI ?_;simp only[hrA,htk,zq,F2,K2,G2,go_sem];refine And.intro (fun c' hc'=>by rw[zp.1 hc'];rfl) (And.intro (zn _) (And.intro (by omega) ?_));refine jec (fun X hX=> ?_);obtain⟨lS,lX⟩:=jdg (v:=(5,(sumT M mv b own more k).map tmC++[tmC (mv*M+k,((b:Int):Rat))])) hsR hLA (X:=X) hX;clear hX;have hl1:(sumT M mv b own more (k+1)).length=(sumT M mv b own more k).length+1:=by rw[hadd,zD];rfl
     have hs1:=jcr (A:=X) (n:=(sumT M mv b own more k).length+1) (ql _);simp only[F2,K2,G2,go_sem];refine ja8 ((k+1,X),(hp X,5,(sumT M mv b own more k).map tmC++[tmC (mv*M+k,((b:Int):Rat))])::Abs.del L1 (hp A)) ?_ (SubR.of_eq rfl) rfl (by show M-(k+1)<M-k;omega) ⟨hlt,jac (jbd hR),lS,?_⟩
     ·simp only[h1,hl1,hs1,Int.natCast_add,go_sem]
     ·dsimp only;rw[hadd];exact NEWT.app (ja1 _ _ _) lX
   ·have hskip:=joi (M:=M) (mv:=mv) (hc▸zK hc0:coF b own more k=0);simp only[hd,hown,hc0,go_sem];refine ja8 ((k+1,A),R) ?_ (SubR.of_eq rfl) rfl (by show M-(k+1)<M-k;omega) ⟨hlt,hR,hsR,by dsimp only;rw[hskip];exact hbn⟩;simp only[h1,hskip,Int.natCast_add,go_sem]
  ·have hcb:=key _ hown;simp only[qv]at hcb;replace h2:=h2.trans hcb;rcases hc0:decide (c=0)with _ | _
   ·have hadd:=jn7 (M:=M) (mv:=mv) (hc▸zJ hc0:coF b own more k≠0);rw[<-hc]at hadd;by_cases hn:(sumT M mv b own more k).length=0
    ·have hs0:=jd9 (A:=A) hn;have hnil:sumT M mv b own more k=[]:=zF hn;simp only[hd,hown,h2,hc0,hs0,go_sem];refine ja9 kv (by decide) (by simp only[zl,zB,jaq];rfl) hR (SubR.of_eq rfl) ?_;rintro _ L1 ⟨rfl,hL1⟩ _;subst hL1;refine⟨_,jap,?_⟩;simp only[F2,K2,G2,go_sem];refine ja2 kI ?_;simp only[F2,K2,G2,go_sem];refine And.intro (fun c' hc'=>by rw[zp.1 hc'];rfl) ?_;refine jc2 (fun X hX=> ?_);have lX1:Abs.look L1 (hp X)=none:=hX;clear hX;have lX:Abs.look L (hp X)=none:=by
      cases hx:Abs.look L (hp X)with
      | none=>rfl
      | some y=>rw[hsR _ _ hx]at lX1;cases lX1
     have hs1:=jcr (A:=X) (n:=(sumT M mv b own more (k+1)).length) (by rw[hadd,zD];exact ql _);have hl1:(sumT M mv b own more (k+1)).length=1:=by rw[hadd,hnil];rfl
     rw[hl1]at hs1;simp only[F2,K2,G2,go_sem];refine ja8 ((k+1,X),(hp X,5,[tmC (mv*M+k,((c:Int):Rat))])::L1) ?_ (SubR.of_eq rfl) rfl (by show M-(k+1)<M-k;omega) ⟨hlt,jac hR,jat lX hsR,?_⟩
     ·simp only[h1,hl1,hs1,Int.natCast_add,go_sem]
     ·dsimp only;rw[hadd];refine NEWT.app ?_ lX;rw[ja1,hnil];rfl
    ·have hs0:=jcr (A:=A) hn;obtain⟨hrA,hLA⟩:=hbn hn;have htk:List.take (sumT M mv b own more k).length ((sumT M mv b own more k).map tmC)=(sumT M mv b own more k).map tmC:=zu (by rw[zq];exact zn _);have hlk:=jn4 (M:=M) (mv:=mv) (b:=b) (own:=own) (more:=more) k;simp only[hd,hown,h2,hc0,hs0,go_sem];refine ja9 kv (by decide) (by simp only[zl,zB,jaq];rfl) hR (SubR.of_eq rfl) ?_;rintro _ L1 ⟨rfl,hL1⟩ _;subst hL1;refine⟨_,jap,?_⟩;simp only[F2,K2,G2,go_sem];refine ja2 kI ?_;simp only[hrA,htk,zq,F2,K2,G2,go_sem];refine And.intro (fun c' hc'=>by rw[zp.1 hc'];rfl) (And.intro (zn _) (And.intro (by omega) ?_));refine jec (fun X hX=> ?_);obtain⟨lS,lX⟩:=jdg (v:=(5,(sumT M mv b own more k).map tmC++[tmC (mv*M+k,((c:Int):Rat))])) hsR hLA (X:=X) hX;clear hX;have hl1:(sumT M mv b own more (k+1)).length=(sumT M mv b own more k).length+1:=by rw[hadd,zD];rfl
     have hs1:=jcr (A:=X) (n:=(sumT M mv b own more k).length+1) (ql _);simp only[F2,K2,G2,go_sem];refine ja8 ((k+1,X),(hp X,5,(sumT M mv b own more k).map tmC++[tmC (mv*M+k,((c:Int):Rat))])::Abs.del L1 (hp A)) ?_ (SubR.of_eq rfl) rfl (by show M-(k+1)<M-k;omega) ⟨hlt,jac (jbd hR),lS,?_⟩
     ·simp only[h1,hl1,hs1,Int.natCast_add,go_sem]
     ·dsimp only;rw[hadd];exact NEWT.app (ja1 _ _ _) lX
   ·have hskip:=joi (M:=M) (mv:=mv) (hc▸zK hc0:coF b own more k=0);simp only[hd,hown,h2,hc0,go_sem];refine ja8 ((k+1,A),R) ?_ (SubR.of_eq rfl) rfl (by show M-(k+1)<M-k;omega) ⟨hlt,hR,hsR,by dsimp only;rw[hskip];exact hbn⟩;simp only[h1,hskip,Int.natCast_add,go_sem]
 ·have hd:decide ((k:Int)<M)=false:=zw (by omega);have hkM:k=M:=by omega
  subst hkM;simp only[hd,go_sem];refine jao R hR (SubR.of_eq rfl) ?_;simp only[go_sem];refine⟨A,?_,hR,hsR,hbn⟩;by_cases hn:(sumT k mv b own more k).length=0
  ·rw[jd9 hn];unfold rA;rw[zm hn]
  ·rw[jcr hn];unfold rA;rw[zr hn]
end
end
end Go.Proofs.YtdhlmmoicchgpaaGreat
namespace Go.LP
section
def cfU(ts:List (Nat×Rat)):Nat->Nat->Rat
 | 0,_=>0
 | i+1,k=>match ts[i]? with
  | some t=>if k=t.1 then t.2 else cfU ts i k
  | none=>cfU ts i k
def ngU(ts:List (Nat×Rat))(f:Nat->Rat):Nat->Nat->Rat
 | 0,k=>f k
 | i+1,k=>match ts[i]? with
  | some t=>if k=t.1 then-t.2 else ngU ts f i k
  | none=>ngU ts f i k
theorem cfU_succ{ts:List (Nat×Rat)}{i k:Nat}{t:Nat×Rat}(h:ts[i]? =some t):cfU ts (i+1) k=if k=t.1 then t.2 else cfU ts i k:=by rw[cfU,h]
theorem ngU_succ{ts:List (Nat×Rat)}{f:Nat->Rat}{i k:Nat}{t:Nat×Rat}(h:ts[i]? =some t):ngU ts f (i+1) k=if k=t.1 then-t.2 else ngU ts f i k:=by rw[ngU,h]
theorem cf_snoc{t:Nat×Rat}{k:Nat}:∀{ts:List (Nat×Rat)},(∀u∈ts,u.1≠t.1)->cf (ts++[t]) k=if k=t.1 then t.2 else cf ts k
 | [],_=>by simp only[List.nil_append,cf]
 | u::ts,h=>by
  rw[List.cons_append,cf,cf,cf_snoc fun v hv=>h v (qq _ hv)];have:=h u (qz ..);by_cases e:k=u.1
  ·subst e;rw[zm rfl,zr this,zm rfl]
  ·rw[zr e,zr e]
theorem RT.fresh:∀{ts:List (Nat×Rat)} {lo N i:Nat} {t:Nat×Rat},RT ts lo N->ts[i]? =some t->∀u∈ts.take i,u.1≠t.1
 | [],_,_,_,_,_,h,_,_=>by simp at h
 | v::ts,lo,N,0,t,h,ht,u,hu=>by rw[List.take_zero]at hu;cases hu
 | v::ts,lo,N,i+1,t,h,ht,u,hu=>by
  rw[List.getElem?_cons_succ]at ht;rw[List.take_succ_cons]at hu;rcases zN.1 hu with rfl | hu
  ·have:=RT.mem h.2.2.2 t (zE ht);omega
  ·exact RT.fresh h.2.2.2 ht u hu
theorem js6{ts:List (Nat×Rat)}{lo N k:Nat}(h:RT ts lo N):∀i,i<=ts.length->cfU ts i k=cf (ts.take i) k
 | 0,_=>by rw[List.take_zero];rfl
 | i+1,hi=>by
  have hg:ts[i]? =some ts[i]:=zk (by omega);rw[cfU_succ hg,qN,hg,show(some ts[i]).toList=[ts[i]]from rfl,cf_snoc (h.fresh hg),js6 h i (by omega)]
theorem cfU_all{ts:List (Nat×Rat)}{lo N k:Nat}(h:RT ts lo N):cfU ts ts.length k=cf ts k:=by rw[js6 h _ (zn _),qL]
theorem cf_get:∀{ts:List (Nat×Rat)} {lo N i:Nat} {t:Nat×Rat},RT ts lo N->ts[i]? =some t->cf ts t.1=t.2
 | [],_,_,_,_,_,h=>by simp at h
 | v::ts,lo,N,0,t,h,ht=>by
  rw[List.getElem?_cons_zero]at ht;cases ht;rw[cf,zm rfl]
 | v::ts,lo,N,i+1,t,h,ht=>by
  rw[List.getElem?_cons_succ]at ht;have:=RT.mem h.2.2.2 t (zE ht);rw[cf,zr (by omega)];exact cf_get h.2.2.2 ht
theorem ngU_eq{ts:List (Nat×Rat)}{lo N k:Nat}(h:RT ts lo N){f:Nat->Rat}(hf:∀(i:Nat) (t:Nat×Rat),ts[i]? =some t->f t.1=t.2):∀i,i<=ts.length->ngU ts f i k=f k-2*cfU ts i k
 | 0,_=>by simp only[ngU,cfU];grind
 | i+1,hi=>by
  have hg:ts[i]? =some ts[i]:=zk (by omega);rw[ngU_succ hg,cfU_succ hg,ngU_eq h hf i (by omega)];by_cases e:k=ts[i].1
  ·rw[zm e,zm e,e,hf i _ hg];grind
  ·rw[zr e,zr e]
theorem ngU_zero{ts:List (Nat×Rat)}{lo N k:Nat}(h:RT ts lo N):∀i,i<=ts.length->ngU ts (fun _=>0) i k= -cfU ts i k
 | 0,_=>by simp only[ngU,cfU];grind
 | i+1,hi=>by
  have hg:ts[i]? =some ts[i]:=zk (by omega);rw[ngU_succ hg,cfU_succ hg,ngU_zero h i (by omega)];by_cases e:k=ts[i].1
  ·rw[zm e,zm e]
  ·rw[zr e,zr e]
end
end Go.LP
namespace Go.Proofs.YtdhlmmoicchgpaaGreat
section
open Go.Abs
open Go.LP (Dic Rw RT cf cfU ngU jdy)
attribute [local go_sem] ints ic big frac fc rwC tmC lineC
structure OAp(nm:DN)(m:Nat):Prop where
 dr:nm.d≠nm.r
 d_o:nm.d≠nm.o
 ds:nm.d≠nm.s
 rg:nm.r≠nm.g
 ro:nm.r≠nm.o
 rs:nm.r≠nm.s
 go:nm.g≠nm.o
 gs:nm.g≠nm.s
 os:nm.o≠nm.s
 da:∀i,i<m->nm.d≠nm.a i
 ra:∀i,i<m->nm.r≠nm.a i
 ga:∀i,i<m->nm.g≠nm.a i
 oa:∀i,i<m->nm.o≠nm.a i
 sa:∀i,i<m->nm.s≠nm.a i
 aa:∀i j,i<m->j<m->nm.a i=nm.a j->i=j
structure HasO(L:Abs.Rows)(nm:DN)(D:Dic)(src:Nat->Int×Bool):Prop where
 blk:blks L
 dg:nm.d≠nm.g
 ap:D.m≠0->OAp nm D.m
 hd:Abs.look L (hp nm.d)=some (6,[[.int D.n,sl0 nm.r 204 5 D.m,.ref nm.g 63 4 D.n,sl0 nm.o 3 1 D.m,.emp,sl0 nm.s 226 2 D.m]])
 hg:Abs.look L (hp nm.g)=some (4,tab D.n fun j=>qc (D.g j))
 hr:D.m≠0->Abs.look L (hp nm.r)=some (5,tab D.m fun i=>lineC (D.v i) (nm.a i) D.n)
 ho:D.m≠0->Abs.look L (hp nm.o)=some (1,tab D.m fun i=>oc (D.own i))
 hs:D.m≠0->Abs.look L (hp nm.s)=some (2,tab D.m fun i=>srcC (src i))
 ha:∀i,i<D.m->Abs.look L (hp (nm.a i))=some (4,tab D.n fun j=>qc (D.a i j))
structure Kept(L L':Abs.Rows)(nm:DN)(m X1 X2 X3 A:Nat):Prop where
 keep:∀k x,Abs.look L (hp k)=some x->k≠nm.d->(m≠0->k≠nm.o/\k≠nm.r/\k≠nm.s)->Abs.look L' (hp k)=some x/\k≠X1/\k≠X2/\k≠X3/\k≠A
theorem HasO.step{L L':Abs.Rows}{nm:DN}{D:Dic}{src:Nat->Int×Bool}(h:HasO L nm D src){w:Rw}{row:Nat}{turned:Bool}{X1 X2 X3 A:Nat}{f:Nat->Rat}{v:Rat}(bL:blks L')
  (h1:Abs.look L' (hp nm.d)=some (6,[[.int D.n,.ref X2 204 5 (D.m+1),.ref nm.g 63 4 D.n,.ref X1 3 1 (D.m+1),.emp,.ref X3 226 2 (D.m+1)]]))
  (h2:Abs.look L' (hp X1)=some (1,(tab D.m fun i=>oc (D.own i))++[oc (D.n+D.m)]))
  (h3:Abs.look L' (hp X2)=some (5,(tab D.m fun i=>lineC (D.v i) (nm.a i) D.n)++[lineC v A D.n]))
  (h4:Abs.look L' (hp X3)=some (2,(tab D.m fun i=>srcC (src i))++[srcC (row,turned)]))
  (h5:Abs.look L' (hp A)=some (4,tab D.n fun j=>qc (f j))) (hk:Kept L L' nm D.m X1 X2 X3 A)
  (d1:nm.d≠X1) (d2:nm.d≠X2) (d3:nm.d≠X3) (d4:nm.d≠A) (x12:X1≠X2) (x13:X1≠X3) (x14:X1≠A) (x23:X2≠X3) (x24:X2≠A) (x34:X3≠A)
  (hv:v=if turned=true then-w.val else w.val) (hf:∀k,f k=if turned=true then-cf w.ts k else cf w.ts k):
  ∃nm':DN,nm'.d=nm.d/\HasO L' nm' (D.put w turned) (jdy D src row turned):=by
 have kg:=hk.keep nm.g _ h.hg (zG h.dg) fun hm=>⟨(h.ap hm).go,zG (h.ap hm).rg,(h.ap hm).gs⟩;have ka:=fun i (hi:i<D.m)=>hk.keep (nm.a i) _ (h.ha i hi) (zG ((h.ap (by omega)).da i hi)) fun hm=>⟨zG ((h.ap hm).oa i hi),zG ((h.ap hm).ra i hi),zG ((h.ap hm).sa i hi)⟩;have hm1:(D.put w turned).m≠0:=ql _;have ai:∀i,i<D.m+1->i≠D.m->i<D.m:=fun i h1 h2=>by omega
 refine⟨⟨nm.d,X2,nm.g,X1,nm.f,X3,fun i=>if i=D.m then A else nm.a i⟩,rfl,bL,h.dg,fun _=> ?_,?_,?_,fun _=> ?_,fun _=> ?_,fun _=> ?_,fun i hi=> ?_⟩
 ·refine⟨d2,d1,d3,zG kg.2.2.1,zG x12,x23,kg.2.1,kg.2.2.2.1,x13,?_,?_,?_,?_,?_,?_⟩
  ·intro i hi;dsimp only;split
   ·exact d4
   ·rename_i e;exact(h.ap (by have:=ai i hi e;omega)).da i (ai i hi e)
  ·intro i hi;dsimp only;split
   ·exact x24
   ·rename_i e;exact zG (ka i (ai i hi e)).2.2.1
  ·intro i hi;dsimp only;split
   ·exact kg.2.2.2.2
   ·rename_i e;exact(h.ap (by have:=ai i hi e;omega)).ga i (ai i hi e)
  ·intro i hi;dsimp only;split
   ·exact x14
   ·rename_i e;exact zG (ka i (ai i hi e)).2.1
  ·intro i hi;dsimp only;split
   ·exact x34
   ·rename_i e;exact zG (ka i (ai i hi e)).2.2.2.1
  ·intro i j hi hj e;dsimp only at e;by_cases e1:i=D.m
   ·rw[zm e1]at e;by_cases e2:j=D.m
    ·omega
    ·rw[zr e2]at e;exact absurd e.symm (ka j (ai j hj e2)).2.2.2.2
   ·rw[zr e1]at e;by_cases e2:j=D.m
    ·rw[zm e2]at e;exact absurd e (ka i (ai i hi e1)).2.2.2.2
    ·rw[zr e2]at e;exact(h.ap (by have:=ai i hi e1;omega)).aa i j (ai i hi e1) (ai j hj e2) e
 ·rw[h1,jab hm1,jab hm1,jab hm1];rfl
 ·exact kg.1
 ·rw[h3];show some (5,_)=some (5,tab (D.m+1) _);rw[ji9];congr 3
  ·refine jaz fun i hi=> ?_;rw[show(D.put w turned).v i=D.v i from zr (by omega)];show _=lineC (D.v i) (if i=D.m then A else nm.a i) D.n;rw[zr (by omega)]
  ·rw[show(D.put w turned).v D.m=_ from zm rfl,hv];show _=[lineC _ (if D.m=D.m then A else nm.a D.m) D.n];rw[zm rfl]
 ·rw[h2];show some (1,_)=some (1,tab (D.m+1) _);rw[ji9];congr 3
  ·refine jaz fun i hi=> ?_;rw[show(D.put w turned).own i=D.own i from zr (by omega)]
  ·rw[show(D.put w turned).own D.m=_ from zm rfl]
 ·rw[h4];show some (2,_)=some (2,tab (D.m+1) _);rw[ji9];congr 3
  ·refine jaz fun i hi=> ?_;rw[show jdy D src row turned i=src i from zr (by omega)]
  ·rw[show jdy D src row turned D.m=_ from zm rfl]
 ·dsimp only;by_cases e:i=D.m
  ·rw[zm e,h5,show(D.put w turned).a i=_ from zm e];show some (4,tab D.n _)=some (4,tab D.n _);congr 2;refine jaz fun j _=>qw qc ?_;rw[hf]
  ·rw[zr e,(ka i (ai i hi e)).1,show(D.put w turned).a i=D.a i from zr e];rfl
theorem jb5{L:Abs.Rows}{k:Nat}{v:Nat×List (List IV)}(h:Abs.look L k=some v):SubR [(k,v)] L:=fun j x hj=>by
 by_cases e:j=k
 ·subst e;rw[ja1]at hj;cases hj;exact h
 ·rw[ja0 _ _ e]at hj;cases hj
theorem jbc{L R:Abs.Rows}{d:Nat}{v:Nat×List (List IV)}(h:Abs.look R d=some v)(hs:SubR L R):SubR ((d,v)::L) R:=fun k x hk=>by
 by_cases e:k=d
 ·subst e;rw[ja1]at hk;cases hk;exact h
 ·rw[ja0 _ _ e]at hk;exact hs k x hk
theorem jmy{L:Abs.Rows}{k d:Nat}{v v':Nat×List (List IV)}(hd:d<100000)(hs:SubR [(hp k,v)] L):SubR [(hp k,v)] ((d,v')::L):=
 jat (by dsimp only;rw[ja0 _ _ (hp_ne hd)];rfl) hs
theorem jas{L:Abs.Rows}{k d:Nat}{v:Nat×List (List IV)}(h:d≠k):Abs.del ((d,v)::L) k=(d,v)::Abs.del L k:=by
 unfold Abs.del;rw[yj,zm (by simpa using h)]
theorem jnh{α:Type}{p:Prop}(x:α)(h:∀y,x=y->p):p:=h x rfl
end
section
open Go.Abs
open Go.LP (Rw RT tsum)
attribute [local go_sem] ints ic big frac fc rwC tmC Evid.c Place.c Move.c Cert.c Recall.c Purity.c
section
variable{L:Abs.Rows}{nm:MN}{e:Evid}{ws:List Rw}{os:List (List IV)}
theorem HasM.grow{L':Abs.Rows}(h:HasM L nm e ws os){w:Rw}{og:List IV}{X1 X2:Nat}(ho:og.length=4)(b:blks L')(d1:nm.d≠X1)(d2:nm.d≠X2)(x12:X1≠X2)
  (hd:Abs.look L' (hp nm.d)=some (10,[e.c++[.ref X1 195 6 (ws.length+1),.ref X2 190 4 (ws.length+1)]]))
  (h1:Abs.look L' (hp X1)=some (6,ws.map rwC++[rwC w])) (h2:Abs.look L' (hp X2)=some (4,os++[og])):∃nm':MN,nm'.d=nm.d/\HasM L' nm' e (ws++[w]) (os++[og]):=by
 have hl:(ws++[w]).length=ws.length+1:=by rw[zD];rfl
 refine⟨⟨nm.d,X1,X2⟩,rfl,b,fun _=>d1,fun _=>d2,fun _=>x12,?_,?_,?_,fun _=> ?_,fun _=>h2⟩
 ·rw[zD,zD,h.len];rfl
 ·intro c hc;rcases qp.1 hc with hc | hc
  ·exact h.o4 c hc
  ·rw[zp.1 hc];exact ho
 ·rw[hl,jab (ql _),jab (ql _)];exact hd
 ·rw[h1,qD];rfl
theorem e_add(h:HasM L nm e ws os)(w:Rw)(a b c d:Int)(hl:ws.length<=10000):
  CtrH G.P 117 [.loc (hp nm.d) 10 0 0,.im (.sl (w.ts.map tmC)),.im (.int w.kind),.im (frac w.val),.im (.agg [.int a,.int b,.int c,.int d])] L
   (fun x L'=>x= .im (.tup [])/\∃nm':MN,nm'.d=nm.d/\HasM L' nm' e (ws++[w]) (os++[[.int a,.int b,.int c,.int d]])):=by
 have hb:=h.blk;have F1:=bF hb;have K1:=bK hb;have G1:=bN hb;have c0:=h.hd;have b8:∀k,(8 !=hp k)=true:=fun k=>by simp only[zY,ne_eq];exact hp_ne (by decide)
 have b9:∀k,(9 !=hp k)=true:=fun k=>by simp only[zY,ne_eq];exact hp_ne (by decide)
 by_cases hn:ws.length=0
 ·have hos:os=[]:=zF (by rw[h.len];exact hn);have hws:ws=[]:=zF hn;subst hos hws;have hz:([]:List Rw).length=0:=rfl;rw[hz,jb7,jb7]at c0;refine jag [20,30] [] [] Tryz.func117 ?_;simp only[F1,K1,G1,go_sem];refine jch [false,false,false,false,false,false,false,false,false,false,true,false,false] [(9,4,[[.int a,.int b,.int c,.int d]]),(8,4,[fc w.val]),(hp nm.d,10,[e.c++[.emp,.emp]])] (by decide+kernel) (jau _ (jau _ (jb5 c0))) ?_;simp only[c0,F1,K1,G1,go_sem];refine And.intro (fun c hc=>by rw[zp.1 hc];rfl) ?_;refine ji4 (fun X1 hX1=> ?_);have lX1:Abs.look L (hp X1)=none:=by
   rw[ja0 _ _ (hp_ne (by decide)).symm,ja0 _ _ (hp_ne (by decide)).symm]at hX1;exact hX1
  clear hX1;have xd:¬X1=nm.d:=fun e=>by rw[e,c0]at lX1;cases lX1
  refine And.intro ?_ ?_
  ·refine jat ?_ (jau _ (jau _ (jb5 c0)));dsimp only;rw[ja0 _ _ (hp_ne (by decide)).symm,ja0 _ _ (hp_ne (by decide)).symm,ja0 _ _ (hpne xd)];rfl
  simp only[c0,xd,zG xd,F1,K1,G1,go_sem];refine jnh (List.map (fun p=>if p.1=hp nm.d then(p.1,10,[e.c++[.ref X1 195 6 1,.emp]])else p) L) (fun Q2 hQ2e=> ?_);have e1:=hQ2e;simp only[Evid.c,List.cons_append,List.nil_append]at e1;simp only[e1,go_sem];have lQ2:∀k,k≠hp nm.d->Abs.look Q2 k=Abs.look L k:=fun k hk=>by rw[<-hQ2e];exact jal hk
  have dQ2:Abs.look Q2 (hp nm.d)=some (10,[e.c++[.ref X1 195 6 1,.emp]]):=by rw[<-hQ2e];exact jaj c0
  have bQ2:blks Q2:=hQ2e▸jb6 hb;have F3:=bF bQ2;have K3:=bK bQ2;have G3:=bN bQ2;refine jch [false,false,false,false,false,false,false,true,false,false] [(9,4,[[.int a,.int b,.int c,.int d]]),(hp nm.d,10,[e.c++[.ref X1 195 6 1,.emp]])] (by decide+kernel) ?_ ?_
  ·refine jbc ?_ (jb5 ?_)
   ·dsimp only;rw[ja0 _ _ (hp_ne (by decide)),ja1]
   ·dsimp only;rw[ja0 _ _ (hpne (zG xd)),ja0 _ _ (hp_ne (by decide)).symm,ja0 _ _ (hp_ne (by decide)).symm];exact dQ2
  simp only[dQ2,xd,zG xd,F3,K3,G3,go_sem];refine And.intro (fun c hc=>by rw[zp.1 hc];rfl) ?_;refine ji4 (fun X2 hX2=> ?_);have lX2:¬X2=X1/\Abs.look Q2 (hp X2)=none:=by
   have e1:¬X2=X1:=fun e=>by rw[e,ja1]at hX2;cases hX2
   rw[ja0 _ _ (hpne e1),ja0 _ _ (hp_ne (by decide)).symm,ja0 _ _ (hp_ne (by decide)).symm]at hX2;exact⟨e1,hX2⟩
  clear hX2;obtain⟨x21,lX2⟩:=lX2;have yd:¬X2=nm.d:=fun e=>by rw[e,dQ2]at lX2;cases lX2
  refine And.intro ?_ ?_
  ·refine jbc ?_ (jb5 ?_)
   ·rw[ja0 _ _ (hp_ne (by decide)),ja0 _ _ (hp_ne (by decide)),ja1]
   ·rw[ja0 _ _ (hpne (zG yd)),ja0 _ _ (hpne (zG xd)),ja0 _ _ (hp_ne (by decide)).symm,ja0 _ _ (hp_ne (by decide)).symm];exact dQ2
  simp only[dQ2,x21,zG x21,xd,zG xd,yd,zG yd,F3,K3,G3,go_sem];refine jbm ?_;simp only[go_sem];refine h.grow (X1:=X1) (X2:=X2) rfl jer (zG xd) (zG yd) (zG x21) ?_ ?_ ?_
  ·rw[jb4,ja0 _ _ (hpne (zG yd)),ja0 _ _ (hpne (zG xd)),ja0 _ _ (hp_ne (by decide)).symm,ja0 _ _ (hp_ne (by decide)).symm];exact jaj dQ2
  ·rw[jb4,ja0 _ _ (hpne (zG x21)),ja1];rfl
  ·rw[jb4,ja1];rfl
 ·rw[jab hn,jab hn]at c0;have dr:=h.dr hn;have d_o:=h.d_o hn;have ro:=h.ro hn;have cr:=h.hr hn;have co:=h.ho hn;have hol:os.length=ws.length:=h.len;have htk:List.take ws.length (ws.map rwC)=ws.map rwC:=zu (by rw[zq];exact zn _);have hto:List.take ws.length os=os:=zu (by omega);obtain⟨Q,hQe⟩:∃Q,Abs.del L (hp nm.r)=Q:=⟨_,rfl⟩;have lQ:∀k,k≠hp nm.r->Abs.look Q k=Abs.look L k:=fun k hk=>by rw[<-hQe];exact ja6 _ hk
  have bQ:blks Q:=hQe▸jbd hb;have hQf:List.filter (fun p=>p.1 !=hp nm.r) L=Q:=hQe;have cdQ:=(lQ _ (hpne dr)).trans c0;have coQ:=(lQ _ (hpne (zG ro))).trans co;have F2:=bF bQ;have K2:=bK bQ;have G2:=bN bQ;refine jag [20,30] [] [] Tryz.func117 ?_;simp only[F1,K1,G1,go_sem];refine jch [false,false,false,false,false,false,false,false,false,false,true,false,false] [(9,4,[[.int a,.int b,.int c,.int d]]),(8,4,[fc w.val]),(hp nm.d,10,[e.c++[.ref nm.r 195 6 ws.length,.ref nm.o 190 4 ws.length]])] (by decide+kernel) (jau _ (jau _ (jb5 c0))) ?_;simp only[c0,cr,htk,zq,F1,K1,G1,go_sem];refine And.intro (fun c hc=>by rw[zp.1 hc];rfl) (And.intro (zn _) (And.intro (by omega) ?_));refine jgq (fun X1 hX1=> ?_);have lX1:Abs.look Q (hp X1)=none:=by
   rw[jas (hp_ne (by decide)),jas (hp_ne (by decide)),ja0 _ _ (hp_ne (by decide)).symm,ja0 _ _ (hp_ne (by decide)).symm,hQe]at hX1;exact hX1
  clear hX1;have xd:¬X1=nm.d:=fun e=>by rw[e,cdQ]at lX1;cases lX1
  have xo:¬X1=nm.o:=fun e=>by rw[e,coQ]at lX1;cases lX1
  refine And.intro ?_ ?_
  ·rw[jas (hp_ne (by decide)),jas (hp_ne (by decide)),hQe];refine jat ?_ (jau _ (jau _ (jb5 cdQ)));dsimp only;rw[ja0 _ _ (hp_ne (by decide)).symm,ja0 _ _ (hp_ne (by decide)).symm,ja0 _ _ (hpne xd)];rfl
  simp only[cdQ,b8,b9,hQf,xd,zG xd,dr,zG dr,F2,K2,G2,go_sem];refine jnh (List.map (fun p=>if p.1=hp nm.d then(p.1,10,[e.c++[.ref X1 195 6 (ws.length+1),.ref nm.o 190 4 ws.length]])else p) Q) (fun Q2 hQ2e=> ?_);have e1:=hQ2e;simp only[Evid.c,List.cons_append,List.nil_append]at e1;simp only[e1,go_sem];have lQ2:∀k,k≠hp nm.d->Abs.look Q2 k=Abs.look Q k:=fun k hk=>by rw[<-hQ2e];exact jal hk
  have dQ2:Abs.look Q2 (hp nm.d)=some (10,[e.c++[.ref X1 195 6 (ws.length+1),.ref nm.o 190 4 ws.length]]):=by rw[<-hQ2e];exact jaj cdQ
  have bQ2:blks Q2:=hQ2e▸jb6 bQ;have oQ2:=(lQ2 _ (hpne (zG d_o))).trans coQ;have xQ2:Abs.look Q2 (hp X1)=none:=by rw[lQ2 _ (hpne xd)];exact lX1
  have F3:=bF bQ2;have K3:=bK bQ2;have G3:=bN bQ2;obtain⟨Q3,hQ3e⟩:∃Q3,Abs.del Q2 (hp nm.o)=Q3:=⟨_,rfl⟩;have lQ3:∀k,k≠hp nm.o->Abs.look Q3 k=Abs.look Q2 k:=fun k hk=>by rw[<-hQ3e];exact ja6 _ hk
  have bQ3:blks Q3:=hQ3e▸jbd bQ2;have hQ3f:List.filter (fun p=>p.1 !=hp nm.o) Q2=Q3:=hQ3e;have d3:=(lQ3 _ (hpne d_o)).trans dQ2;have F4:=bF bQ3;have K4:=bK bQ3;have G4:=bN bQ3;refine jch [false,false,false,false,false,false,false,true,false,false] [(9,4,[[.int a,.int b,.int c,.int d]]),(hp nm.d,10,[e.c++[.ref X1 195 6 (ws.length+1),.ref nm.o 190 4 ws.length]])] (by decide+kernel) ?_ ?_
  ·refine jbc ?_ (jb5 ?_)
   ·dsimp only;rw[ja0 _ _ (hp_ne (by decide)),ja1]
   ·dsimp only;rw[ja0 _ _ (hpne (zG xd)),ja0 _ _ (hp_ne (by decide)).symm,ja0 _ _ (hp_ne (by decide)).symm];exact dQ2
  simp only[dQ2,oQ2,hol,hto,xd,zG xd,xo,zG xo,F3,K3,G3,go_sem];refine And.intro (fun c hc=>by rw[zp.1 hc];rfl) (And.intro (by omega) (And.intro (by omega) ?_));refine jgq (fun X2 hX2=> ?_);have lX2:¬X2=X1/\Abs.look Q3 (hp X2)=none:=by
   rw[jas (hpne xo),jas (hp_ne (by decide)),jas (hp_ne (by decide)),hQ3e]at hX2;have e1:¬X2=X1:=fun e=>by rw[e,ja1]at hX2;cases hX2
   rw[ja0 _ _ (hpne e1),ja0 _ _ (hp_ne (by decide)).symm,ja0 _ _ (hp_ne (by decide)).symm]at hX2;exact⟨e1,hX2⟩
  clear hX2;obtain⟨x21,lX2⟩:=lX2;have yd:¬X2=nm.d:=fun e=>by rw[e,d3]at lX2;cases lX2
  refine And.intro ?_ ?_
  ·rw[jas (hpne xo),jas (hp_ne (by decide)),jas (hp_ne (by decide)),hQ3e];refine jbc ?_ (jb5 ?_)
   ·rw[ja0 _ _ (hp_ne (by decide)),ja0 _ _ (hp_ne (by decide)),ja1]
   ·rw[ja0 _ _ (hpne (zG yd)),ja0 _ _ (hpne (zG xd)),ja0 _ _ (hp_ne (by decide)).symm,ja0 _ _ (hp_ne (by decide)).symm];exact d3
  have bn1:(hp X1 !=hp nm.o)=true:=by simp only[zY,ne_eq];exact hpne xo
  simp only[d3,x21,zG x21,xd,zG xd,yd,zG yd,xo,bn1,b8,b9,hQ3f,F4,K4,G4,go_sem];refine jbm ?_;simp only[go_sem];refine h.grow (X1:=X1) (X2:=X2) rfl jer (zG xd) (zG yd) (zG x21) ?_ ?_ ?_
  ·rw[jb4,ja0 _ _ (hpne (zG yd)),ja0 _ _ (hpne (zG xd)),ja0 _ _ (hp_ne (by decide)).symm,ja0 _ _ (hp_ne (by decide)).symm];exact jaj d3
  ·rw[jb4,ja0 _ _ (hpne (zG x21)),ja1];rfl
  ·rw[jb4,ja1]
