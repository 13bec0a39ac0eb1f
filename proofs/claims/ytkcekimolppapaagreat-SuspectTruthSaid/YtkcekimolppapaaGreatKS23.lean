/- A part of the proof. No further condition. -/
import Derived.Test.YtkcekimolppapaaGreatKS22
set_option linter.all false
set_option maxRecDepth 10000000
set_option maxHeartbeats 16000000
namespace Go.Proofs.YtkcekimolppapaaGreat
section
open Go.Abs
open Go.LP (Dic find)
attribute [local go_sem] ints ic big frac fc
theorem jcg{R L0:Abs.Rows}{b s:Nat}{es:List (List IV)}(h:Abs.look L0 (hp b)=some (s,es)):jev R [] L0 ((hp b,s,es)::R):=fun k x hk=>by
 by_cases e:k=hp b
 ·subst e;rw[ja2]at hk;rw[h,hk];exact .inl rfl
 ·rw[ja0 _ _ e]at hk;exact .inr ⟨rfl,hk⟩
theorem jhy{L M:Abs.Rows}{b s:Nat}{es:List (List IV)}(hL:Abs.look L (hp b)=none)(h:SubR L M):SubR L (M.map (fun p=>if p.1=hp b then(p.1,s,es)else p)):=fun k x hk=>by
 rw[jas (fun e=>by subst e;rw[hL]at hk;cases hk)];exact h k x hk
def ptU(D:Dic)(i k:Nat):Rat:=match find D.own k i with
 | some i'=>D.v i'
 | none=>0
theorem jsd{D:Dic}{i k:Nat}:ptU D (i+1) k=if D.own i=k then D.v i else ptU D i k:=by
 unfold ptU;rw[LP.find];split
 ·rename_i h;split at h
  ·rename_i e;cases h;rw[zm e]
  ·rename_i e;rw[zn e,h]
 ·rename_i h;split at h
  ·cases h
  ·rename_i e;rw[zn e,h]
section
variable{L:Abs.Rows}{nm:DN}{N:Nat}{D:Dic}{src:Nat->Int×Bool}
theorem x_point(h:HasD L nm N D src)(hN:N<=100000)(hm:D.m<=100000)(ho:∀i,i<D.m->D.own i<=1000000):
  CtrH G.P 112 [.loc (hp nm.d) 6 0 0] L (fun x L'=>∃b,x= .im (.ref b 35 4 N)/\blks L'/\SubR L L'/\Abs.look L (hp b)=none/\Abs.look L' (hp b)=some (4,tab N fun k=>qc (D.pt k))):=by
 have hb:=h.blk;have F1:=bF hb;have K1:=bK hb;have G1:=bN hb;have c0:=h.hd;have kz:=jj9 N hN;by_cases hm0:D.m=0
 ·rw[hm0,jb8,jb8,jb8]at c0;refine jao [] [] [.tmp 2] Tryz.func112 ?_;simp only[c0,F1,K1,G1,go_sem];refine jcz kz (by decide) rfl jaq jac ?_;rintro _ L0 ⟨b,rfl,hb0,hb1,hb2⟩ hfr;have hnew:=(hfr (hp b) (by rw[hb1];rfl)).resolve_left (by simp[Abs.look]);refine⟨(hp b,4,tab N fun _=>qc 0)::L,?_,?_⟩
  ·simp only[c0,F1,K1,G1,go_sem];exact jcg hb1
  have hLb:Abs.look L (hp b)=none:=by
   revert hnew;simp only[c0,F1,K1,G1,go_sem];exact fun h=>h
  clear hnew hfr kz;have hbM:blks ((hp b,4,tab N fun _=>qc 0)::L):=jad hb;have F2:=fun(d:Nat) (h:d<100000)=>jeh (L:=(hp b,4,tab N fun _=>qc 0)::L) (d:=d) hbM h;have ndb:¬nm.d=b:=fun e=>by rw[e,hLb]at c0;cases c0
  simp only[c0,ndb,F1,K1,G1,go_sem];refine jap [3,15,16] (fun g:Unit=>⟨[(3,.im (.ref b 35 4 N)),(15,.im (.int 0)),(16,.im (.int 0))],(hp b,4,tab N fun _=>qc 0)::L,[]⟩) (fun _=>True) (fun _=>0) () ?_ (SubR.of_eq rfl) rfl trivial ?_
  ·simp only[go_sem]
  intro _ _;have hpt:(tab N fun k=>qc (D.pt k))=tab N fun _=>qc 0:=jar fun k _=>by
   rw[show D.pt k=ptU D D.m k from rfl,hm0];rfl
  simp only[go_sem];refine jb7 _ hbM (SubR.of_eq rfl) ?_;rw[hpt];simp only[go_sem];exact⟨b,rfl,hbM,jav hLb (SubR.of_eq rfl),hLb,zm rfl⟩
 ·rw[jak hm0,jak hm0,jak hm0]at c0;have c1:=h.ho hm0;have c2:=h.hr hm0;refine jao [] [] [.tmp 2] Tryz.func112 ?_;simp only[c0,F1,K1,G1,go_sem];refine jcz kz (by decide) rfl jaq jac ?_;rintro _ L0 ⟨b,rfl,hb0,hb1,hb2⟩ hfr;have hnew:=(hfr (hp b) (by rw[hb1];rfl)).resolve_left (by simp[Abs.look]);refine⟨(hp b,4,tab N fun _=>qc 0)::L,?_,?_⟩
  ·simp only[c0,F1,K1,G1,go_sem];exact jcg hb1
  have hLb:Abs.look L (hp b)=none:=by
   revert hnew;simp only[c0,F1,K1,G1,go_sem];exact fun h=>h
  clear hnew hfr kz;have hbM:blks ((hp b,4,tab N fun _=>qc 0)::L):=jad hb;have ndb:¬nm.d=b:=fun e=>by rw[e,hLb]at c0;cases c0
  simp only[c0,ndb,F1,K1,G1,go_sem];refine jap [0,3,14,15,16] (fun g:Nat×Abs.Rows=>⟨[(0,.loc (hp nm.d) 6 0 0),(3,.im (.ref b 35 4 N)),(14,.im (.ref nm.o 3 1 D.m)),(15,.im (.int D.m)),(16,.im (.int g.1))],g.2,[]⟩)
   (fun g=>g.1<=D.m/\blks g.2/\SubR L g.2/\Abs.look g.2 (hp b)=some (4,tab N fun k=>qc (ptU D g.1 k))) (fun g=>D.m-g.1) (0,(hp b,4,tab N fun _=>qc 0)::L) ?_ (SubR.of_eq rfl) rfl
   ⟨zH _,hbM,jav hLb (SubR.of_eq rfl),ja2 _ _ _⟩ ?_
  ·simp only[Int.natCast_zero,go_sem]
  rintro⟨i,M⟩ ⟨hi,hM,hs,hl⟩;dsimp only at hi hM hs hl;have F2:=bF hM;have K2:=bK hM;have G2:=bN hM;have d0:=hs _ _ c0;have d1:=hs _ _ c1;have d2:=hs _ _ c2;by_cases hlt:i<D.m
  ·have hd:decide ((i:Int)<D.m)=true:=zh (by omega);have him:(i:Int)<D.m:=by omega
   have hi0:(0:Int)<=i:=by omega
   have w1:=ja7 (n:=(i:Int)+1) (by omega);have og:=oget (o:=D.own) hlt;have rg:=lget (v:=D.v) (A:=nm.a) (n:=D.n) hlt;by_cases hv:D.own i<N
   ·have hd2:decide ((D.own i:Int)<N)=true:=zh (by omega);have hvN:(D.own i:Int)<N:=by omega
    have hv0:(0:Int)<=D.own i:=by omega
    have hq:=qget (f:=ptU D i) hv;simp only[hd,hd2,d0,d1,d2,og,rg,hl,hq,hvN,hv0,him,hi0,jaa,Int.toNat_natCast,F2,K2,G2,go_sem];refine ja6 (i+1,M.map (fun p=>if p.1=hp b then(p.1,4,(tab N fun k=>qc (ptU D i k)).set (D.own i) (fc (D.v i)))else p)) ?_ (SubR.of_eq rfl) rfl (by show D.m-(i+1)<D.m-i;omega) ⟨hlt,jbd hM,jhy hLb hs,(jah hl).trans ?_⟩
    ·simp only[w1,Int.natCast_add,go_sem]
    ·rw[qset];congr 2;refine jar fun k hk=>qx qc ?_;rw[jsd];by_cases e:k=D.own i
     ·rw[zm e,zm e.symm]
     ·rw[zn e,zn fun h=>e h.symm]
   ·have hd2:decide ((D.own i:Int)<N)=false:=zw (by omega);simp only[hd,hd2,d0,d1,d2,og,rg,him,hi0,jaa,Int.toNat_natCast,F2,K2,G2,go_sem];refine ja6 (i+1,M) ?_ (SubR.of_eq rfl) rfl (by show D.m-(i+1)<D.m-i;omega) ⟨hlt,hM,hs,hl.trans ?_⟩
    ·simp only[w1,Int.natCast_add,go_sem]
    ·congr 2;refine jar fun k hk=>qx qc ?_;rw[jsd,zn (by omega)]
  ·have hd:decide ((i:Int)<D.m)=false:=zw (by omega);have him:i=D.m:=by omega
   subst him;simp only[hd,go_sem];refine jb7 M hM (SubR.of_eq rfl) ?_;simp only[go_sem];exact⟨b,rfl,hM,hs,hLb,hl⟩
end
end
section
open Go.Abs
open Go.LP (Dic find)
attribute [local go_sem] ints ic big frac fc
section
variable{L:Abs.Rows}{nm:DN}{N:Nat}{D:Dic}{src:Nat->Int×Bool}
def chU(turned:Bool)(y:Nat->Rat)(r:Nat)(price:Rat)(k:Nat):Rat:=if k=r then y k+(if turned then price else-price)else y k
theorem jk8(h:HasD L nm N D src){i r R Y:Nat}(hi:i<D.m)(hsr:(src i).1=(r:Int))(hr:r<R)(y:Nat->Rat)(hY:Abs.look L (hp Y)=some (4,tab R fun k=>qc (y k)))(price:Rat)(hR:R<=100000)(hm:D.m<=100000)(ky:FL 18000000000 (y r))(kp:FL 100000000 price):
  CtrH G.P 160 [.loc (hp nm.d) 6 0 0,.im (.ref Y 35 4 R),.im (.int i),.im (frac price)] L
   (fun x L'=>x= .im (.tup [])/\blks L'/\Abs.look L' (hp Y)=some (4,tab R fun k=>qc (chU (src i).2 y r price k))/\∀k,k≠hp Y->Abs.look L' k=Abs.look L k):=by
 have hb:=h.blk;have F1:=bF hb;have K1:=bK hb;have G1:=bN hb;have hm0:D.m≠0:=by omega
 have c0:=h.hd;rw[jak hm0,jak hm0,jak hm0]at c0;have c1:=h.hs hm0;have hi':(i:Int)<D.m:=by omega
 have hi0:(0:Int)<=i:=by omega
 have hr':(r:Int)<R:=by omega
 have hr0:(0:Int)<=r:=by omega
 have sg:=sget (o:=src) hi;rw[hsr]at sg;have yg:=qget (f:=y) hr;have kn:=f_neg (kp.mono (by omega:100000000<=19000000000));rcases ht:(src i).2 with _ | _
 ·rw[ht]at sg;have ka:=f_add (ky.mono (by omega:18000000000<=19000000000)) ((jnl kp).mono (by omega:100000000<=19000000000));generalize hx:y r+ -price=x at*;generalize hnp: -price=np at*;obtain⟨L',hL',hb',hl',ho'⟩:∃L',L'=L.map (fun p=>if p.1=hp Y then(p.1,4,(tab R fun k=>qc (y k)).set r (fc x))else p)/\blks L'/\Abs.look L' (hp Y)=some (4,tab R fun k=>qc (chU false y r price k))/\∀k,k≠hp Y->Abs.look L' k=Abs.look L k:=by
   refine⟨_,rfl,jbd hb,(jah hY).trans ?_,fun k hk=>jas hk⟩;rw[qset];congr 2;refine jar fun k hk=>qx qc ?_;unfold chU;by_cases e:k=r
   ·rw[zm e,zm e,e,zn yw,hnp,hx]
   ·rw[zn e,zn e]
  simp only[frac,ints]at kn ka;refine jao [] [] [] Tryz.func160 ?_;unfold frac;simp only[c0,c1,sg,hi',hi0,jaa,Int.toNat_natCast,F1,K1,G1,go_sem];refine ja1 kn ?_;simp only[c0,c1,sg,hi',hi0,jaa,Int.toNat_natCast,F1,K1,G1,go_sem];refine jam ?_;simp only[c0,c1,sg,hY,yg,hi',hi0,hr',hr0,jaa,Int.toNat_natCast,F1,K1,G1,go_sem];refine ja4 ka (by decide) ?_;simp only[c0,c1,sg,hY,yg,hi',hi0,hr',hr0,jaa,Int.toNat_natCast,F1,K1,G1,go_sem];refine jb7 L' hb' (ja3 (by decide) hb' (ja3 (by decide) hb' (SubR.of_eq hL'))) ?_;simp only[go_sem];exact⟨hb',hl',ho'⟩
 ·rw[ht]at sg;have ka:=f_add (ky.mono (by omega:18000000000<=19000000000)) (kp.mono (by omega:100000000<=19000000000));generalize hx:y r+price=x at*;obtain⟨L',hL',hb',hl',ho'⟩:∃L',L'=L.map (fun p=>if p.1=hp Y then(p.1,4,(tab R fun k=>qc (y k)).set r (fc x))else p)/\blks L'/\Abs.look L' (hp Y)=some (4,tab R fun k=>qc (chU true y r price k))/\∀k,k≠hp Y->Abs.look L' k=Abs.look L k:=by
   refine⟨_,rfl,jbd hb,(jah hY).trans ?_,fun k hk=>jas hk⟩;rw[qset];congr 2;refine jar fun k hk=>qx qc ?_;unfold chU;by_cases e:k=r
   ·rw[zm e,zm e,e,zm rfl,hx]
   ·rw[zn e,zn e]
  simp only[frac,ints]at ka;refine jao [] [] [] Tryz.func160 ?_;unfold frac;simp only[c0,c1,sg,hi',hi0,jaa,Int.toNat_natCast,F1,K1,G1,go_sem];refine jam ?_;simp only[c0,c1,sg,hY,yg,hi',hi0,hr',hr0,jaa,Int.toNat_natCast,F1,K1,G1,go_sem];refine ja4 ka (by decide) ?_;simp only[c0,c1,sg,hY,yg,hi',hi0,hr',hr0,jaa,Int.toNat_natCast,F1,K1,G1,go_sem];refine jb7 L' hb' (ja3 (by decide) hb' (ja3 (by decide) hb' (SubR.of_eq hL'))) ?_;simp only[go_sem];exact⟨hb',hl',ho'⟩
end
end
section
open Go.Abs
open Go.LP (Dic find)
attribute [local go_sem] ints ic big frac fc
theorem jb1(b s i j:Nat):AV.toH (.loc (hp b) s i j)= .loc (hp b) s i j:=by simp only[AV.toH,hp_ge,qm]
def prU(D:Dic)(N:Nat)(src:Nat->Int×Bool)(y0:Nat->Rat)(pr:Nat->Rat):Nat->Nat->Rat
 | 0=>y0
 | j+1=>if D.free j<N then prU D N src y0 pr j else chU (src (D.free j-N)).2 (prU D N src y0 pr j) (src (D.free j-N)).1.toNat (pr j)
theorem FL_chU{t:Bool}{y:Nat->Rat}{r:Nat}{p:Rat}{k c:Nat}(hy:FL c (y k))(hp:FL 100000000 p):FL (c+100000001) (chU t y r p k):=by
 unfold chU;split
 ·cases t
  ·exact(jk7 hy (jnl hp)).mono (by omega)
  ·exact(jk7 hy hp).mono (by omega)
 ·exact hy.mono (by omega)
theorem jqw{D:Dic}{N:Nat}{src:Nat->Int×Bool}{y0 pr:Nat->Rat}{c:Nat}(h0:∀k,FL c (y0 k))(hp:∀j,j<D.n->FL 100000000 (pr j)):∀j,j<=D.n->∀k,FL (c+j*100000001) (prU D N src y0 pr j k)
 | 0,_,k=>(h0 k).mono (by omega)
 | j+1,hj,k=>by
  have ih:=jqw (D:=D) (N:=N) (src:=src) h0 hp j (by omega);rw[prU];split
  ·exact(ih k).mono (by omega)
  ·exact(FL_chU (ih k) (hp j (by omega))).mono (by omega)
section
variable{L:Abs.Rows}{nm:DN}{N:Nat}{D:Dic}{src:Nat->Int×Bool}
structure Srcs(D:Dic)(N R:Nat)(src:Nat->Int×Bool):Prop where
 free:∀j,j<D.n->N<=D.free j->D.free j-N<D.m
 own:∀i,i<D.m->N<=D.own i->D.own i-N<D.m
 row:∀i,i<D.m->0<=(src i).1/\(src i).1<(R:Int)
theorem x_prices(h:HasD L nm N D src)(R:Nat)(hR:R<=100000)(hm:D.m<=100000)(hn:D.n<=100)(hN:N<=100000)(hs:Srcs D N R src)(hf:∀j,j<D.n->D.free j<=1000000)(sm:SmD D):
  CtrH G.P 115 [.loc (hp nm.d) 6 0 0,.im (.int R)] L (fun x L'=>∃b,x= .im (.ref b 35 4 R)/\blks L'/\SubR L L'/\Abs.look L (hp b)=none/\Abs.look L' (hp b)=some (4,tab R fun k=>qc (prU D N src (fun _=>0) (fun j=> -D.g j) D.n k))):=by
 have hb:=h.blk;have F1:=bF hb;have K1:=bK hb;have G1:=bN hb;have c0:=h.hd;have kz:=jj9 R hR;by_cases hn0:D.n=0
 ·rw[hn0,jb8]at c0;refine jao [] [] [.tmp 4] Tryz.func115 ?_;simp only[F1,K1,G1,go_sem];refine jcz kz (by decide) rfl jaq jac ?_;rintro _ L0 ⟨b,rfl,hb0,hb1,hb2⟩ hfr;have hnew:=(hfr (hp b) (by rw[hb1];rfl)).resolve_left (by simp[Abs.look]);refine⟨(hp b,4,tab R fun _=>qc 0)::L,?_,?_⟩
  ·simp only[F1,K1,G1,go_sem];exact jcg hb1
  have hLb:Abs.look L (hp b)=none:=by
   revert hnew;simp only[F1,K1,G1,go_sem];exact fun h=>h
  clear hnew hfr kz;have ndb:¬nm.d=b:=fun e=>by rw[e,hLb]at c0;cases c0
  have hbM:blks ((hp b,4,tab R fun _=>qc 0)::L):=jad hb;simp only[c0,ndb,F1,K1,G1,go_sem];refine jap [5,14,15] (fun g:Unit=>⟨[(5,.im (.ref b 35 4 R)),(14,.im (.int 0)),(15,.im (.int 0))],(hp b,4,tab R fun _=>qc 0)::L,[]⟩) (fun _=>True) (fun _=>0) () ?_ (SubR.of_eq rfl) rfl trivial ?_
  ·simp only[go_sem]
  intro _ _;have hpt:(tab R fun k=>qc (prU D N src (fun _=>0) (fun j=> -D.g j) D.n k))=tab R fun _=>qc 0:=by rw[hn0];rfl
  simp only[go_sem];refine jb7 _ hbM (SubR.of_eq rfl) ?_;rw[hpt];simp only[go_sem];exact⟨b,rfl,hbM,jav hLb (SubR.of_eq rfl),hLb,zm rfl⟩
 ·rw[jak hn0]at c0;have cf:=h.hf hn0;refine jao [] [] [.tmp 4] Tryz.func115 ?_;simp only[F1,K1,G1,go_sem];refine jcz kz (by decide) rfl jaq jac ?_;rintro _ L0 ⟨b,rfl,hb0,hb1,hb2⟩ hfr;have hnew:=(hfr (hp b) (by rw[hb1];rfl)).resolve_left (by simp[Abs.look]);refine⟨(hp b,4,tab R fun _=>qc 0)::L,?_,?_⟩
  ·simp only[F1,K1,G1,go_sem];exact jcg hb1
  have hLb:Abs.look L (hp b)=none:=by
   revert hnew;simp only[F1,K1,G1,go_sem];exact fun h=>h
  clear hnew hfr kz;have ndb:¬nm.d=b:=fun e=>by rw[e,hLb]at c0;cases c0
  have hbM:blks ((hp b,4,tab R fun _=>qc 0)::L):=jad hb;simp only[c0,ndb,F1,K1,G1,go_sem];refine jap [0,5,13,14,15] (fun g:Nat×Abs.Rows=>⟨[(0,.loc (hp nm.d) 6 0 0),(5,.im (.ref b 35 4 R)),(13,.im (.ref nm.f 3 1 D.n)),(14,.im (.int D.n)),(15,.im (.int g.1))],g.2,[]⟩)
   (fun g=>g.1<=D.n/\blks g.2/\SubR L g.2/\Abs.look g.2 (hp b)=some (4,tab R fun k=>qc (prU D N src (fun _=>0) (fun j=> -D.g j) g.1 k))) (fun g=>D.n-g.1) (0,(hp b,4,tab R fun _=>qc 0)::L) ?_ (SubR.of_eq rfl) rfl
   ⟨zH _,hbM,jav hLb (SubR.of_eq rfl),ja2 _ _ _⟩ ?_
  ·simp only[Int.natCast_zero,go_sem]
  rintro⟨j,M⟩ ⟨hj,hM,hsM,hl⟩;dsimp only at hj hM hsM hl;have F2:=bF hM;have K2:=bK hM;have G2:=bN hM;have d0:=hsM _ _ c0;have df:=hsM _ _ cf;have dg:=hsM _ _ h.hg;rcases zU j D.n with hlt | hlt
  ·have hd:decide ((j:Int)<D.n)=true:=zh (by omega);have hjn:(j:Int)<D.n:=by omega
   have hj0:(0:Int)<=j:=by omega
   have w1:=ja7 (n:=(j:Int)+1) (by omega);have fg:=oget (o:=D.free) hlt;have gg:=qget (f:=D.g) hlt;have hfj:=hf j hlt;rcases zU (D.free j) N with hv | hv
   ·have hd2:decide ((N:Int)<=D.free j)=false:=zw (by omega);simp only[hd,hd2,d0,df,fg,hjn,hj0,jaa,Int.toNat_natCast,F2,K2,G2,go_sem];refine ja6 (j+1,M) ?_ (SubR.of_eq rfl) rfl (by show D.n-(j+1)<D.n-j;omega) ⟨hlt,hM,hsM,hl.trans ?_⟩
    ·simp only[w1,Int.natCast_add,go_sem]
    ·congr 2;refine jar fun k hk=>qx qc ?_;rw[prU,zm hv]
   ·have hd2:decide ((N:Int)<=D.free j)=true:=zh (by omega);have him:=hs.free j hlt hv;have hsr:=hs.row _ him;have w2:=ja7 (n:=((D.free j-N:Nat):Int)) (by omega);have w3:(D.free j:Int)-N=((D.free j-N:Nat):Int):=by omega
    have HM:=h.sub hM hsM;have kn:=f_neg (sm.g j hlt |>.mono (by omega:100000000<=19000000000));have ky:=jqw (D:=D) (N:=N) (src:=src) (y0:=fun _=>0) (pr:=fun j=> -D.g j) (c:=4) (fun _=>jc5 (n:=0) (by omega)) (fun j hj=>jnl (sm.g j hj)) j hj (src (D.free j-N)).1.toNat;have kc:=jk8 HM him (r:=(src (D.free j-N)).1.toNat) (by omega) (by omega:(src (D.free j-N)).1.toNat<R) _ hl (-D.g j) hR hm (ky.mono (by
     have:j*100000001<=100*100000001:=qw _ (by omega);omega)) (jnl (sm.g j hlt))
    have hps:prU D N src (fun _=>0) (fun j=> -D.g j) (j+1)=chU (src (D.free j-N)).2 (prU D N src (fun _=>0) (fun j=> -D.g j) j) (src (D.free j-N)).1.toNat (-D.g j):=by
     rw[prU,zn (by omega)]
    generalize-D.g j=ng at*;simp only[frac,ints]at kn kc;simp only[hd,hd2,d0,df,fg,hjn,hj0,jaa,Int.toNat_natCast,F2,K2,G2,go_sem];refine jae 16 ?_;simp only[hd,hd2,d0,df,dg,fg,gg,hjn,hj0,w2,w3,jaa,Int.toNat_natCast,F2,K2,G2,go_sem];refine ja4 kn (by decide) ?_;simp only[hd,hd2,d0,df,dg,fg,gg,hjn,hj0,w2,w3,jaa,Int.toNat_natCast,F2,K2,G2,go_sem];refine jai kc (by decide) (by simp only[zB,zF,jb1];rfl) hM (SubR.of_eq rfl) ?_;rintro _ L2 ⟨rfl,t1,t2,t3⟩ _;refine⟨L2,jba,?_⟩;have F3:=bF t1;simp only[F3,go_sem];refine ja6 (j+1,L2) ?_ (SubR.of_eq rfl) rfl (by show D.n-(j+1)<D.n-j;omega) ⟨hlt,t1,fun k x hk=> ?_,t2.trans ?_⟩
    ·simp only[w1,Int.natCast_add,go_sem]
    ·rw[t3 k (fun e=>by subst e;rw[hLb]at hk;cases hk)];exact hsM k x hk
    ·dsimp only;rw[hps]
  ·have hd:decide ((j:Int)<D.n)=false:=zw (by omega);have hjn:j=D.n:=by omega
   subst hjn;simp only[hd,go_sem];refine jb7 M hM (SubR.of_eq rfl) ?_;simp only[go_sem];exact⟨b,rfl,hM,hsM,hLb,hl⟩
end
end
section
open Go.Abs
open Go.LP (Rw RT tsum)
attribute [local go_sem] ints ic big frac fc rwC tmC Evid.c Place.c Move.c Cert.c Recall.c Purity.c
structure MN where
 (d r o:Nat)
def OgOk(e:Evid)(w:Rw)(c:List IV):Prop:=∃(k mt ix:Int) (n:Nat) (x:Move),c=[.int k,.int (n:Int),.int mt,.int ix]/\e.moves[n]? =some x/\
 ((k=0/\binF e x=false/\w∈jcd e.mats.toNat e.moves n x e.mats.toNat)\/
  (k=1/\x.scale≠ -1/\∃lo hi,ivlF e.certs e.recalls x.scale x.reading x.day=some (lo,hi)/\w=⟨sumT e.mats.toNat n 1 (-1) 0 e.mats.toNat,0,lo⟩)\/
  (k=2/\x.scale≠ -1/\∃lo hi,ivlF e.certs e.recalls x.scale x.reading x.day=some (lo,hi)/\w=⟨sumT e.mats.toNat n 1 (-1) 0 e.mats.toNat,1,hi⟩)\/
  ((k=3\/k=4)/\w∈purR e.mats.toNat n e.purs))
section
variable{e:Evid}{M mv i:Nat}{x:Move}{lo hi:Rat}
theorem OgOk.low(hM:e.mats=(M:Int))(hx:e.moves[mv]? =some x)(hs:x.scale≠ -1)(hr:ivlF e.certs e.recalls x.scale x.reading x.day=some (lo,hi)):
  OgOk e ⟨sumT M mv 1 (-1) 0 M,0,lo⟩ [.int 1,.int (mv:Int),.int (-1),.int (-1)]:=by
 obtain rfl:e.mats.toNat=M:=by omega
 exact⟨1,-1,-1,mv,x,rfl,hx,.inr (.inl ⟨rfl,hs,lo,hi,hr,rfl⟩)⟩
theorem OgOk.high(hM:e.mats=(M:Int))(hx:e.moves[mv]? =some x)(hs:x.scale≠ -1)(hr:ivlF e.certs e.recalls x.scale x.reading x.day=some (lo,hi)):
  OgOk e ⟨sumT M mv 1 (-1) 0 M,1,hi⟩ [.int 2,.int (mv:Int),.int (-1),.int (-1)]:=by
 obtain rfl:e.mats.toNat=M:=by omega
 exact⟨2,-1,-1,mv,x,rfl,hx,.inr (.inr (.inl ⟨rfl,hs,lo,hi,hr,rfl⟩))⟩
theorem OgOk.pur{p:Purity}{w:Rw}{k:Int}(hM:e.mats=(M:Int))(hx:e.moves[mv]? =some x)(hp:e.purs[i]? =some p)(hm:p.move=(mv:Int))(hk:k=3\/k=4)
  (hw:w=⟨sumT M mv (-p.least) p.mat 1000 M,0,0⟩\/w=⟨sumT M mv p.most p.mat (-1000) M,0,0⟩):OgOk e w [.int k,.int (mv:Int),.int (-1),.int (i:Int)]:=by
 obtain rfl:e.mats.toNat=M:=by omega
 refine⟨k,-1,i,mv,x,rfl,hx,.inr (.inr (.inr ⟨hk,jd.2 ⟨p,zk hp,?_⟩⟩))⟩;unfold pur1;rw[zm hm];rcases hw with rfl | rfl<;>simp
theorem OgOk.stock{kd:Int}(hM:e.mats=(M:Int))(hx:e.moves[mv]? =some x)(hb:binF e x=false)(hi:i<M)(hk:kd=if x.all=true then 2 else 0):
  OgOk e ⟨jaj M x.fr i e.moves (mv+1),kd,0⟩ [.int 0,.int (mv:Int),.int (i:Int),.int (-1)]:=by
 obtain rfl:e.mats.toNat=M:=by omega
 subst hk;exact⟨0,i,-1,mv,x,rfl,hx,.inl ⟨rfl,hb,mem_stockR.2 ⟨i,hi,rfl⟩⟩⟩
end
structure HasM(L:Abs.Rows)(nm:MN)(e:Evid)(ws:List Rw)(os:List (List IV)):Prop where
 blk:blks L
 dr:ws.length≠0->nm.d≠nm.r
 d_o:ws.length≠0->nm.d≠nm.o
 ro:ws.length≠0->nm.r≠nm.o
 len:os.length=ws.length
 o4:∀c∈os,c.length=4
 og:∀(i:Nat) (w:Rw) (c:List IV),ws[i]? =some w->os[i]? =some c->OgOk e w c
 hd:Abs.look L (hp nm.d)=some (10,[e.c++[sl0 nm.r 211 6 ws.length,sl0 nm.o 103 4 ws.length]])
 hr:ws.length≠0->Abs.look L (hp nm.r)=some (6,ws.map rwC)
 ho:ws.length≠0->Abs.look L (hp nm.o)=some (4,os)
theorem HasM.sub{L L':Abs.Rows}{nm:MN}{e:Evid}{ws:List Rw}{os:List (List IV)}(h:HasM L nm e ws os)(hb:blks L')(hs:SubR L L'):HasM L' nm e ws os:=
 ⟨hb,h.dr,h.d_o,h.ro,h.len,h.o4,h.og,hs _ _ h.hd,fun hw=>hs _ _ (h.hr hw),fun hw=>hs _ _ (h.ho hw)⟩
theorem jgd{L R:Abs.Rows}{b X:Nat}{v:Nat×List (List IV)}(hs:SubR L R)(hb:Abs.look L (hp b)=none)(hX:Abs.look (Abs.del R (hp b)) (hp X)=none):
  SubR L ((hp X,v)::Abs.del R (hp b))/\Abs.look L (hp X)=none:=by
 have hl:∀k x,Abs.look L k=some x->Abs.look (Abs.del R (hp b)) k=some x:=fun k x hk=>by
  rw[ja8 _ (fun e=>by subst e;rw[hb]at hk;cases hk)];exact hs k x hk
 have hx:Abs.look L (hp X)=none:=by
  cases hx:Abs.look L (hp X)with
  | none=>rfl
  | some y=>rw[hl _ y hx]at hX;cases hX
 exact⟨jav hx hl,hx⟩
section
variable{L:Abs.Rows}{nm:MN}{e:Evid}{ws:List Rw}{os:List (List IV)}{M:Nat}
theorem e_var(h:HasM L nm e ws os)(hM:e.mats=(M:Int))(mv k:Nat)(hm:mv<=1000)(hk:k<=1000)(hM6:M<=6):
  CtrH G.P 145 [.loc (hp nm.d) 10 0 0,.im (.int mv),.im (.int k)] L (fun x L'=>x= .im (.int ((mv*M+k:Nat):Int))/\L'=L):=by
 have hb:=h.blk;have F1:=bF hb;have K1:=bK hb;have G1:=bN hb;have c0:=h.hd;have hb1:mv*M<=1000*6:=yK hm hM6;have w1:=ja7 (n:=(mv:Int)*e.mats) (by rw[hM,<-Int.natCast_mul];omega);have w2:=ja7 (n:=(mv:Int)*e.mats+k) (by rw[hM,<-Int.natCast_mul];omega);have w3:(mv:Int)*e.mats+k=((mv*M+k:Nat):Int):=by rw[hM,Int.natCast_add,Int.natCast_mul]
 rw[<-w3];refine jao [] [] [.tmp 6] Tryz.func145 ?_;simp only[c0,F1,K1,G1,go_sem];refine jb7 L hb (SubR.of_eq rfl) ?_;simp only[w1,w2,go_sem]
theorem jpd{mv:Nat}{b own more:Int}{k:Nat}(h:coF b own more k=0):sumT M mv b own more (k+1)=sumT M mv b own more k:=by rw[sumT,zm h]
theorem jnr{mv:Nat}{b own more:Int}:∀k,(sumT M mv b own more k).length<=k
 | 0=>zt _
 | k+1=>by
  have:=jnr (mv:=mv) (b:=b) (own:=own) (more:=more) k;rw[sumT];split
  ·omega
  ·rw[zG,List.length_singleton];omega
theorem jnu{mv:Nat}{b own more:Int}{k:Nat}(h:coF b own more k≠0):sumT M mv b own more (k+1)=sumT M mv b own more k++[(mv*M+k,((coF b own more k:Int):Rat))]:=by rw[sumT,zn h]
def NEWT(L R:Abs.Rows)(b:Nat)(ts:List (Nat×Rat)):Prop:=ts.length≠0->Abs.look R (hp b)=some (5,ts.map tmC)/\Abs.look L (hp b)=none
def sA(A n:Nat):AV:=if n=0 then .sx []else .im (.ref A 117 5 n)
def rA(A n:Nat):AV:=if n=0 then .im (.sl [])else .im (.ref A 117 5 n)
theorem jdb{A n:Nat}(h:n=0):sA A n= .sx []:=zm h
theorem jct{A n:Nat}(h:n≠0):sA A n= .im (.ref A 117 5 n):=zn h
theorem NEWT.app{L R:Abs.Rows}{X:Nat}{ts:List (Nat×Rat)}{t:Nat×Rat}(h:Abs.look R (hp X)=some (5,ts.map tmC++[tmC t]))(h':Abs.look L (hp X)=none):NEWT L R X (ts++[t]):=fun _=>⟨by rw[h,qf];rfl,h'⟩
theorem e_sum(h:HasM L nm e ws os)(hM:e.mats=(M:Int))(mv:Nat)(b own more:Int)(hm:mv<=1000)(hM6:M<=6)(hb1: -1000<=b/\b<=1000)(hmo: -1000<=more/\more<=1000):
  CtrH G.P 147 [.loc (hp nm.d) 10 0 0,.im (.int mv),.im (.int b),.im (.int own),.im (.int more)] L
   (fun x L'=>∃A,x=rA A (sumT M mv b own more M).length/\blks L'/\SubR L L'/\NEWT L L' A (sumT M mv b own more M)):=by
 have hb:=h.blk;have F1:=bF hb;have K1:=bK hb;have G1:=bN hb;have c0:=h.hd;simp only[Evid.c,hM]at c0;refine jao [40] [] [.tmp 10] Tryz.func147 ?_;simp only[c0,hM,F1,K1,G1,go_sem];refine jap [0,1,2,3,4,11,18,19] (fun g:(Nat×Nat)×Abs.Rows=>⟨[(0,.loc (hp nm.d) 10 0 0),(1,.im (.int mv)),(2,.im (.int b)),(3,.im (.int own)),(4,.im (.int more)),(11,sA g.1.2 (sumT M mv b own more g.1.1).length),(18,.im (.int M)),(19,.im (.int g.1.1))],g.2,[]⟩)
  (fun g=>g.1.1<=M/\blks g.2/\SubR L g.2/\NEWT L g.2 g.1.2 (sumT M mv b own more g.1.1)) (fun g=>M-g.1.1) ((0,0),L) ?_ (SubR.of_eq rfl) rfl ⟨zH _,hb,SubR.of_eq rfl,fun h=>absurd rfl h⟩ ?_
 ·have hz:=jdb (A:=0) (show(sumT M mv b own more 0).length=0 from rfl);simp only[Int.natCast_zero,hz,go_sem]
 rintro⟨⟨k,A⟩,R⟩ hP;obtain⟨hj,hR,hsR,hbn⟩:=hP;dsimp only at hj hR hsR hbn;have F2:=bF hR;have K2:=bK hR;have G2:=bN hR;have d0:=hsR _ _ c0;rcases zU k M with hlt | hlt
 ·have hd:decide ((k:Int)<M)=true:=zh (by omega);have h1:=ja7 (n:=(k:Int)+1) (by omega);have h2:=ja7 (n:=b+more) (by omega);have kv:=e_var (h.sub hR hsR) hM mv k hm (by omega) hM6;have vl:mv*M+k<100000:=by
   have:mv*M<=1000*6:=yK hm hM6;omega
  obtain⟨c,hc⟩:∃c,c=coF b own more k:=⟨_,rfl⟩;have kI:Ctr G.P 17 [.int c] (· =frac (c:Rat)):=jcb c (by rw[hc];unfold coF;split<;>omega);simp only[frac,ints]at kI;have key:∀(p:Bool),decide ((k:Int)=own)=p->(if p=true then b+more else b)=c:=fun p hp=>by
   rw[hc];unfold coF;cases p
   ·rw[zn (by decide),zn (zN hp)]
   ·rw[zm rfl,zm (zJ hp)]
  rcases hown:decide ((k:Int)=own)with _ | _
  ·have hcb:=key _ hown;simp only[qV,qr]at hcb;subst hcb;rcases hc0:decide (b=0)with _ | _
   ·have hadd:=jnu (M:=M) (mv:=mv) (hc▸zN hc0:coF b own more k≠0);rw[<-hc]at hadd;by_cases hn:(sumT M mv b own more k).length=0
    ·have hs0:=jdb (A:=A) hn;have hnil:sumT M mv b own more k=[]:=zO hn;simp only[hd,hown,h2,hc0,hs0,go_sem];refine jai kv (by decide) (by simp only[zB,zF,jb1];rfl) hR (SubR.of_eq rfl) ?_;rintro _ L1 ⟨rfl,hL1⟩ _;subst hL1;refine⟨_,jba,?_⟩;simp only[F2,K2,G2,go_sem];refine ja1 kI ?_;simp only[F2,K2,G2,go_sem];refine And.intro (fun c' hc'=>by rw[zC.1 hc'];rfl) ?_;refine je5 (fun X hX=> ?_);have lX1:Abs.look L1 (hp X)=none:=hX;clear hX;have lX:Abs.look L (hp X)=none:=by
      cases hx:Abs.look L (hp X)with
      | none=>rfl
      | some y=>rw[hsR _ _ hx]at lX1;cases lX1
     have hs1:=jct (A:=X) (n:=(sumT M mv b own more (k+1)).length) (by rw[hadd,zG];exact qk _);have hl1:(sumT M mv b own more (k+1)).length=1:=by rw[hadd,hnil];rfl
     rw[hl1]at hs1;simp only[F2,K2,G2,go_sem];refine ja6 ((k+1,X),(hp X,5,[tmC (mv*M+k,((b:Int):Rat))])::L1) ?_ (SubR.of_eq rfl) rfl (by show M-(k+1)<M-k;omega) ⟨hlt,jad hR,jav lX hsR,?_⟩
     ·simp only[h1,hl1,hs1,Int.natCast_add,go_sem]
     ·dsimp only;rw[hadd];refine NEWT.app ?_ lX;rw[ja2,hnil];rfl
    ·have hs0:=jct (A:=A) hn;obtain⟨hrA,hLA⟩:=hbn hn;have htk:List.take (sumT M mv b own more k).length ((sumT M mv b own more k).map tmC)=(sumT M mv b own more k).map tmC:=zu (by rw[zq];exact zt _);have hlk:=jnr (M:=M) (mv:=mv) (b:=b) (own:=own) (more:=more) k;simp only[hd,hown,h2,hc0,hs0,go_sem];refine jai kv (by decide) (by simp only[zB,zF,jb1];rfl) hR (SubR.of_eq rfl) ?_;rintro _ L1 ⟨rfl,hL1⟩ _;subst hL1;refine⟨_,jba,?_⟩;simp only[F2,K2,G2,go_sem];refine ja1 kI ?_;simp only[hrA,htk,zq,F2,K2,G2,go_sem];refine And.intro (fun c' hc'=>by rw[zC.1 hc'];rfl) (And.intro (zt _) (And.intro (by omega) ?_));refine jj7 (fun X hX=> ?_);obtain⟨lS,lX⟩:=jgd (v:=(5,(sumT M mv b own more k).map tmC++[tmC (mv*M+k,((b:Int):Rat))])) hsR hLA (X:=X) hX;clear hX;have hl1:(sumT M mv b own more (k+1)).length=(sumT M mv b own more k).length+1:=by rw[hadd,zG];rfl
     have hs1:=jct (A:=X) (n:=(sumT M mv b own more k).length+1) (qk _);simp only[F2,K2,G2,go_sem];refine ja6 ((k+1,X),(hp X,5,(sumT M mv b own more k).map tmC++[tmC (mv*M+k,((b:Int):Rat))])::Abs.del L1 (hp A)) ?_ (SubR.of_eq rfl) rfl (by show M-(k+1)<M-k;omega) ⟨hlt,jad (jbo hR),lS,?_⟩
     ·simp only[h1,hl1,hs1,Int.natCast_add,go_sem]
     ·dsimp only;rw[hadd];exact NEWT.app (ja2 _ _ _) lX
   ·have hskip:=jpd (M:=M) (mv:=mv) (hc▸zJ hc0:coF b own more k=0);simp only[hd,hown,hc0,go_sem];refine ja6 ((k+1,A),R) ?_ (SubR.of_eq rfl) rfl (by show M-(k+1)<M-k;omega) ⟨hlt,hR,hsR,by dsimp only;rw[hskip];exact hbn⟩;simp only[h1,hskip,Int.natCast_add,go_sem]
  ·have hcb:=key _ hown;simp only[qm]at hcb;replace h2:=h2.trans hcb;rcases hc0:decide (c=0)with _ | _
   ·have hadd:=jnu (M:=M) (mv:=mv) (hc▸zN hc0:coF b own more k≠0);rw[<-hc]at hadd;by_cases hn:(sumT M mv b own more k).length=0
    ·have hs0:=jdb (A:=A) hn;have hnil:sumT M mv b own more k=[]:=zO hn;simp only[hd,hown,h2,hc0,hs0,go_sem];refine jai kv (by decide) (by simp only[zB,zF,jb1];rfl) hR (SubR.of_eq rfl) ?_;rintro _ L1 ⟨rfl,hL1⟩ _;subst hL1;refine⟨_,jba,?_⟩;simp only[F2,K2,G2,go_sem];refine ja1 kI ?_;simp only[F2,K2,G2,go_sem];refine And.intro (fun c' hc'=>by rw[zC.1 hc'];rfl) ?_;refine je5 (fun X hX=> ?_);have lX1:Abs.look L1 (hp X)=none:=hX;clear hX;have lX:Abs.look L (hp X)=none:=by
      cases hx:Abs.look L (hp X)with
      | none=>rfl
      | some y=>rw[hsR _ _ hx]at lX1;cases lX1
     have hs1:=jct (A:=X) (n:=(sumT M mv b own more (k+1)).length) (by rw[hadd,zG];exact qk _);have hl1:(sumT M mv b own more (k+1)).length=1:=by rw[hadd,hnil];rfl
     rw[hl1]at hs1;simp only[F2,K2,G2,go_sem];refine ja6 ((k+1,X),(hp X,5,[tmC (mv*M+k,((c:Int):Rat))])::L1) ?_ (SubR.of_eq rfl) rfl (by show M-(k+1)<M-k;omega) ⟨hlt,jad hR,jav lX hsR,?_⟩
     ·simp only[h1,hl1,hs1,Int.natCast_add,go_sem]
     ·dsimp only;rw[hadd];refine NEWT.app ?_ lX;rw[ja2,hnil];rfl
    ·have hs0:=jct (A:=A) hn;obtain⟨hrA,hLA⟩:=hbn hn;have htk:List.take (sumT M mv b own more k).length ((sumT M mv b own more k).map tmC)=(sumT M mv b own more k).map tmC:=zu (by rw[zq];exact zt _);have hlk:=jnr (M:=M) (mv:=mv) (b:=b) (own:=own) (more:=more) k;simp only[hd,hown,h2,hc0,hs0,go_sem];refine jai kv (by decide) (by simp only[zB,zF,jb1];rfl) hR (SubR.of_eq rfl) ?_;rintro _ L1 ⟨rfl,hL1⟩ _;subst hL1;refine⟨_,jba,?_⟩;simp only[F2,K2,G2,go_sem];refine ja1 kI ?_;simp only[hrA,htk,zq,F2,K2,G2,go_sem];refine And.intro (fun c' hc'=>by rw[zC.1 hc'];rfl) (And.intro (zt _) (And.intro (by omega) ?_));refine jj7 (fun X hX=> ?_);obtain⟨lS,lX⟩:=jgd (v:=(5,(sumT M mv b own more k).map tmC++[tmC (mv*M+k,((c:Int):Rat))])) hsR hLA (X:=X) hX;clear hX;have hl1:(sumT M mv b own more (k+1)).length=(sumT M mv b own more k).length+1:=by rw[hadd,zG];rfl
     have hs1:=jct (A:=X) (n:=(sumT M mv b own more k).length+1) (qk _);simp only[F2,K2,G2,go_sem];refine ja6 ((k+1,X),(hp X,5,(sumT M mv b own more k).map tmC++[tmC (mv*M+k,((c:Int):Rat))])::Abs.del L1 (hp A)) ?_ (SubR.of_eq rfl) rfl (by show M-(k+1)<M-k;omega) ⟨hlt,jad (jbo hR),lS,?_⟩
     ·simp only[h1,hl1,hs1,Int.natCast_add,go_sem]
     ·dsimp only;rw[hadd];exact NEWT.app (ja2 _ _ _) lX
   ·have hskip:=jpd (M:=M) (mv:=mv) (hc▸zJ hc0:coF b own more k=0);simp only[hd,hown,h2,hc0,go_sem];refine ja6 ((k+1,A),R) ?_ (SubR.of_eq rfl) rfl (by show M-(k+1)<M-k;omega) ⟨hlt,hR,hsR,by dsimp only;rw[hskip];exact hbn⟩;simp only[h1,hskip,Int.natCast_add,go_sem]
 ·have hd:decide ((k:Int)<M)=false:=zw (by omega);have hkM:k=M:=by omega
  subst hkM;simp only[hd,go_sem];refine jb7 R hR (SubR.of_eq rfl) ?_;simp only[go_sem];refine⟨A,?_,hR,hsR,hbn⟩;by_cases hn:(sumT k mv b own more k).length=0
  ·rw[jdb hn];unfold rA;rw[zm hn]
  ·rw[jct hn];unfold rA;rw[zn hn]
end
end
end Go.Proofs.YtkcekimolppapaaGreat
namespace Go.LP
section
def cfU(ts:List (Nat×Rat)):Nat->Nat->Rat
 | 0,_=>0
 | i+1,k=>match ts[i]? with
  | some t=>if k=t.1 then t.2 else cfU ts i k
  | none=>cfU ts i k
def ngU(ts:List (Nat×Rat))(f:Nat->Rat):Nat->Nat->Rat
 | 0,k=>f k
 | i+1,k=>match ts[i]? with
  | some t=>if k=t.1 then-t.2 else ngU ts f i k
  | none=>ngU ts f i k
theorem cfU_succ{ts:List (Nat×Rat)}{i k:Nat}{t:Nat×Rat}(h:ts[i]? =some t):cfU ts (i+1) k=if k=t.1 then t.2 else cfU ts i k:=by rw[cfU,h]
theorem ngU_succ{ts:List (Nat×Rat)}{f:Nat->Rat}{i k:Nat}{t:Nat×Rat}(h:ts[i]? =some t):ngU ts f (i+1) k=if k=t.1 then-t.2 else ngU ts f i k:=by rw[ngU,h]
theorem cf_snoc{t:Nat×Rat}{k:Nat}:∀{ts:List (Nat×Rat)},(∀u∈ts,u.1≠t.1)->cf (ts++[t]) k=if k=t.1 then t.2 else cf ts k
 | [],_=>by simp only[List.nil_append,cf]
 | u::ts,h=>by
  rw[List.cons_append,cf,cf,cf_snoc fun v hv=>h v (qq _ hv)];have:=h u (zZ ..);by_cases e:k=u.1
  ·subst e;rw[zm rfl,zn this,zm rfl]
  ·rw[zn e,zn e]
theorem RT.fresh:∀{ts:List (Nat×Rat)} {lo N i:Nat} {t:Nat×Rat},RT ts lo N->ts[i]? =some t->∀u∈ts.take i,u.1≠t.1
 | [],_,_,_,_,_,h,_,_=>by simp at h
 | v::ts,lo,N,0,t,h,ht,u,hu=>by rw[List.take_zero]at hu;cases hu
 | v::ts,lo,N,i+1,t,h,ht,u,hu=>by
  rw[List.getElem?_cons_succ]at ht;rw[List.take_succ_cons]at hu;rcases zP.1 hu with rfl | hu
  ·have:=RT.mem h.2.2.2 t (zk ht);omega
  ·exact RT.fresh h.2.2.2 ht u hu
theorem jtg{ts:List (Nat×Rat)}{lo N k:Nat}(h:RT ts lo N):∀i,i<=ts.length->cfU ts i k=cf (ts.take i) k
 | 0,_=>by rw[List.take_zero];rfl
 | i+1,hi=>by
  have hg:ts[i]? =some ts[i]:=ze (by omega);rw[cfU_succ hg,yL,hg,show(some ts[i]).toList=[ts[i]]from rfl,cf_snoc (h.fresh hg),jtg h i (by omega)]
theorem cfU_all{ts:List (Nat×Rat)}{lo N k:Nat}(h:RT ts lo N):cfU ts ts.length k=cf ts k:=by rw[jtg h _ (zt _),qe]
theorem cf_get:∀{ts:List (Nat×Rat)} {lo N i:Nat} {t:Nat×Rat},RT ts lo N->ts[i]? =some t->cf ts t.1=t.2
 | [],_,_,_,_,_,h=>by simp at h
 | v::ts,lo,N,0,t,h,ht=>by
  rw[List.getElem?_cons_zero]at ht;cases ht;rw[cf,zm rfl]
 | v::ts,lo,N,i+1,t,h,ht=>by
  rw[List.getElem?_cons_succ]at ht;have:=RT.mem h.2.2.2 t (zk ht);rw[cf,zn (by omega)];exact cf_get h.2.2.2 ht
theorem ngU_eq{ts:List (Nat×Rat)}{lo N k:Nat}(h:RT ts lo N){f:Nat->Rat}(hf:∀(i:Nat) (t:Nat×Rat),ts[i]? =some t->f t.1=t.2):∀i,i<=ts.length->ngU ts f i k=f k-2*cfU ts i k
 | 0,_=>by simp only[ngU,cfU];grind
 | i+1,hi=>by
  have hg:ts[i]? =some ts[i]:=ze (by omega);rw[ngU_succ hg,cfU_succ hg,ngU_eq h hf i (by omega)];by_cases e:k=ts[i].1
  ·rw[zm e,zm e,e,hf i _ hg];grind
  ·rw[zn e,zn e]
theorem ngU_zero{ts:List (Nat×Rat)}{lo N k:Nat}(h:RT ts lo N):∀i,i<=ts.length->ngU ts (fun _=>0) i k= -cfU ts i k
 | 0,_=>by simp only[ngU,cfU];grind
 | i+1,hi=>by
  have hg:ts[i]? =some ts[i]:=ze (by omega);rw[ngU_succ hg,cfU_succ hg,ngU_zero h i (by omega)];by_cases e:k=ts[i].1
  ·rw[zm e,zm e]
  ·rw[zn e,zn e]
end
end Go.LP
namespace Go.Proofs.YtkcekimolppapaaGreat
section
open Go.Abs
open Go.LP (Dic Rw RT cf cfU ngU jci)
attribute [local go_sem] ints ic big frac fc rwC tmC lineC
structure OAp(nm:DN)(m:Nat):Prop where
 dr:nm.d≠nm.r
 d_o:nm.d≠nm.o
 ds:nm.d≠nm.s
 rg:nm.r≠nm.g
 ro:nm.r≠nm.o
 rs:nm.r≠nm.s
 go:nm.g≠nm.o
 gs:nm.g≠nm.s
 os:nm.o≠nm.s
 da:∀i,i<m->nm.d≠nm.a i
 ra:∀i,i<m->nm.r≠nm.a i
 ga:∀i,i<m->nm.g≠nm.a i
 oa:∀i,i<m->nm.o≠nm.a i
 sa:∀i,i<m->nm.s≠nm.a i
 aa:∀i j,i<m->j<m->nm.a i=nm.a j->i=j
structure HasO(L:Abs.Rows)(nm:DN)(D:Dic)(src:Nat->Int×Bool):Prop where
 blk:blks L
 dg:nm.d≠nm.g
 ap:D.m≠0->OAp nm D.m
 hd:Abs.look L (hp nm.d)=some (6,[[.int D.n,sl0 nm.r 219 5 D.m,.ref nm.g 35 4 D.n,sl0 nm.o 3 1 D.m,.emp,sl0 nm.s 248 2 D.m]])
 hg:Abs.look L (hp nm.g)=some (4,tab D.n fun j=>qc (D.g j))
 hr:D.m≠0->Abs.look L (hp nm.r)=some (5,tab D.m fun i=>lineC (D.v i) (nm.a i) D.n)
 ho:D.m≠0->Abs.look L (hp nm.o)=some (1,tab D.m fun i=>oc (D.own i))
 hs:D.m≠0->Abs.look L (hp nm.s)=some (2,tab D.m fun i=>srcC (src i))
 ha:∀i,i<D.m->Abs.look L (hp (nm.a i))=some (4,tab D.n fun j=>qc (D.a i j))
structure Kept(L L':Abs.Rows)(nm:DN)(m X1 X2 X3 A:Nat):Prop where
 keep:∀k x,Abs.look L (hp k)=some x->k≠nm.d->(m≠0->k≠nm.o/\k≠nm.r/\k≠nm.s)->Abs.look L' (hp k)=some x/\k≠X1/\k≠X2/\k≠X3/\k≠A
theorem HasO.step{L L':Abs.Rows}{nm:DN}{D:Dic}{src:Nat->Int×Bool}(h:HasO L nm D src){w:Rw}{row:Nat}{turned:Bool}{X1 X2 X3 A:Nat}{f:Nat->Rat}{v:Rat}(bL:blks L')
  (h1:Abs.look L' (hp nm.d)=some (6,[[.int D.n,.ref X2 219 5 (D.m+1),.ref nm.g 35 4 D.n,.ref X1 3 1 (D.m+1),.emp,.ref X3 248 2 (D.m+1)]]))
  (h2:Abs.look L' (hp X1)=some (1,(tab D.m fun i=>oc (D.own i))++[oc (D.n+D.m)]))
  (h3:Abs.look L' (hp X2)=some (5,(tab D.m fun i=>lineC (D.v i) (nm.a i) D.n)++[lineC v A D.n]))
  (h4:Abs.look L' (hp X3)=some (2,(tab D.m fun i=>srcC (src i))++[srcC (row,turned)]))
  (h5:Abs.look L' (hp A)=some (4,tab D.n fun j=>qc (f j))) (hk:Kept L L' nm D.m X1 X2 X3 A)
  (d1:nm.d≠X1) (d2:nm.d≠X2) (d3:nm.d≠X3) (d4:nm.d≠A) (x12:X1≠X2) (x13:X1≠X3) (x14:X1≠A) (x23:X2≠X3) (x24:X2≠A) (x34:X3≠A)
  (hv:v=if turned=true then-w.val else w.val) (hf:∀k,f k=if turned=true then-cf w.ts k else cf w.ts k):
  ∃nm':DN,nm'.d=nm.d/\HasO L' nm' (D.put w turned) (jci D src row turned):=by
 have kg:=hk.keep nm.g _ h.hg (zK h.dg) fun hm=>⟨(h.ap hm).go,zK (h.ap hm).rg,(h.ap hm).gs⟩;have ka:=fun i (hi:i<D.m)=>hk.keep (nm.a i) _ (h.ha i hi) (zK ((h.ap (by omega)).da i hi)) fun hm=>⟨zK ((h.ap hm).oa i hi),zK ((h.ap hm).ra i hi),zK ((h.ap hm).sa i hi)⟩;have hm1:(D.put w turned).m≠0:=qk _;have ai:∀i,i<D.m+1->i≠D.m->i<D.m:=fun i h1 h2=>by omega
 refine⟨⟨nm.d,X2,nm.g,X1,nm.f,X3,fun i=>if i=D.m then A else nm.a i⟩,rfl,bL,h.dg,fun _=> ?_,?_,?_,fun _=> ?_,fun _=> ?_,fun _=> ?_,fun i hi=> ?_⟩
 ·refine⟨d2,d1,d3,zK kg.2.2.1,zK x12,x23,kg.2.1,kg.2.2.2.1,x13,?_,?_,?_,?_,?_,?_⟩
  ·intro i hi;dsimp only;split
   ·exact d4
   ·rename_i e;exact(h.ap (by have:=ai i hi e;omega)).da i (ai i hi e)
  ·intro i hi;dsimp only;split
   ·exact x24
   ·rename_i e;exact zK (ka i (ai i hi e)).2.2.1
  ·intro i hi;dsimp only;split
   ·exact kg.2.2.2.2
   ·rename_i e;exact(h.ap (by have:=ai i hi e;omega)).ga i (ai i hi e)
  ·intro i hi;dsimp only;split
   ·exact x14
   ·rename_i e;exact zK (ka i (ai i hi e)).2.1
  ·intro i hi;dsimp only;split
   ·exact x34
   ·rename_i e;exact zK (ka i (ai i hi e)).2.2.2.1
  ·intro i j hi hj e;dsimp only at e;by_cases e1:i=D.m
   ·rw[zm e1]at e;by_cases e2:j=D.m
    ·omega
    ·rw[zn e2]at e;exact absurd e.symm (ka j (ai j hj e2)).2.2.2.2
   ·rw[zn e1]at e;by_cases e2:j=D.m
    ·rw[zm e2]at e;exact absurd e (ka i (ai i hi e1)).2.2.2.2
    ·rw[zn e2]at e;exact(h.ap (by have:=ai i hi e1;omega)).aa i j (ai i hi e1) (ai j hj e2) e
 ·rw[h1,jak hm1,jak hm1,jak hm1];rfl
 ·exact kg.1
 ·rw[h3];show some (5,_)=some (5,tab (D.m+1) _);rw[jhp];congr 3
  ·refine jar fun i hi=> ?_;rw[show(D.put w turned).v i=D.v i from zn (by omega)];show _=lineC (D.v i) (if i=D.m then A else nm.a i) D.n;rw[zn (by omega)]
  ·rw[show(D.put w turned).v D.m=_ from zm rfl,hv];show _=[lineC _ (if D.m=D.m then A else nm.a D.m) D.n];rw[zm rfl]
 ·rw[h2];show some (1,_)=some (1,tab (D.m+1) _);rw[jhp];congr 3
  ·refine jar fun i hi=> ?_;rw[show(D.put w turned).own i=D.own i from zn (by omega)]
  ·rw[show(D.put w turned).own D.m=_ from zm rfl]
 ·rw[h4];show some (2,_)=some (2,tab (D.m+1) _);rw[jhp];congr 3
  ·refine jar fun i hi=> ?_;rw[show jci D src row turned i=src i from zn (by omega)]
  ·rw[show jci D src row turned D.m=_ from zm rfl]
 ·dsimp only;by_cases e:i=D.m
  ·rw[zm e,h5,show(D.put w turned).a i=_ from zm e];show some (4,tab D.n _)=some (4,tab D.n _);congr 2;refine jar fun j _=>qx qc ?_;rw[hf]
  ·rw[zn e,(ka i (ai i hi e)).1,show(D.put w turned).a i=D.a i from zn e];rfl
theorem jaz{L:Abs.Rows}{k:Nat}{v:Nat×List (List IV)}(h:Abs.look L k=some v):SubR [(k,v)] L:=fun j x hj=>by
 by_cases e:j=k
 ·subst e;rw[ja2]at hj;cases hj;exact h
 ·rw[ja0 _ _ e]at hj;cases hj
theorem jb9{L R:Abs.Rows}{d:Nat}{v:Nat×List (List IV)}(h:Abs.look R d=some v)(hs:SubR L R):SubR ((d,v)::L) R:=fun k x hk=>by
 by_cases e:k=d
 ·subst e;rw[ja2]at hk;cases hk;exact h
 ·rw[ja0 _ _ e]at hk;exact hs k x hk
theorem jnj{L:Abs.Rows}{k d:Nat}{v v':Nat×List (List IV)}(hd:d<100000)(hs:SubR [(hp k,v)] L):SubR [(hp k,v)] ((d,v')::L):=
 jav (by dsimp only;rw[ja0 _ _ (hp_ne hd)];rfl) hs
theorem jaf{L:Abs.Rows}{k d:Nat}{v:Nat×List (List IV)}(h:d≠k):Abs.del ((d,v)::L) k=(d,v)::Abs.del L k:=by
 unfold Abs.del;rw[ym,zm (by simpa using h)]
theorem joc{α:Type}{p:Prop}(x:α)(h:∀y,x=y->p):p:=h x rfl
end
section
open Go.Abs
open Go.LP (Rw RT tsum)
attribute [local go_sem] ints ic big frac fc rwC tmC Evid.c Place.c Move.c Cert.c Recall.c Purity.c
section
variable{L:Abs.Rows}{nm:MN}{e:Evid}{ws:List Rw}{os:List (List IV)}
theorem HasM.grow{L':Abs.Rows}(h:HasM L nm e ws os){w:Rw}{og:List IV}{X1 X2:Nat}(ho:og.length=4)(hog:OgOk e w og)(b:blks L')(d1:nm.d≠X1)(d2:nm.d≠X2)(x12:X1≠X2)
  (hd:Abs.look L' (hp nm.d)=some (10,[e.c++[.ref X1 211 6 (ws.length+1),.ref X2 103 4 (ws.length+1)]]))
  (h1:Abs.look L' (hp X1)=some (6,ws.map rwC++[rwC w])) (h2:Abs.look L' (hp X2)=some (4,os++[og])):∃nm':MN,nm'.d=nm.d/\HasM L' nm' e (ws++[w]) (os++[og]):=by
 have hl:(ws++[w]).length=ws.length+1:=by rw[zG];rfl
 refine⟨⟨nm.d,X1,X2⟩,rfl,b,fun _=>d1,fun _=>d2,fun _=>x12,?_,?_,?_,?_,fun _=> ?_,fun _=>h2⟩
 ·rw[zG,zG,h.len];rfl
 ·intro c hc;rcases qj.1 hc with hc | hc
  ·exact h.o4 c hc
  ·rw[zC.1 hc];exact ho
 ·intro i w' c' g1 g2;rcases zU i ws.length with hlt | hge
  ·rw[zM hlt]at g1;rw[zM (by rw[h.len];exact hlt)]at g2;exact h.og i w' c' g1 g2
  ·rw[zL hge]at g1;rw[zL (by rw[h.len];exact hge),h.len]at g2;cases hi:i-ws.length with
   | zero=>rw[hi]at g1 g2;cases g1;cases g2;exact hog
   | succ n=>rw[hi]at g1;simp at g1
 ·rw[hl,jak (qk _),jak (qk _)];exact hd
 ·rw[h1,qf];rfl
theorem e_add(h:HasM L nm e ws os)(w:Rw)(a b c d:Int)(hl:ws.length<=10000)(hog:OgOk e w [.int a,.int b,.int c,.int d]):
  CtrH G.P 146 [.loc (hp nm.d) 10 0 0,.im (.sl (w.ts.map tmC)),.im (.int w.kind),.im (frac w.val),.im (.agg [.int a,.int b,.int c,.int d])] L
   (fun x L'=>x= .im (.tup [])/\∃nm':MN,nm'.d=nm.d/\HasM L' nm' e (ws++[w]) (os++[[.int a,.int b,.int c,.int d]])):=by
 have hb:=h.blk;have F1:=bF hb;have K1:=bK hb;have G1:=bN hb;have c0:=h.hd;have b8:∀k,(8 !=hp k)=true:=fun k=>by simp only[z7,ne_eq];exact hp_ne (by decide)
 have b9:∀k,(9 !=hp k)=true:=fun k=>by simp only[z7,ne_eq];exact hp_ne (by decide)
 by_cases hn:ws.length=0
 ·have hos:os=[]:=zO (by rw[h.len];exact hn);have hws:ws=[]:=zO hn;subst hos hws;have hz:([]:List Rw).length=0:=rfl;rw[hz,jb8,jb8]at c0;refine jao [20,30] [] [] Tryz.func146 ?_;simp only[F1,K1,G1,go_sem];refine jcm [false,false,false,false,false,false,false,false,false,false,true,false,false] [(9,4,[[.int a,.int b,.int c,.int d]]),(8,4,[fc w.val]),(hp nm.d,10,[e.c++[.emp,.emp]])] (by decide+kernel) (jay _ (jay _ (jaz c0))) ?_;simp only[c0,F1,K1,G1,go_sem];refine And.intro (fun c hc=>by rw[zC.1 hc];rfl) ?_;refine jez (fun X1 hX1=> ?_);have lX1:Abs.look L (hp X1)=none:=by
   rw[ja0 _ _ (hp_ne (by decide)).symm,ja0 _ _ (hp_ne (by decide)).symm]at hX1;exact hX1
  clear hX1;have xd:¬X1=nm.d:=fun e=>by rw[e,c0]at lX1;cases lX1
  refine And.intro ?_ ?_
  ·refine jav ?_ (jay _ (jay _ (jaz c0)));dsimp only;rw[ja0 _ _ (hp_ne (by decide)).symm,ja0 _ _ (hp_ne (by decide)).symm,ja0 _ _ (hpne xd)];rfl
  simp only[c0,xd,zK xd,F1,K1,G1,go_sem];refine joc (List.map (fun p=>if p.1=hp nm.d then(p.1,10,[e.c++[.ref X1 211 6 1,.emp]])else p) L) (fun Q2 hQ2e=> ?_);have e1:=hQ2e;simp only[Evid.c,List.cons_append,List.nil_append]at e1;simp only[e1,go_sem];have lQ2:∀k,k≠hp nm.d->Abs.look Q2 k=Abs.look L k:=fun k hk=>by rw[<-hQ2e];exact jas hk
  have dQ2:Abs.look Q2 (hp nm.d)=some (10,[e.c++[.ref X1 211 6 1,.emp]]):=by rw[<-hQ2e];exact jah c0
  have bQ2:blks Q2:=hQ2e▸jbd hb;have F3:=bF bQ2;have K3:=bK bQ2;have G3:=bN bQ2;refine jcm [false,false,false,false,false,false,false,true,false,false] [(9,4,[[.int a,.int b,.int c,.int d]]),(hp nm.d,10,[e.c++[.ref X1 211 6 1,.emp]])] (by decide+kernel) ?_ ?_
  ·refine jb9 ?_ (jaz ?_)
   ·dsimp only;rw[ja0 _ _ (hp_ne (by decide)),ja2]
   ·dsimp only;rw[ja0 _ _ (hpne (zK xd)),ja0 _ _ (hp_ne (by decide)).symm,ja0 _ _ (hp_ne (by decide)).symm];exact dQ2
  simp only[dQ2,xd,zK xd,F3,K3,G3,go_sem];refine And.intro (fun c hc=>by rw[zC.1 hc];rfl) ?_;refine jez (fun X2 hX2=> ?_);have lX2:¬X2=X1/\Abs.look Q2 (hp X2)=none:=by
   have e1:¬X2=X1:=fun e=>by rw[e,ja2]at hX2;cases hX2
   rw[ja0 _ _ (hpne e1),ja0 _ _ (hp_ne (by decide)).symm,ja0 _ _ (hp_ne (by decide)).symm]at hX2;exact⟨e1,hX2⟩
  clear hX2;obtain⟨x21,lX2⟩:=lX2;have yd:¬X2=nm.d:=fun e=>by rw[e,dQ2]at lX2;cases lX2
  refine And.intro ?_ ?_
  ·refine jb9 ?_ (jaz ?_)
   ·rw[ja0 _ _ (hp_ne (by decide)),ja0 _ _ (hp_ne (by decide)),ja2]
   ·rw[ja0 _ _ (hpne (zK yd)),ja0 _ _ (hpne (zK xd)),ja0 _ _ (hp_ne (by decide)).symm,ja0 _ _ (hp_ne (by decide)).symm];exact dQ2
  simp only[dQ2,x21,zK x21,xd,zK xd,yd,zK yd,F3,K3,G3,go_sem];refine jbh ?_;simp only[go_sem];refine h.grow (X1:=X1) (X2:=X2) rfl hog jem (zK xd) (zK yd) (zK x21) ?_ ?_ ?_
  ·rw[jb0,ja0 _ _ (hpne (zK yd)),ja0 _ _ (hpne (zK xd)),ja0 _ _ (hp_ne (by decide)).symm,ja0 _ _ (hp_ne (by decide)).symm];exact jah dQ2
  ·rw[jb0,ja0 _ _ (hpne (zK x21)),ja2];rfl
  ·rw[jb0,ja2];rfl
 ·rw[jak hn,jak hn]at c0;have dr:=h.dr hn;have d_o:=h.d_o hn;have ro:=h.ro hn;have cr:=h.hr hn;have co:=h.ho hn;have hol:os.length=ws.length:=h.len;have htk:List.take ws.length (ws.map rwC)=ws.map rwC:=zu (by rw[zq];exact zt _);have hto:List.take ws.length os=os:=zu (by omega);obtain⟨Q,hQe⟩:∃Q,Abs.del L (hp nm.r)=Q:=⟨_,rfl⟩;have lQ:∀k,k≠hp nm.r->Abs.look Q k=Abs.look L k:=fun k hk=>by rw[<-hQe];exact ja8 _ hk
  have bQ:blks Q:=hQe▸jbo hb;have hQf:List.filter (fun p=>p.1 !=hp nm.r) L=Q:=hQe;have cdQ:=(lQ _ (hpne dr)).trans c0;have coQ:=(lQ _ (hpne (zK ro))).trans co;have F2:=bF bQ;have K2:=bK bQ;have G2:=bN bQ;refine jao [20,30] [] [] Tryz.func146 ?_;simp only[F1,K1,G1,go_sem];refine jcm [false,false,false,false,false,false,false,false,false,false,true,false,false] [(9,4,[[.int a,.int b,.int c,.int d]]),(8,4,[fc w.val]),(hp nm.d,10,[e.c++[.ref nm.r 211 6 ws.length,.ref nm.o 103 4 ws.length]])] (by decide+kernel) (jay _ (jay _ (jaz c0))) ?_;simp only[c0,cr,htk,zq,F1,K1,G1,go_sem];refine And.intro (fun c hc=>by rw[zC.1 hc];rfl) (And.intro (zt _) (And.intro (by omega) ?_));refine je6 (fun X1 hX1=> ?_);have lX1:Abs.look Q (hp X1)=none:=by
   rw[jaf (hp_ne (by decide)),jaf (hp_ne (by decide)),ja0 _ _ (hp_ne (by decide)).symm,ja0 _ _ (hp_ne (by decide)).symm,hQe]at hX1;exact hX1
  clear hX1;have xd:¬X1=nm.d:=fun e=>by rw[e,cdQ]at lX1;cases lX1
  have xo:¬X1=nm.o:=fun e=>by rw[e,coQ]at lX1;cases lX1
  refine And.intro ?_ ?_
  ·rw[jaf (hp_ne (by decide)),jaf (hp_ne (by decide)),hQe];refine jav ?_ (jay _ (jay _ (jaz cdQ)));dsimp only;rw[ja0 _ _ (hp_ne (by decide)).symm,ja0 _ _ (hp_ne (by decide)).symm,ja0 _ _ (hpne xd)];rfl
  simp only[cdQ,b8,b9,hQf,xd,zK xd,dr,zK dr,F2,K2,G2,go_sem];refine joc (List.map (fun p=>if p.1=hp nm.d then(p.1,10,[e.c++[.ref X1 211 6 (ws.length+1),.ref nm.o 103 4 ws.length]])else p) Q) (fun Q2 hQ2e=> ?_);have e1:=hQ2e;simp only[Evid.c,List.cons_append,List.nil_append]at e1;simp only[e1,go_sem];have lQ2:∀k,k≠hp nm.d->Abs.look Q2 k=Abs.look Q k:=fun k hk=>by rw[<-hQ2e];exact jas hk
  have dQ2:Abs.look Q2 (hp nm.d)=some (10,[e.c++[.ref X1 211 6 (ws.length+1),.ref nm.o 103 4 ws.length]]):=by rw[<-hQ2e];exact jah cdQ
  have bQ2:blks Q2:=hQ2e▸jbd bQ;have oQ2:=(lQ2 _ (hpne (zK d_o))).trans coQ;have xQ2:Abs.look Q2 (hp X1)=none:=by rw[lQ2 _ (hpne xd)];exact lX1
  have F3:=bF bQ2;have K3:=bK bQ2;have G3:=bN bQ2;obtain⟨Q3,hQ3e⟩:∃Q3,Abs.del Q2 (hp nm.o)=Q3:=⟨_,rfl⟩;have lQ3:∀k,k≠hp nm.o->Abs.look Q3 k=Abs.look Q2 k:=fun k hk=>by rw[<-hQ3e];exact ja8 _ hk
  have bQ3:blks Q3:=hQ3e▸jbo bQ2;have hQ3f:List.filter (fun p=>p.1 !=hp nm.o) Q2=Q3:=hQ3e;have d3:=(lQ3 _ (hpne d_o)).trans dQ2;have F4:=bF bQ3;have K4:=bK bQ3;have G4:=bN bQ3;refine jcm [false,false,false,false,false,false,false,true,false,false] [(9,4,[[.int a,.int b,.int c,.int d]]),(hp nm.d,10,[e.c++[.ref X1 211 6 (ws.length+1),.ref nm.o 103 4 ws.length]])] (by decide+kernel) ?_ ?_
  ·refine jb9 ?_ (jaz ?_)
   ·dsimp only;rw[ja0 _ _ (hp_ne (by decide)),ja2]
   ·dsimp only;rw[ja0 _ _ (hpne (zK xd)),ja0 _ _ (hp_ne (by decide)).symm,ja0 _ _ (hp_ne (by decide)).symm];exact dQ2
  simp only[dQ2,oQ2,hol,hto,xd,zK xd,xo,zK xo,F3,K3,G3,go_sem];refine And.intro (fun c hc=>by rw[zC.1 hc];rfl) (And.intro (by omega) (And.intro (by omega) ?_));refine je6 (fun X2 hX2=> ?_);have lX2:¬X2=X1/\Abs.look Q3 (hp X2)=none:=by
   rw[jaf (hpne xo),jaf (hp_ne (by decide)),jaf (hp_ne (by decide)),hQ3e]at hX2;have e1:¬X2=X1:=fun e=>by rw[e,ja2]at hX2;cases hX2
   rw[ja0 _ _ (hpne e1),ja0 _ _ (hp_ne (by decide)).symm,ja0 _ _ (hp_ne (by decide)).symm]at hX2;exact⟨e1,hX2⟩
  clear hX2;obtain⟨x21,lX2⟩:=lX2;have yd:¬X2=nm.d:=fun e=>by rw[e,d3]at lX2;cases lX2
  refine And.intro ?_ ?_
  ·rw[jaf (hpne xo),jaf (hp_ne (by decide)),jaf (hp_ne (by decide)),hQ3e];refine jb9 ?_ (jaz ?_)
   ·rw[ja0 _ _ (hp_ne (by decide)),ja0 _ _ (hp_ne (by decide)),ja2]
   ·rw[ja0 _ _ (hpne (zK yd)),ja0 _ _ (hpne (zK xd)),ja0 _ _ (hp_ne (by decide)).symm,ja0 _ _ (hp_ne (by decide)).symm];exact d3
  have bn1:(hp X1 !=hp nm.o)=true:=by simp only[z7,ne_eq];exact hpne xo
  simp only[d3,x21,zK x21,xd,zK xd,yd,zK yd,xo,bn1,b8,b9,hQ3f,F4,K4,G4,go_sem];refine jbh ?_;simp only[go_sem];refine h.grow (X1:=X1) (X2:=X2) rfl hog jem (zK xd) (zK yd) (zK x21) ?_ ?_ ?_
  ·rw[jb0,ja0 _ _ (hpne (zK yd)),ja0 _ _ (hpne (zK xd)),ja0 _ _ (hp_ne (by decide)).symm,ja0 _ _ (hp_ne (by decide)).symm];exact jah d3
  ·rw[jb0,ja0 _ _ (hpne (zK x21)),ja2];rfl
  ·rw[jb0,ja2]
