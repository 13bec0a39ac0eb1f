/- A part of the proof. No further condition. -/
import Derived.Test.YtkcekimolppapaaGreatKC19
set_option linter.all false
set_option maxRecDepth 10000000
set_option maxHeartbeats 16000000
namespace Go.Proofs.YtkcekimolppapaaGreat
section
open Go.Abs
open Go.LP (Dic find)
attribute [local go_sem] ints ic big frac fc
theorem jc4{R L0:Abs.Rows}{b s:Nat}{es:List (List IV)}(h:Abs.look L0 (hp b)=some (s,es)):jf6 R [] L0 ((hp b,s,es)::R):=fun k x hk=>by
 by_cases e:k=hp b
 ·subst e;rw[ja2]at hk;rw[h,hk];exact .inl rfl
 ·rw[ja0 _ _ e]at hk;exact .inr ⟨rfl,hk⟩
theorem jh0{L M:Abs.Rows}{b s:Nat}{es:List (List IV)}(hL:Abs.look L (hp b)=none)(h:SubR L M):SubR L (M.map (fun p=>if p.1=hp b then(p.1,s,es)else p)):=fun k x hk=>by
 rw[jai (fun e=>by subst e;rw[hL]at hk;cases hk)];exact h k x hk
def ptU(D:Dic)(i k:Nat):Rat:=match find D.own k i with
 | some i'=>D.v i'
 | none=>0
theorem jpz{D:Dic}{i k:Nat}:ptU D (i+1) k=if D.own i=k then D.v i else ptU D i k:=by
 unfold ptU;rw[LP.find];split
 ·rename_i h;split at h
  ·rename_i e;cases h;rw[zm e]
  ·rename_i e;rw[zn e,h]
 ·rename_i h;split at h
  ·cases h
  ·rename_i e;rw[zn e,h]
section
variable{L:Abs.Rows}{nm:DN}{N:Nat}{D:Dic}{src:Nat->Int×Bool}
theorem x_point(h:HasD L nm N D src)(hN:N<=100000)(hm:D.m<=100000)(ho:∀i,i<D.m->D.own i<=1000000):
  CtrH G.P 112 [.loc (hp nm.d) 6 0 0] L (fun x L'=>∃b,x= .im (.ref b 35 4 N)/\blks L'/\SubR L L'/\Abs.look L (hp b)=none/\Abs.look L' (hp b)=some (4,tab N fun k=>qc (D.pt k))):=by
 have hb:=h.blk;have F1:=bF hb;have K1:=bK hb;have G1:=bN hb;have c0:=h.hd;have kz:=jic N hN;by_cases hm0:D.m=0
 ·rw[hm0,jb8,jb8,jb8]at c0;refine jav [] [] [.tmp 2] Tryz.func112 ?_;simp only[c0,F1,K1,G1,go_sem];refine jcv kz (by decide) rfl jby jc6 ?_;rintro _ L0 ⟨b,rfl,hb0,hb1,hb2⟩ hfr;have hnew:=(hfr (hp b) (by rw[hb1];rfl)).resolve_left (by simp[Abs.look]);refine⟨(hp b,4,tab N fun _=>qc 0)::L,?_,?_⟩
  ·simp only[c0,F1,K1,G1,go_sem];exact jc4 hb1
  have hLb:Abs.look L (hp b)=none:=by
   revert hnew;simp only[c0,F1,K1,G1,go_sem];exact fun h=>h
  clear hnew hfr kz;have hbM:blks ((hp b,4,tab N fun _=>qc 0)::L):=jaq hb;have F2:=fun(d:Nat) (h:d<100000)=>jdx (L:=(hp b,4,tab N fun _=>qc 0)::L) (d:=d) hbM h;have ndb:¬nm.d=b:=fun e=>by rw[e,hLb]at c0;cases c0
  simp only[c0,ndb,F1,K1,G1,go_sem];refine jay [3,15,16] (fun g:Unit=>⟨[(3,.im (.ref b 35 4 N)),(15,.im (.int 0)),(16,.im (.int 0))],(hp b,4,tab N fun _=>qc 0)::L,[]⟩) (fun _=>True) (fun _=>0) () ?_ (SubR.of_eq rfl) rfl trivial ?_
  ·simp only[go_sem]
  intro _ _;have hpt:(tab N fun k=>qc (D.pt k))=tab N fun _=>qc 0:=jam fun k _=>by
   rw[show D.pt k=ptU D D.m k from rfl,hm0];rfl
  simp only[go_sem];refine jbe _ hbM (SubR.of_eq rfl) ?_;rw[hpt];simp only[go_sem];exact⟨b,rfl,hbM,jao hLb (SubR.of_eq rfl),hLb,zm rfl⟩
 ·rw[jaj hm0,jaj hm0,jaj hm0]at c0;have c1:=h.ho hm0;have c2:=h.hr hm0;refine jav [] [] [.tmp 2] Tryz.func112 ?_;simp only[c0,F1,K1,G1,go_sem];refine jcv kz (by decide) rfl jby jc6 ?_;rintro _ L0 ⟨b,rfl,hb0,hb1,hb2⟩ hfr;have hnew:=(hfr (hp b) (by rw[hb1];rfl)).resolve_left (by simp[Abs.look]);refine⟨(hp b,4,tab N fun _=>qc 0)::L,?_,?_⟩
  ·simp only[c0,F1,K1,G1,go_sem];exact jc4 hb1
  have hLb:Abs.look L (hp b)=none:=by
   revert hnew;simp only[c0,F1,K1,G1,go_sem];exact fun h=>h
  clear hnew hfr kz;have hbM:blks ((hp b,4,tab N fun _=>qc 0)::L):=jaq hb;have ndb:¬nm.d=b:=fun e=>by rw[e,hLb]at c0;cases c0
  simp only[c0,ndb,F1,K1,G1,go_sem];refine jay [0,3,14,15,16] (fun g:Nat×Abs.Rows=>⟨[(0,.loc (hp nm.d) 6 0 0),(3,.im (.ref b 35 4 N)),(14,.im (.ref nm.o 3 1 D.m)),(15,.im (.int D.m)),(16,.im (.int g.1))],g.2,[]⟩)
   (fun g=>g.1<=D.m/\blks g.2/\SubR L g.2/\Abs.look g.2 (hp b)=some (4,tab N fun k=>qc (ptU D g.1 k))) (fun g=>D.m-g.1) (0,(hp b,4,tab N fun _=>qc 0)::L) ?_ (SubR.of_eq rfl) rfl
   ⟨zH _,hbM,jao hLb (SubR.of_eq rfl),ja2 _ _ _⟩ ?_
  ·simp only[Int.natCast_zero,go_sem]
  rintro⟨i,M⟩ ⟨hi,hM,hs,hl⟩;dsimp only at hi hM hs hl;have F2:=bF hM;have K2:=bK hM;have G2:=bN hM;have d0:=hs _ _ c0;have d1:=hs _ _ c1;have d2:=hs _ _ c2;by_cases hlt:i<D.m
  ·have hd:decide ((i:Int)<D.m)=true:=zh (by omega);have him:(i:Int)<D.m:=by omega
   have hi0:(0:Int)<=i:=by omega
   have w1:=ja8 (n:=(i:Int)+1) (by omega);have og:=oget (o:=D.own) hlt;have rg:=lget (v:=D.v) (A:=nm.a) (n:=D.n) hlt;by_cases hv:D.own i<N
   ·have hd2:decide ((D.own i:Int)<N)=true:=zh (by omega);have hvN:(D.own i:Int)<N:=by omega
    have hv0:(0:Int)<=D.own i:=by omega
    have hq:=qget (f:=ptU D i) hv;simp only[hd,hd2,d0,d1,d2,og,rg,hl,hq,hvN,hv0,him,hi0,ja9,Int.toNat_natCast,F2,K2,G2,go_sem];refine jaa (i+1,M.map (fun p=>if p.1=hp b then(p.1,4,(tab N fun k=>qc (ptU D i k)).set (D.own i) (fc (D.v i)))else p)) ?_ (SubR.of_eq rfl) rfl (by show D.m-(i+1)<D.m-i;omega) ⟨hlt,jb5 hM,jh0 hLb hs,(jad hl).trans ?_⟩
    ·simp only[w1,Int.natCast_add,go_sem]
    ·rw[qset];congr 2;refine jam fun k hk=>qa qc ?_;rw[jpz];by_cases e:k=D.own i
     ·rw[zm e,zm e.symm]
     ·rw[zn e,zn fun h=>e h.symm]
   ·have hd2:decide ((D.own i:Int)<N)=false:=zw (by omega);simp only[hd,hd2,d0,d1,d2,og,rg,him,hi0,ja9,Int.toNat_natCast,F2,K2,G2,go_sem];refine jaa (i+1,M) ?_ (SubR.of_eq rfl) rfl (by show D.m-(i+1)<D.m-i;omega) ⟨hlt,hM,hs,hl.trans ?_⟩
    ·simp only[w1,Int.natCast_add,go_sem]
    ·congr 2;refine jam fun k hk=>qa qc ?_;rw[jpz,zn (by omega)]
  ·have hd:decide ((i:Int)<D.m)=false:=zw (by omega);have him:i=D.m:=by omega
   subst him;simp only[hd,go_sem];refine jbe M hM (SubR.of_eq rfl) ?_;simp only[go_sem];exact⟨b,rfl,hM,hs,hLb,hl⟩
end
end
section
open Go.Abs
open Go.LP (Dic find)
attribute [local go_sem] ints ic big frac fc
section
variable{L:Abs.Rows}{nm:DN}{N:Nat}{D:Dic}{src:Nat->Int×Bool}
def chU(turned:Bool)(y:Nat->Rat)(r:Nat)(price:Rat)(k:Nat):Rat:=if k=r then y k+(if turned then price else-price)else y k
theorem jjf(h:HasD L nm N D src){i r R Y:Nat}(hi:i<D.m)(hsr:(src i).1=(r:Int))(hr:r<R)(y:Nat->Rat)(hY:Abs.look L (hp Y)=some (4,tab R fun k=>qc (y k)))(price:Rat)(hR:R<=100000)(hm:D.m<=100000)(ky:FL 18000000000 (y r))(kp:FL 100000000 price):
  CtrH G.P 160 [.loc (hp nm.d) 6 0 0,.im (.ref Y 35 4 R),.im (.int i),.im (frac price)] L
   (fun x L'=>x= .im (.tup [])/\blks L'/\Abs.look L' (hp Y)=some (4,tab R fun k=>qc (chU (src i).2 y r price k))/\∀k,k≠hp Y->Abs.look L' k=Abs.look L k):=by
 have hb:=h.blk;have F1:=bF hb;have K1:=bK hb;have G1:=bN hb;have hm0:D.m≠0:=by omega
 have c0:=h.hd;rw[jaj hm0,jaj hm0,jaj hm0]at c0;have c1:=h.hs hm0;have hi':(i:Int)<D.m:=by omega
 have hi0:(0:Int)<=i:=by omega
 have hr':(r:Int)<R:=by omega
 have hr0:(0:Int)<=r:=by omega
 have sg:=sget (o:=src) hi;rw[hsr]at sg;have yg:=qget (f:=y) hr;have kn:=f_neg (kp.mono (by omega:100000000<=19000000000));rcases ht:(src i).2 with _ | _
 ·rw[ht]at sg;have ka:=f_add (ky.mono (by omega:18000000000<=19000000000)) ((jlc kp).mono (by omega:100000000<=19000000000));generalize hx:y r+ -price=x at*;generalize hnp: -price=np at*;obtain⟨L',hL',hb',hl',ho'⟩:∃L',L'=L.map (fun p=>if p.1=hp Y then(p.1,4,(tab R fun k=>qc (y k)).set r (fc x))else p)/\blks L'/\Abs.look L' (hp Y)=some (4,tab R fun k=>qc (chU false y r price k))/\∀k,k≠hp Y->Abs.look L' k=Abs.look L k:=by
   refine⟨_,rfl,jb5 hb,(jad hY).trans ?_,fun k hk=>jai hk⟩;rw[qset];congr 2;refine jam fun k hk=>qa qc ?_;unfold chU;by_cases e:k=r
   ·rw[zm e,zm e,e,zn yS,hnp,hx]
   ·rw[zn e,zn e]
  simp only[frac,ints]at kn ka;refine jav [] [] [] Tryz.func160 ?_;unfold frac;simp only[c0,c1,sg,hi',hi0,ja9,Int.toNat_natCast,F1,K1,G1,go_sem];refine ja1 kn ?_;simp only[c0,c1,sg,hi',hi0,ja9,Int.toNat_natCast,F1,K1,G1,go_sem];refine jap ?_;simp only[c0,c1,sg,hY,yg,hi',hi0,hr',hr0,ja9,Int.toNat_natCast,F1,K1,G1,go_sem];refine ja4 ka (by decide) ?_;simp only[c0,c1,sg,hY,yg,hi',hi0,hr',hr0,ja9,Int.toNat_natCast,F1,K1,G1,go_sem];refine jbe L' hb' (ja3 (by decide) hb' (ja3 (by decide) hb' (SubR.of_eq hL'))) ?_;simp only[go_sem];exact⟨hb',hl',ho'⟩
 ·rw[ht]at sg;have ka:=f_add (ky.mono (by omega:18000000000<=19000000000)) (kp.mono (by omega:100000000<=19000000000));generalize hx:y r+price=x at*;obtain⟨L',hL',hb',hl',ho'⟩:∃L',L'=L.map (fun p=>if p.1=hp Y then(p.1,4,(tab R fun k=>qc (y k)).set r (fc x))else p)/\blks L'/\Abs.look L' (hp Y)=some (4,tab R fun k=>qc (chU true y r price k))/\∀k,k≠hp Y->Abs.look L' k=Abs.look L k:=by
   refine⟨_,rfl,jb5 hb,(jad hY).trans ?_,fun k hk=>jai hk⟩;rw[qset];congr 2;refine jam fun k hk=>qa qc ?_;unfold chU;by_cases e:k=r
   ·rw[zm e,zm e,e,zm rfl,hx]
   ·rw[zn e,zn e]
  simp only[frac,ints]at ka;refine jav [] [] [] Tryz.func160 ?_;unfold frac;simp only[c0,c1,sg,hi',hi0,ja9,Int.toNat_natCast,F1,K1,G1,go_sem];refine jap ?_;simp only[c0,c1,sg,hY,yg,hi',hi0,hr',hr0,ja9,Int.toNat_natCast,F1,K1,G1,go_sem];refine ja4 ka (by decide) ?_;simp only[c0,c1,sg,hY,yg,hi',hi0,hr',hr0,ja9,Int.toNat_natCast,F1,K1,G1,go_sem];refine jbe L' hb' (ja3 (by decide) hb' (ja3 (by decide) hb' (SubR.of_eq hL'))) ?_;simp only[go_sem];exact⟨hb',hl',ho'⟩
end
end
section
open Go.Abs
open Go.LP (Dic find)
attribute [local go_sem] ints ic big frac fc
theorem jas(b s i j:Nat):AV.toH (.loc (hp b) s i j)= .loc (hp b) s i j:=by simp only[AV.toH,hp_ge,qt]
def prU(D:Dic)(N:Nat)(src:Nat->Int×Bool)(y0:Nat->Rat)(pr:Nat->Rat):Nat->Nat->Rat
 | 0=>y0
 | j+1=>if D.free j<N then prU D N src y0 pr j else chU (src (D.free j-N)).2 (prU D N src y0 pr j) (src (D.free j-N)).1.toNat (pr j)
theorem FL_chU{t:Bool}{y:Nat->Rat}{r:Nat}{p:Rat}{k c:Nat}(hy:FL c (y k))(hp:FL 100000000 p):FL (c+100000001) (chU t y r p k):=by
 unfold chU;split
 ·cases t
  ·exact(jje hy (jlc hp)).mono (by omega)
  ·exact(jje hy hp).mono (by omega)
 ·exact hy.mono (by omega)
theorem jr8{D:Dic}{N:Nat}{src:Nat->Int×Bool}{y0 pr:Nat->Rat}{c:Nat}(h0:∀k,FL c (y0 k))(hp:∀j,j<D.n->FL 100000000 (pr j)):∀j,j<=D.n->∀k,FL (c+j*100000001) (prU D N src y0 pr j k)
 | 0,_,k=>(h0 k).mono (by omega)
 | j+1,hj,k=>by
  have ih:=jr8 (D:=D) (N:=N) (src:=src) h0 hp j (by omega);rw[prU];split
  ·exact(ih k).mono (by omega)
  ·exact(FL_chU (ih k) (hp j (by omega))).mono (by omega)
section
variable{L:Abs.Rows}{nm:DN}{N:Nat}{D:Dic}{src:Nat->Int×Bool}
structure Srcs(D:Dic)(N R:Nat)(src:Nat->Int×Bool):Prop where
 free:∀j,j<D.n->N<=D.free j->D.free j-N<D.m
 own:∀i,i<D.m->N<=D.own i->D.own i-N<D.m
 row:∀i,i<D.m->0<=(src i).1/\(src i).1<(R:Int)
theorem x_prices(h:HasD L nm N D src)(R:Nat)(hR:R<=100000)(hm:D.m<=100000)(hn:D.n<=100)(hN:N<=100000)(hs:Srcs D N R src)(hf:∀j,j<D.n->D.free j<=1000000)(sm:SmD D):
  CtrH G.P 115 [.loc (hp nm.d) 6 0 0,.im (.int R)] L (fun x L'=>∃b,x= .im (.ref b 35 4 R)/\blks L'/\SubR L L'/\Abs.look L (hp b)=none/\Abs.look L' (hp b)=some (4,tab R fun k=>qc (prU D N src (fun _=>0) (fun j=> -D.g j) D.n k))):=by
 have hb:=h.blk;have F1:=bF hb;have K1:=bK hb;have G1:=bN hb;have c0:=h.hd;have kz:=jic R hR;by_cases hn0:D.n=0
 ·rw[hn0,jb8]at c0;refine jav [] [] [.tmp 4] Tryz.func115 ?_;simp only[F1,K1,G1,go_sem];refine jcv kz (by decide) rfl jby jc6 ?_;rintro _ L0 ⟨b,rfl,hb0,hb1,hb2⟩ hfr;have hnew:=(hfr (hp b) (by rw[hb1];rfl)).resolve_left (by simp[Abs.look]);refine⟨(hp b,4,tab R fun _=>qc 0)::L,?_,?_⟩
  ·simp only[F1,K1,G1,go_sem];exact jc4 hb1
  have hLb:Abs.look L (hp b)=none:=by
   revert hnew;simp only[F1,K1,G1,go_sem];exact fun h=>h
  clear hnew hfr kz;have ndb:¬nm.d=b:=fun e=>by rw[e,hLb]at c0;cases c0
  have hbM:blks ((hp b,4,tab R fun _=>qc 0)::L):=jaq hb;simp only[c0,ndb,F1,K1,G1,go_sem];refine jay [5,14,15] (fun g:Unit=>⟨[(5,.im (.ref b 35 4 R)),(14,.im (.int 0)),(15,.im (.int 0))],(hp b,4,tab R fun _=>qc 0)::L,[]⟩) (fun _=>True) (fun _=>0) () ?_ (SubR.of_eq rfl) rfl trivial ?_
  ·simp only[go_sem]
  intro _ _;have hpt:(tab R fun k=>qc (prU D N src (fun _=>0) (fun j=> -D.g j) D.n k))=tab R fun _=>qc 0:=by rw[hn0];rfl
  simp only[go_sem];refine jbe _ hbM (SubR.of_eq rfl) ?_;rw[hpt];simp only[go_sem];exact⟨b,rfl,hbM,jao hLb (SubR.of_eq rfl),hLb,zm rfl⟩
 ·rw[jaj hn0]at c0;have cf:=h.hf hn0;refine jav [] [] [.tmp 4] Tryz.func115 ?_;simp only[F1,K1,G1,go_sem];refine jcv kz (by decide) rfl jby jc6 ?_;rintro _ L0 ⟨b,rfl,hb0,hb1,hb2⟩ hfr;have hnew:=(hfr (hp b) (by rw[hb1];rfl)).resolve_left (by simp[Abs.look]);refine⟨(hp b,4,tab R fun _=>qc 0)::L,?_,?_⟩
  ·simp only[F1,K1,G1,go_sem];exact jc4 hb1
  have hLb:Abs.look L (hp b)=none:=by
   revert hnew;simp only[F1,K1,G1,go_sem];exact fun h=>h
  clear hnew hfr kz;have ndb:¬nm.d=b:=fun e=>by rw[e,hLb]at c0;cases c0
  have hbM:blks ((hp b,4,tab R fun _=>qc 0)::L):=jaq hb;simp only[c0,ndb,F1,K1,G1,go_sem];refine jay [0,5,13,14,15] (fun g:Nat×Abs.Rows=>⟨[(0,.loc (hp nm.d) 6 0 0),(5,.im (.ref b 35 4 R)),(13,.im (.ref nm.f 3 1 D.n)),(14,.im (.int D.n)),(15,.im (.int g.1))],g.2,[]⟩)
   (fun g=>g.1<=D.n/\blks g.2/\SubR L g.2/\Abs.look g.2 (hp b)=some (4,tab R fun k=>qc (prU D N src (fun _=>0) (fun j=> -D.g j) g.1 k))) (fun g=>D.n-g.1) (0,(hp b,4,tab R fun _=>qc 0)::L) ?_ (SubR.of_eq rfl) rfl
   ⟨zH _,hbM,jao hLb (SubR.of_eq rfl),ja2 _ _ _⟩ ?_
  ·simp only[Int.natCast_zero,go_sem]
  rintro⟨j,M⟩ ⟨hj,hM,hsM,hl⟩;dsimp only at hj hM hsM hl;have F2:=bF hM;have K2:=bK hM;have G2:=bN hM;have d0:=hsM _ _ c0;have df:=hsM _ _ cf;have dg:=hsM _ _ h.hg;rcases zW j D.n with hlt | hlt
  ·have hd:decide ((j:Int)<D.n)=true:=zh (by omega);have hjn:(j:Int)<D.n:=by omega
   have hj0:(0:Int)<=j:=by omega
   have w1:=ja8 (n:=(j:Int)+1) (by omega);have fg:=oget (o:=D.free) hlt;have gg:=qget (f:=D.g) hlt;have hfj:=hf j hlt;rcases zW (D.free j) N with hv | hv
   ·have hd2:decide ((N:Int)<=D.free j)=false:=zw (by omega);simp only[hd,hd2,d0,df,fg,hjn,hj0,ja9,Int.toNat_natCast,F2,K2,G2,go_sem];refine jaa (j+1,M) ?_ (SubR.of_eq rfl) rfl (by show D.n-(j+1)<D.n-j;omega) ⟨hlt,hM,hsM,hl.trans ?_⟩
    ·simp only[w1,Int.natCast_add,go_sem]
    ·congr 2;refine jam fun k hk=>qa qc ?_;rw[prU,zm hv]
   ·have hd2:decide ((N:Int)<=D.free j)=true:=zh (by omega);have him:=hs.free j hlt hv;have hsr:=hs.row _ him;have w2:=ja8 (n:=((D.free j-N:Nat):Int)) (by omega);have w3:(D.free j:Int)-N=((D.free j-N:Nat):Int):=by omega
    have HM:=h.sub hM hsM;have kn:=f_neg (sm.g j hlt |>.mono (by omega:100000000<=19000000000));have ky:=jr8 (D:=D) (N:=N) (src:=src) (y0:=fun _=>0) (pr:=fun j=> -D.g j) (c:=4) (fun _=>jbv (n:=0) (by omega)) (fun j hj=>jlc (sm.g j hj)) j hj (src (D.free j-N)).1.toNat;have kc:=jjf HM him (r:=(src (D.free j-N)).1.toNat) (by omega) (by omega:(src (D.free j-N)).1.toNat<R) _ hl (-D.g j) hR hm (ky.mono (by
     have:j*100000001<=100*100000001:=zZ _ (by omega);omega)) (jlc (sm.g j hlt))
    have hps:prU D N src (fun _=>0) (fun j=> -D.g j) (j+1)=chU (src (D.free j-N)).2 (prU D N src (fun _=>0) (fun j=> -D.g j) j) (src (D.free j-N)).1.toNat (-D.g j):=by
     rw[prU,zn (by omega)]
    generalize-D.g j=ng at*;simp only[frac,ints]at kn kc;simp only[hd,hd2,d0,df,fg,hjn,hj0,ja9,Int.toNat_natCast,F2,K2,G2,go_sem];refine jab 16 ?_;simp only[hd,hd2,d0,df,dg,fg,gg,hjn,hj0,w2,w3,ja9,Int.toNat_natCast,F2,K2,G2,go_sem];refine ja4 kn (by decide) ?_;simp only[hd,hd2,d0,df,dg,fg,gg,hjn,hj0,w2,w3,ja9,Int.toNat_natCast,F2,K2,G2,go_sem];refine jag kc (by decide) (by simp only[zl,zp,jas];rfl) hM (SubR.of_eq rfl) ?_;rintro _ L2 ⟨rfl,t1,t2,t3⟩ _;refine⟨L2,jbf,?_⟩;have F3:=bF t1;simp only[F3,go_sem];refine jaa (j+1,L2) ?_ (SubR.of_eq rfl) rfl (by show D.n-(j+1)<D.n-j;omega) ⟨hlt,t1,fun k x hk=> ?_,t2.trans ?_⟩
    ·simp only[w1,Int.natCast_add,go_sem]
    ·rw[t3 k (fun e=>by subst e;rw[hLb]at hk;cases hk)];exact hsM k x hk
    ·dsimp only;rw[hps]
  ·have hd:decide ((j:Int)<D.n)=false:=zw (by omega);have hjn:j=D.n:=by omega
   subst hjn;simp only[hd,go_sem];refine jbe M hM (SubR.of_eq rfl) ?_;simp only[go_sem];exact⟨b,rfl,hM,hsM,hLb,hl⟩
end
end
section
open Go.Abs
open Go.LP (Rw RT tsum)
attribute [local go_sem] ints ic big frac fc rwC tmC Evid.c Place.c Move.c Cert.c Recall.c Purity.c
structure MN where
 (d r o:Nat)
structure HasM(L:Abs.Rows)(nm:MN)(e:Evid)(ws:List Rw)(os:List (List IV)):Prop where
 blk:blks L
 dr:ws.length≠0->nm.d≠nm.r
 d_o:ws.length≠0->nm.d≠nm.o
 ro:ws.length≠0->nm.r≠nm.o
 len:os.length=ws.length
 o4:∀c∈os,c.length=4
 hd:Abs.look L (hp nm.d)=some (10,[e.c++[sl0 nm.r 211 6 ws.length,sl0 nm.o 103 4 ws.length]])
 hr:ws.length≠0->Abs.look L (hp nm.r)=some (6,ws.map rwC)
 ho:ws.length≠0->Abs.look L (hp nm.o)=some (4,os)
theorem HasM.sub{L L':Abs.Rows}{nm:MN}{e:Evid}{ws:List Rw}{os:List (List IV)}(h:HasM L nm e ws os)(hb:blks L')(hs:SubR L L'):HasM L' nm e ws os:=
 ⟨hb,h.dr,h.d_o,h.ro,h.len,h.o4,hs _ _ h.hd,fun hw=>hs _ _ (h.hr hw),fun hw=>hs _ _ (h.ho hw)⟩
theorem jfj{L R:Abs.Rows}{b X:Nat}{v:Nat×List (List IV)}(hs:SubR L R)(hb:Abs.look L (hp b)=none)(hX:Abs.look (Abs.del R (hp b)) (hp X)=none):
  SubR L ((hp X,v)::Abs.del R (hp b))/\Abs.look L (hp X)=none:=by
 have hl:∀k x,Abs.look L k=some x->Abs.look (Abs.del R (hp b)) k=some x:=fun k x hk=>by
  rw[ja6 _ (fun e=>by subst e;rw[hb]at hk;cases hk)];exact hs k x hk
 have hx:Abs.look L (hp X)=none:=by
  cases hx:Abs.look L (hp X)with
  | none=>rfl
  | some y=>rw[hl _ y hx]at hX;cases hX
 exact⟨jao hx hl,hx⟩
section
variable{L:Abs.Rows}{nm:MN}{e:Evid}{ws:List Rw}{os:List (List IV)}{M:Nat}
theorem e_var(h:HasM L nm e ws os)(hM:e.mats=(M:Int))(mv k:Nat)(hm:mv<=1000)(hk:k<=1000)(hM6:M<=6):
  CtrH G.P 145 [.loc (hp nm.d) 10 0 0,.im (.int mv),.im (.int k)] L (fun x L'=>x= .im (.int ((mv*M+k:Nat):Int))/\L'=L):=by
 have hb:=h.blk;have F1:=bF hb;have K1:=bK hb;have G1:=bN hb;have c0:=h.hd;have hb1:mv*M<=1000*6:=q9 hm hM6;have w1:=ja8 (n:=(mv:Int)*e.mats) (by rw[hM,<-Int.natCast_mul];omega);have w2:=ja8 (n:=(mv:Int)*e.mats+k) (by rw[hM,<-Int.natCast_mul];omega);have w3:(mv:Int)*e.mats+k=((mv*M+k:Nat):Int):=by rw[hM,Int.natCast_add,Int.natCast_mul]
 rw[<-w3];refine jav [] [] [.tmp 6] Tryz.func145 ?_;simp only[c0,F1,K1,G1,go_sem];refine jbe L hb (SubR.of_eq rfl) ?_;simp only[w1,w2,go_sem]
theorem jnq{mv:Nat}{b own more:Int}{k:Nat}(h:coF b own more k=0):sumT M mv b own more (k+1)=sumT M mv b own more k:=by rw[sumT,zm h]
theorem jml{mv:Nat}{b own more:Int}:∀k,(sumT M mv b own more k).length<=k
 | 0=>zB _
 | k+1=>by
  have:=jml (mv:=mv) (b:=b) (own:=own) (more:=more) k;rw[sumT];split
  ·omega
  ·rw[zu,List.length_singleton];omega
theorem jmo{mv:Nat}{b own more:Int}{k:Nat}(h:coF b own more k≠0):sumT M mv b own more (k+1)=sumT M mv b own more k++[(mv*M+k,((coF b own more k:Int):Rat))]:=by rw[sumT,zn h]
def NEWT(L R:Abs.Rows)(b:Nat)(ts:List (Nat×Rat)):Prop:=ts.length≠0->Abs.look R (hp b)=some (5,ts.map tmC)/\Abs.look L (hp b)=none
def sA(A n:Nat):AV:=if n=0 then .sx []else .im (.ref A 117 5 n)
def rA(A n:Nat):AV:=if n=0 then .im (.sl [])else .im (.ref A 117 5 n)
theorem jcs{A n:Nat}(h:n=0):sA A n= .sx []:=zm h
theorem jce{A n:Nat}(h:n≠0):sA A n= .im (.ref A 117 5 n):=zn h
theorem NEWT.app{L R:Abs.Rows}{X:Nat}{ts:List (Nat×Rat)}{t:Nat×Rat}(h:Abs.look R (hp X)=some (5,ts.map tmC++[tmC t]))(h':Abs.look L (hp X)=none):NEWT L R X (ts++[t]):=fun _=>⟨by rw[h,qw];rfl,h'⟩
theorem e_sum(h:HasM L nm e ws os)(hM:e.mats=(M:Int))(mv:Nat)(b own more:Int)(hm:mv<=1000)(hM6:M<=6)(hb1: -1000<=b/\b<=1000)(hmo: -1000<=more/\more<=1000):
  CtrH G.P 147 [.loc (hp nm.d) 10 0 0,.im (.int mv),.im (.int b),.im (.int own),.im (.int more)] L
   (fun x L'=>∃A,x=rA A (sumT M mv b own more M).length/\blks L'/\SubR L L'/\NEWT L L' A (sumT M mv b own more M)):=by
 have hb:=h.blk;have F1:=bF hb;have K1:=bK hb;have G1:=bN hb;have c0:=h.hd;simp only[Evid.c,hM]at c0;refine jav [40] [] [.tmp 10] Tryz.func147 ?_;simp only[c0,hM,F1,K1,G1,go_sem];refine jay [0,1,2,3,4,11,18,19] (fun g:(Nat×Nat)×Abs.Rows=>⟨[(0,.loc (hp nm.d) 10 0 0),(1,.im (.int mv)),(2,.im (.int b)),(3,.im (.int own)),(4,.im (.int more)),(11,sA g.1.2 (sumT M mv b own more g.1.1).length),(18,.im (.int M)),(19,.im (.int g.1.1))],g.2,[]⟩)
  (fun g=>g.1.1<=M/\blks g.2/\SubR L g.2/\NEWT L g.2 g.1.2 (sumT M mv b own more g.1.1)) (fun g=>M-g.1.1) ((0,0),L) ?_ (SubR.of_eq rfl) rfl ⟨zH _,hb,SubR.of_eq rfl,fun h=>absurd rfl h⟩ ?_
 ·have hz:=jcs (A:=0) (show(sumT M mv b own more 0).length=0 from rfl);simp only[Int.natCast_zero,hz,go_sem]
 rintro⟨⟨k,A⟩,R⟩ hP;obtain⟨hj,hR,hsR,hbn⟩:=hP;dsimp only at hj hR hsR hbn;have F2:=bF hR;have K2:=bK hR;have G2:=bN hR;have d0:=hsR _ _ c0;rcases zW k M with hlt | hlt
 ·have hd:decide ((k:Int)<M)=true:=zh (by omega);have h1:=ja8 (n:=(k:Int)+1) (by omega);have h2:=ja8 (n:=b+more) (by omega);have kv:=e_var (h.sub hR hsR) hM mv k hm (by omega) hM6;have vl:mv*M+k<100000:=by
   have:mv*M<=1000*6:=q9 hm hM6;omega
  obtain⟨c,hc⟩:∃c,c=coF b own more k:=⟨_,rfl⟩;have kI:Ctr G.P 17 [.int c] (· =frac (c:Rat)):=jbz c (by rw[hc];unfold coF;split<;>omega);simp only[frac,ints]at kI;have key:∀(p:Bool),decide ((k:Int)=own)=p->(if p=true then b+more else b)=c:=fun p hp=>by
   rw[hc];unfold coF;cases p
   ·rw[zn (by decide),zn (zN hp)]
   ·rw[zm rfl,zm (zK hp)]
  rcases hown:decide ((k:Int)=own)with _ | _
  ·have hcb:=key _ hown;simp only[yj,qp]at hcb;subst hcb;rcases hc0:decide (b=0)with _ | _
   ·have hadd:=jmo (M:=M) (mv:=mv) (hc▸zN hc0:coF b own more k≠0);rw[<-hc]at hadd;by_cases hn:(sumT M mv b own more k).length=0
    ·have hs0:=jcs (A:=A) hn;have hnil:sumT M mv b own more k=[]:=zI hn;simp only[hd,hown,h2,hc0,hs0,go_sem];refine jag kv (by decide) (by simp only[zl,zp,jas];rfl) hR (SubR.of_eq rfl) ?_;rintro _ L1 ⟨rfl,hL1⟩ _;subst hL1;refine⟨_,jbf,?_⟩;simp only[F2,K2,G2,go_sem];refine ja1 kI ?_;simp only[F2,K2,G2,go_sem];refine And.intro (fun c' hc'=>by rw[zD.1 hc'];rfl) ?_;refine jhi (fun X hX=> ?_);have lX1:Abs.look L1 (hp X)=none:=hX;clear hX;have lX:Abs.look L (hp X)=none:=by
      cases hx:Abs.look L (hp X)with
      | none=>rfl
      | some y=>rw[hsR _ _ hx]at lX1;cases lX1
     have hs1:=jce (A:=X) (n:=(sumT M mv b own more (k+1)).length) (by rw[hadd,zu];exact qX _);have hl1:(sumT M mv b own more (k+1)).length=1:=by rw[hadd,hnil];rfl
     rw[hl1]at hs1;simp only[F2,K2,G2,go_sem];refine jaa ((k+1,X),(hp X,5,[tmC (mv*M+k,((b:Int):Rat))])::L1) ?_ (SubR.of_eq rfl) rfl (by show M-(k+1)<M-k;omega) ⟨hlt,jaq hR,jao lX hsR,?_⟩
     ·simp only[h1,hl1,hs1,Int.natCast_add,go_sem]
     ·dsimp only;rw[hadd];refine NEWT.app ?_ lX;rw[ja2,hnil];rfl
    ·have hs0:=jce (A:=A) hn;obtain⟨hrA,hLA⟩:=hbn hn;have htk:List.take (sumT M mv b own more k).length ((sumT M mv b own more k).map tmC)=(sumT M mv b own more k).map tmC:=zG (by rw[za];exact zB _);have hlk:=jml (M:=M) (mv:=mv) (b:=b) (own:=own) (more:=more) k;simp only[hd,hown,h2,hc0,hs0,go_sem];refine jag kv (by decide) (by simp only[zl,zp,jas];rfl) hR (SubR.of_eq rfl) ?_;rintro _ L1 ⟨rfl,hL1⟩ _;subst hL1;refine⟨_,jbf,?_⟩;simp only[F2,K2,G2,go_sem];refine ja1 kI ?_;simp only[hrA,htk,za,F2,K2,G2,go_sem];refine And.intro (fun c' hc'=>by rw[zD.1 hc'];rfl) (And.intro (zB _) (And.intro (by omega) ?_));refine jr7 (fun X hX=> ?_);obtain⟨lS,lX⟩:=jfj (v:=(5,(sumT M mv b own more k).map tmC++[tmC (mv*M+k,((b:Int):Rat))])) hsR hLA (X:=X) hX;clear hX;have hl1:(sumT M mv b own more (k+1)).length=(sumT M mv b own more k).length+1:=by rw[hadd,zu];rfl
     have hs1:=jce (A:=X) (n:=(sumT M mv b own more k).length+1) (qX _);simp only[F2,K2,G2,go_sem];refine jaa ((k+1,X),(hp X,5,(sumT M mv b own more k).map tmC++[tmC (mv*M+k,((b:Int):Rat))])::Abs.del L1 (hp A)) ?_ (SubR.of_eq rfl) rfl (by show M-(k+1)<M-k;omega) ⟨hlt,jaq (jbq hR),lS,?_⟩
     ·simp only[h1,hl1,hs1,Int.natCast_add,go_sem]
     ·dsimp only;rw[hadd];exact NEWT.app (ja2 _ _ _) lX
   ·have hskip:=jnq (M:=M) (mv:=mv) (hc▸zK hc0:coF b own more k=0);simp only[hd,hown,hc0,go_sem];refine jaa ((k+1,A),R) ?_ (SubR.of_eq rfl) rfl (by show M-(k+1)<M-k;omega) ⟨hlt,hR,hsR,by dsimp only;rw[hskip];exact hbn⟩;simp only[h1,hskip,Int.natCast_add,go_sem]
  ·have hcb:=key _ hown;simp only[qt]at hcb;replace h2:=h2.trans hcb;rcases hc0:decide (c=0)with _ | _
   ·have hadd:=jmo (M:=M) (mv:=mv) (hc▸zN hc0:coF b own more k≠0);rw[<-hc]at hadd;by_cases hn:(sumT M mv b own more k).length=0
    ·have hs0:=jcs (A:=A) hn;have hnil:sumT M mv b own more k=[]:=zI hn;simp only[hd,hown,h2,hc0,hs0,go_sem];refine jag kv (by decide) (by simp only[zl,zp,jas];rfl) hR (SubR.of_eq rfl) ?_;rintro _ L1 ⟨rfl,hL1⟩ _;subst hL1;refine⟨_,jbf,?_⟩;simp only[F2,K2,G2,go_sem];refine ja1 kI ?_;simp only[F2,K2,G2,go_sem];refine And.intro (fun c' hc'=>by rw[zD.1 hc'];rfl) ?_;refine jhi (fun X hX=> ?_);have lX1:Abs.look L1 (hp X)=none:=hX;clear hX;have lX:Abs.look L (hp X)=none:=by
      cases hx:Abs.look L (hp X)with
      | none=>rfl
      | some y=>rw[hsR _ _ hx]at lX1;cases lX1
     have hs1:=jce (A:=X) (n:=(sumT M mv b own more (k+1)).length) (by rw[hadd,zu];exact qX _);have hl1:(sumT M mv b own more (k+1)).length=1:=by rw[hadd,hnil];rfl
     rw[hl1]at hs1;simp only[F2,K2,G2,go_sem];refine jaa ((k+1,X),(hp X,5,[tmC (mv*M+k,((c:Int):Rat))])::L1) ?_ (SubR.of_eq rfl) rfl (by show M-(k+1)<M-k;omega) ⟨hlt,jaq hR,jao lX hsR,?_⟩
     ·simp only[h1,hl1,hs1,Int.natCast_add,go_sem]
     ·dsimp only;rw[hadd];refine NEWT.app ?_ lX;rw[ja2,hnil];rfl
    ·have hs0:=jce (A:=A) hn;obtain⟨hrA,hLA⟩:=hbn hn;have htk:List.take (sumT M mv b own more k).length ((sumT M mv b own more k).map tmC)=(sumT M mv b own more k).map tmC:=zG (by rw[za];exact zB _);have hlk:=jml (M:=M) (mv:=mv) (b:=b) (own:=own) (more:=more) k;simp only[hd,hown,h2,hc0,hs0,go_sem];refine jag kv (by decide) (by simp only[zl,zp,jas];rfl) hR (SubR.of_eq rfl) ?_;rintro _ L1 ⟨rfl,hL1⟩ _;subst hL1;refine⟨_,jbf,?_⟩;simp only[F2,K2,G2,go_sem];refine ja1 kI ?_;simp only[hrA,htk,za,F2,K2,G2,go_sem];refine And.intro (fun c' hc'=>by rw[zD.1 hc'];rfl) (And.intro (zB _) (And.intro (by omega) ?_));refine jr7 (fun X hX=> ?_);obtain⟨lS,lX⟩:=jfj (v:=(5,(sumT M mv b own more k).map tmC++[tmC (mv*M+k,((c:Int):Rat))])) hsR hLA (X:=X) hX;clear hX;have hl1:(sumT M mv b own more (k+1)).length=(sumT M mv b own more k).length+1:=by rw[hadd,zu];rfl
     have hs1:=jce (A:=X) (n:=(sumT M mv b own more k).length+1) (qX _);simp only[F2,K2,G2,go_sem];refine jaa ((k+1,X),(hp X,5,(sumT M mv b own more k).map tmC++[tmC (mv*M+k,((c:Int):Rat))])::Abs.del L1 (hp A)) ?_ (SubR.of_eq rfl) rfl (by show M-(k+1)<M-k;omega) ⟨hlt,jaq (jbq hR),lS,?_⟩
     ·simp only[h1,hl1,hs1,Int.natCast_add,go_sem]
     ·dsimp only;rw[hadd];exact NEWT.app (ja2 _ _ _) lX
   ·have hskip:=jnq (M:=M) (mv:=mv) (hc▸zK hc0:coF b own more k=0);simp only[hd,hown,h2,hc0,go_sem];refine jaa ((k+1,A),R) ?_ (SubR.of_eq rfl) rfl (by show M-(k+1)<M-k;omega) ⟨hlt,hR,hsR,by dsimp only;rw[hskip];exact hbn⟩;simp only[h1,hskip,Int.natCast_add,go_sem]
 ·have hd:decide ((k:Int)<M)=false:=zw (by omega);have hkM:k=M:=by omega
  subst hkM;simp only[hd,go_sem];refine jbe R hR (SubR.of_eq rfl) ?_;simp only[go_sem];refine⟨A,?_,hR,hsR,hbn⟩;by_cases hn:(sumT k mv b own more k).length=0
  ·rw[jcs hn];unfold rA;rw[zm hn]
  ·rw[jce hn];unfold rA;rw[zn hn]
end
end
end Go.Proofs.YtkcekimolppapaaGreat
namespace Go.Abs
section
open Go.RowKit (Below)
def isSp(o:Oper):Bool:=
 match o.op with
 | .call c=>match c.callee with
  | .value _=>true
  | .builtin b=>match b with
   | .append=>true
   | _=>false
  | _=>false
 | _=>false
def spY(G:Ctx)(st:St)(o:Oper)(T:AV->Rows->Prop):Prop:=if isSp o=true then sp G st o T else aq G st o fun av=>T av st.rows
def spListY(G:Ctx)(Rs:Rows)(K:St->Prop):List Oper->St->Prop
 | [],st=>K st
 | o::r,st=>o.guard=none/\spY G st o fun av R'=>(∀k x,look Rs k=some x->look R' k=some x)/\spListY G Rs K r ((⟨st.fr,R',st.toks⟩:St).put o.dst av)
section
variable{G:Ctx}{N:Nat}{w0:Base}{w w':World}{M0:Nat->Nat->Prop}{β:Nat->Option Nat}{st st':St}{a:Act}{ops:List Oper}
end
section
variable{G:Ctx}
def spListYN(G:Ctx)(ops:List Oper)(K:St->Prop)(Rs:Rows)(d:Nat)(z:List IV)(sps l:List Oper)(st:St):Prop:=
 spListY G Rs (fun s'=>NewH (fun s''=>alist G ops K l s'') s' z.length [z] d (fun b=> .loc (hp b) z.length 0 0)) sps st
theorem spListYN_nil(ops:List Oper)(K:St->Prop)(Rs:Rows)(d:Nat)(z:List IV)(l:List Oper)(st:St):spListYN G ops K Rs d z [] l st=NewP z.length [z] d (K:=⟨fun s=>alist G ops K l s⟩) (A:=⟨(st,fun b=> .loc (hp b) z.length 0 0)⟩):=rfl
end
attribute [go_sem ↓] spListYN_nil
end
section
open Go.RowKit (Below)
def jg8(G:Ctx)(t:TypeId)(p x:AV)(R:Rows)(T:AV->Rows->Prop):Prop:=
 match x,p.dp with
 | .im y,.loc d s i j=>match look R d with
  | some (s',es)=>match es[i]? with
   | some c=>s'=s/\(G.ti t).size≠0/\(cellsOf y).length=(G.ti t).size/\(cellsOf y).all IV.one=true/\j+(G.ti t).size<=c.length/\
     T jck (setRow R d s (es.set i (jbg c j (cellsOf y))))
   | none=>False
  | none=>False
 | _,_=>False
def spZ(G:Ctx)(st:St)(o:Oper)(T:AV->Rows->Prop):Prop:=
 match o.op with
 | .store t p x=>jg8 G t (evO st p) (evO st x) st.rows T
 | _=>if isSp o=true then sp G st o T else aq G st o fun av=>T av st.rows
def spZ1(G:Ctx)(st:St)(o:Oper)(T:AV->Rows->Prop):Prop:=
 match o.op with
 | .store t p x=>jg8 G t (evO st p) (evO st x) st.rows T
 | _=>if isSp o=true then sp G st o T else ∃av,qVal G st o av/\T av st.rows
def jj2(ops:Array Oper):Nat->Nat->Nat->Bool
 | 0,j,i=>Region.waitsFor .any ops j i
 | f+1,j,i=>Region.waitsFor .any ops j i || (List.range j).any fun l=>Region.waitsFor .any ops j l&&jj2 ops f l i
theorem waitsT_listed{ops:Array Oper}{n:Nat}{listed:Array Bool}(inv:HeadInv .any ops n listed)(hw:∀j i,Region.waitsFor .any ops j i=true->listed.getD j false=true->listed.getD i false=true):
  ∀(f j i:Nat),jj2 ops f j i=true->listed.getD j false=true->listed.getD i false=true:=by
 intro f
 induction f with
 | zero=>exact fun j i h hl=>hw j i h hl
 | succ f ih=>
  intro j i h hl;rw[jj2,qJ]at h;rcases h with h | h
  ·exact hw j i h hl
  ·obtain⟨l,_,h2⟩:=jb.1 h;rw[zC]at h2;exact ih l i h2.2 (hw j l h2.1 hl)
theorem spZ_1{G:Ctx}{st:St}{o:Oper}{T:AV->Rows->Prop}(h:spZ G st o T):spZ1 G st o T:=by
 unfold spZ at h;unfold spZ1;split at h
 ·exact h
 ·by_cases hs:isSp o=true
  ·rw[zm hs]at h⊢;exact h
  ·rw[zn hs]at h⊢;obtain⟨av,h1,h2⟩:=jhg h;exact⟨av,h1,h2⟩
def isStZ(o:Oper):Bool:=
 match o.op with
 | .store _ _ _=>true
 | _=>false
def stZ(ops:Array Oper)(m:List Bool):Bool:=(List.range m.length).all fun i=>(List.range m.length).all fun j=> !(m.getD i false) || m.getD j false || (match ops[i]?,ops[j]? with
 | some oi,some oj=> !isStZ oi || !jff oj || Region.waitsFor .any ops i j
 | _,_=>true)
section
variable{G:Ctx}{N:Nat}{w0:Base}{w w':World}{M0:Nat->Nat->Prop}{β:Nat->Option Nat}{st st':St}{a:Act}{ops:List Oper}
theorem spZ_congr{o:Oper}{T:AV->Rows->Prop}(h:∀t∈o.looksAt ops.toArray,st.get t=st'.get t)(hr:st.rows=st'.rows)(ht:st.toks=st'.toks)(hs:spZ1 G st o T):spZ1 G st' o T:=by
 have hx:∀x∈o.op.operands,evO st x=evO st' x:=fun x hx=>jgg fun t ht=>h t (jd9 hx ht);unfold spZ1 at hs⊢;split at hs
 ·rename_i t p x ho;rw[ho]at hx;rw[<-hx p (by simp[Op.operands]),<-hx x (by simp[Op.operands]),<-hr];exact hs
 ·by_cases hp:isSp o=true
  ·rw[zm hp]at hs⊢;exact sp_congr h hr hs
  ·rw[zn hp]at hs⊢;obtain⟨av,h1,h2⟩:=hs;exact⟨av,jik h hr ht h1,hr▸h2⟩
theorem spZ_sound(hG:G.Good)(h:Sim N w0 M0 β st a w){o:Oper}{T:AV->Rows->Prop}(hd:∀d,o.dst=some d->d<N)(hA:spZ1 G st o T){K':Act->World->Prop}{Q':Exit->Act->World->Prop}
  (hK:∀av R' β' a' w',T av R'->Sim N w0 M0 β' ((⟨st.fr,R',st.toks⟩:St).put o.dst av) a' w'->K' a' w'):o.wp G.P a w K' Q':=by
 unfold spZ1 at hA;split at hA
 ·rename_i t p x ho;have haop:aop G o (fun st'=>∃av R',st'=(⟨st.fr,R',st.toks⟩:St).put o.dst av/\T av R') st:=by
   unfold aop;rw[ho];dsimp only;unfold jg8 at hA;split at hA
   ·rename_i y d s i j hx hp;have hl:st.lendO x=st:=by
     unfold St.lendO;rw[hx]
    rw[hl];unfold jmd;rw[hx,hp];dsimp only[ivE,ivOf];split at hA
    ·rename_i s' es hlk;rw[hlk];dsimp only;split at hA
     ·rename_i c hc;rw[hc];obtain⟨h1,h2,h3,h4,h5,h6⟩:=hA;exact⟨h1,h2,h3,h4,h5,_,_,rfl,h6⟩
     ·exact hA.elim
    ·exact hA.elim
   ·exact hA.elim
  refine je8 hG h hd haop ?_;rintro st' β' a' w' ⟨av,R',rfl,hT⟩ hs;exact hK av R' β' a' w' hT hs
 ·by_cases hp:isSp o=true
  ·rw[zm hp]at hA;exact sp_sound hG h hd hA hK
  ·rw[zn hp]at hA;obtain⟨av,h1,h2⟩:=hA;refine jds hG h h1 fun v w2 hb hv=>hK av st.rows β _ w2 h2 ?_;exact(h.ext hb).put (dst:=o.dst) hd hv
end
section
variable{G:Ctx}
def jp9(G:Ctx)(t:TypeId)(p x:AV)(R:Rows)[T:Hold (Rows->Prop)]:Prop:=jg8 G t p x R fun _ R'=>T.val R'
theorem jj3{t:TypeId}{p x:AV}{R:Rows}{T T':AV->Rows->Prop}(h:jg8 G t p x R T)(hT:∀av R',T av R'->T' av R'):jg8 G t p x R T':=by
 unfold jg8 at h⊢;split at h
 ·split at h
  ·split at h
   ·obtain⟨h1,h2,h3,h4,h5,h6⟩:=h;exact⟨h1,h2,h3,h4,h5,hT _ _ h6⟩
   ·exact h.elim
  ·exact h.elim
 ·exact h.elim
theorem SpStore_loc(t:TypeId)(d s i j:Nat)(y:IV)(R:Rows)(T:Rows->Prop): @jp9 G t (.loc d s i j) (.im y) R ⟨T⟩=Opt (look R d) (K:=⟨fun p=>Opt p.2[i]? (K:=⟨fun c=>p.1=s/\(G.ti t).size≠0/\(cellsOf y).length=(G.ti t).size/\(cellsOf y).all IV.one=true/\j+(G.ti t).size<=c.length/\
  T (setRow R d s (p.2.set i (jbg c j (cellsOf y))))⟩)⟩):=by
 unfold jp9 jg8 Opt AV.dp;dsimp only;cases h:look R d with
 | none=>rfl
 | some p=>
  obtain⟨s',es⟩:=p;dsimp only;cases es[i]? <;>rfl
end
attribute [go_sem ↓] SpStore_loc
