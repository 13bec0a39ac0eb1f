/- A part of the proof. No further condition. -/
import Derived.Test.YtfahloobpegieaaGreatKX19
import Derived.Test.YtfahloobpegieaaGreatKX17
import Derived.Test.YtfahloobpegieaaGreatKX18
set_option linter.all false
set_option maxRecDepth 100000
namespace Go.Proofs.YtfahloobpegieaaGreat
section
open Go.Abs
open Go.LP (Dic find)
attribute [local go_sem] ints ic big frac fc
theorem jc7{R L0:Abs.Rows}{b s:Nat}{es:List (List IV)}(h:Abs.look L0 (hp b)=some (s,es)):jfo R [] L0 ((hp b,s,es)::R):=fun k x hk=>by
 by_cases e:k=hp b
 ·subst e;rw[ja2]at hk;rw[h,hk];exact .inl rfl
 ·rw[ja0 _ _ e]at hk;exact .inr ⟨rfl,hk⟩
theorem jg5{L M:Abs.Rows}{b s:Nat}{es:List (List IV)}(hL:Abs.look L (hp b)=none)(h:SubR L M):SubR L (M.map (fun p=>if p.1=hp b then(p.1,s,es)else p)):=fun k x hk=>by
 rw[jag (fun e=>by subst e;rw[hL]at hk;cases hk)];exact h k x hk
def ptU(D:Dic)(i k:Nat):Rat:=match find D.own k i with
 | some i'=>D.v i'
 | none=>0
theorem jpf{D:Dic}{i k:Nat}:ptU D (i+1) k=if D.own i=k then D.v i else ptU D i k:=by
 unfold ptU;rw[LP.find];split
 ·rename_i h;split at h
  ·rename_i e;cases h;rw[if_pos e]
  ·rename_i e;rw[if_neg e,h]
 ·rename_i h;split at h
  ·cases h
  ·rename_i e;rw[if_neg e,h]
section
variable{L:Abs.Rows}{nm:DN}{N:Nat}{D:Dic}{src:Nat->Int×Bool}
set_option maxHeartbeats 4000000 in
theorem x_point(h:HasD L nm N D src)(hN:N<=100000)(hm:D.m<=100000)(ho:∀i,i<D.m->D.own i<=1000000):
  CtrH G.P 149 [.loc (hp nm.d) 6 0 0] L (fun x L'=>∃b,x= .im (.ref b 42 4 N)/\blks L'/\SubR L L'/\Abs.look L (hp b)=none/\Abs.look L' (hp b)=some (4,tab N fun k=>qc (D.pt k))):=by
 have hb:=h.blk;have F1:=bF hb;have K1:=bK hb;have G1:=bN hb;have c0:=h.hd;have kz:=jha N hN;by_cases hm0:D.m=0
 ·rw[hm0,jb9,jb9,jb9]at c0;refine jb8 (goodH [] []) _ _ [.tmp 2] Tryz.func149 rfl rfl (by decide+kernel) rfl ?_;simp only[c0,F1,K1,G1,go_sem];refine jcc kz (by decide) rfl jbl jbp ?_;rintro _ L0 ⟨b,rfl,hb0,hb1,hb2⟩ hfr;have hnew:=(hfr (hp b) (by rw[hb1];rfl)).resolve_left (by simp[Abs.look]);refine⟨(hp b,4,tab N fun _=>qc 0)::L,?_,?_⟩
  ·simp only[c0,F1,K1,G1,go_sem];exact jc7 hb1
  have hLb:Abs.look L (hp b)=none:=by
   revert hnew;simp only[c0,F1,K1,G1,go_sem];exact fun h=>h
  clear hnew hfr kz;have hbM:blks ((hp b,4,tab N fun _=>qc 0)::L):=jao hb;have F2:=fun(d:Nat) (h:d<100000)=>je3 (L:=(hp b,4,tab N fun _=>qc 0)::L) (d:=d) hbM h;have ndb:¬nm.d=b:=fun e=>by rw[e,hLb]at c0;cases c0
  simp only[c0,ndb,F1,K1,G1,go_sem];refine jb3 [3,15,16] (fun g:Unit=>⟨[(3,.im (.ref b 42 4 N)),(15,.im (.int 0)),(16,.im (.int 0))],(hp b,4,tab N fun _=>qc 0)::L,[]⟩) (fun _=>True) (fun _=>0) () ?_ (SubR.of_eq rfl) rfl trivial ?_
  ·simp only[go_sem]
  intro _ _;have hpt:(tab N fun k=>qc (D.pt k))=tab N fun _=>qc 0:=jas fun k _=>by
   rw[show D.pt k=ptU D D.m k from rfl,hm0];rfl
  simp only[go_sem];refine jbd _ hbM (SubR.of_eq rfl) ?_;rw[hpt];simp only[go_sem];exact⟨b,rfl,hbM,ja3 hLb (SubR.of_eq rfl),hLb,if_pos rfl⟩
 ·rw[jan hm0,jan hm0,jan hm0]at c0;have c1:=h.ho hm0;have c2:=h.hr hm0;refine jb8 (goodH [] []) _ _ [.tmp 2] Tryz.func149 rfl rfl (by decide+kernel) rfl ?_;simp only[c0,F1,K1,G1,go_sem];refine jcc kz (by decide) rfl jbl jbp ?_;rintro _ L0 ⟨b,rfl,hb0,hb1,hb2⟩ hfr;have hnew:=(hfr (hp b) (by rw[hb1];rfl)).resolve_left (by simp[Abs.look]);refine⟨(hp b,4,tab N fun _=>qc 0)::L,?_,?_⟩
  ·simp only[c0,F1,K1,G1,go_sem];exact jc7 hb1
  have hLb:Abs.look L (hp b)=none:=by
   revert hnew;simp only[c0,F1,K1,G1,go_sem];exact fun h=>h
  clear hnew hfr kz;have hbM:blks ((hp b,4,tab N fun _=>qc 0)::L):=jao hb;have ndb:¬nm.d=b:=fun e=>by rw[e,hLb]at c0;cases c0
  simp only[c0,ndb,F1,K1,G1,go_sem];refine jb3 [0,3,14,15,16] (fun g:Nat×Abs.Rows=>⟨[(0,.loc (hp nm.d) 6 0 0),(3,.im (.ref b 42 4 N)),(14,.im (.ref nm.o 3 1 D.m)),(15,.im (.int D.m)),(16,.im (.int g.1))],g.2,[]⟩)
   (fun g=>g.1<=D.m/\blks g.2/\SubR L g.2/\Abs.look g.2 (hp b)=some (4,tab N fun k=>qc (ptU D g.1 k))) (fun g=>D.m-g.1) (0,(hp b,4,tab N fun _=>qc 0)::L) ?_ (SubR.of_eq rfl) rfl
   ⟨Nat.zero_le _,hbM,ja3 hLb (SubR.of_eq rfl),ja2 _ _ _⟩ ?_
  ·simp only[Int.natCast_zero,go_sem]
  rintro⟨i,M⟩ ⟨hi,hM,hs,hl⟩;dsimp only at hi hM hs hl;have F2:=bF hM;have K2:=bK hM;have G2:=bN hM;have d0:=hs _ _ c0;have d1:=hs _ _ c1;have d2:=hs _ _ c2;by_cases hlt:i<D.m
  ·have hd:decide ((i:Int)<D.m)=true:=decide_eq_true (by omega);have him:(i:Int)<D.m:=by omega
   have hi0:(0:Int)<=i:=by omega
   have w1:=jad (n:=(i:Int)+1) (by omega);have og:=oget (o:=D.own) hlt;have rg:=lget (v:=D.v) (A:=nm.a) (n:=D.n) hlt;by_cases hv:D.own i<N
   ·have hd2:decide ((D.own i:Int)<N)=true:=decide_eq_true (by omega);have hvN:(D.own i:Int)<N:=by omega
    have hv0:(0:Int)<=D.own i:=by omega
    have hq:=qget (f:=ptU D i) hv;simp only[hd,hd2,d0,d1,d2,og,rg,hl,hq,hvN,hv0,him,hi0,jaa,Int.toNat_natCast,F2,K2,G2,go_sem];refine jac (i+1,M.map (fun p=>if p.1=hp b then(p.1,4,(tab N fun k=>qc (ptU D i k)).set (D.own i) (fc (D.v i)))else p)) ?_ (SubR.of_eq rfl) rfl (by show D.m-(i+1)<D.m-i;omega) ⟨hlt,jb5 hM,jg5 hLb hs,(jab hl).trans ?_⟩
    ·simp only[w1,Int.natCast_add,go_sem]
    ·rw[qset];congr 2;refine jas fun k hk=>congrArg qc ?_;rw[jpf];by_cases e:k=D.own i
     ·rw[if_pos e,if_pos e.symm]
     ·rw[if_neg e,if_neg fun h=>e h.symm]
   ·have hd2:decide ((D.own i:Int)<N)=false:=decide_eq_false (by omega);simp only[hd,hd2,d0,d1,d2,og,rg,him,hi0,jaa,Int.toNat_natCast,F2,K2,G2,go_sem];refine jac (i+1,M) ?_ (SubR.of_eq rfl) rfl (by show D.m-(i+1)<D.m-i;omega) ⟨hlt,hM,hs,hl.trans ?_⟩
    ·simp only[w1,Int.natCast_add,go_sem]
    ·congr 2;refine jas fun k hk=>congrArg qc ?_;rw[jpf,if_neg (by omega)]
  ·have hd:decide ((i:Int)<D.m)=false:=decide_eq_false (by omega);have him:i=D.m:=by omega
   subst him;simp only[hd,go_sem];refine jbd M hM (SubR.of_eq rfl) ?_;simp only[go_sem];exact⟨b,rfl,hM,hs,hLb,hl⟩
end
end
section
open Go.Abs
open Go.LP (Dic find)
attribute [local go_sem] ints ic big frac fc
section
variable{L:Abs.Rows}{nm:DN}{N:Nat}{D:Dic}{src:Nat->Int×Bool}
def chU(turned:Bool)(y:Nat->Rat)(r:Nat)(price:Rat)(k:Nat):Rat:=if k=r then y k+(if turned then price else-price)else y k
set_option maxHeartbeats 4000000 in
theorem jj2(h:HasD L nm N D src){i r R Y:Nat}(hi:i<D.m)(hsr:(src i).1=(r:Int))(hr:r<R)(y:Nat->Rat)(hY:Abs.look L (hp Y)=some (4,tab R fun k=>qc (y k)))(price:Rat)(hR:R<=100000)(hm:D.m<=100000)(ky:FL 18000000000 (y r))(kp:FL 100000000 price):
  CtrH G.P 200 [.loc (hp nm.d) 6 0 0,.im (.ref Y 42 4 R),.im (.int i),.im (frac price)] L
   (fun x L'=>x= .im (.tup [])/\blks L'/\Abs.look L' (hp Y)=some (4,tab R fun k=>qc (chU (src i).2 y r price k))/\∀k,k≠hp Y->Abs.look L' k=Abs.look L k):=by
 have hb:=h.blk;have F1:=bF hb;have K1:=bK hb;have G1:=bN hb;have hm0:D.m≠0:=by omega
 have c0:=h.hd;rw[jan hm0,jan hm0,jan hm0]at c0;have c1:=h.hs hm0;have hi':(i:Int)<D.m:=by omega
 have hi0:(0:Int)<=i:=by omega
 have hr':(r:Int)<R:=by omega
 have hr0:(0:Int)<=r:=by omega
 have sg:=sget (o:=src) hi;rw[hsr]at sg;have yg:=qget (f:=y) hr;have kn:=f_neg (kp.mono (by omega:100000000<=19000000000));rcases ht:(src i).2 with _ | _
 ·rw[ht]at sg;have ka:=f_add (ky.mono (by omega:18000000000<=19000000000)) ((jls kp).mono (by omega:100000000<=19000000000));generalize hx:y r+ -price=x at*;generalize hnp: -price=np at*;obtain⟨L',hL',hb',hl',ho'⟩:∃L',L'=L.map (fun p=>if p.1=hp Y then(p.1,4,(tab R fun k=>qc (y k)).set r (fc x))else p)/\blks L'/\Abs.look L' (hp Y)=some (4,tab R fun k=>qc (chU false y r price k))/\∀k,k≠hp Y->Abs.look L' k=Abs.look L k:=by
   refine⟨_,rfl,jb5 hb,(jab hY).trans ?_,fun k hk=>jag hk⟩;rw[qset];congr 2;refine jas fun k hk=>congrArg qc ?_;unfold chU;by_cases e:k=r
   ·rw[if_pos e,if_pos e,e,if_neg Bool.false_ne_true,hnp,hx]
   ·rw[if_neg e,if_neg e]
  simp only[frac,ints]at kn ka;refine jb8 (goodH [] []) _ _ [] Tryz.func200 rfl rfl (by decide+kernel) rfl ?_;unfold frac;simp only[c0,c1,sg,hi',hi0,jaa,Int.toNat_natCast,F1,K1,G1,go_sem];refine ja1 kn (by decide) ?_;simp only[c0,c1,sg,hi',hi0,jaa,Int.toNat_natCast,F1,K1,G1,go_sem];refine jb7 (by decide+kernel) ?_;simp only[c0,c1,sg,hY,yg,hi',hi0,hr',hr0,jaa,Int.toNat_natCast,F1,K1,G1,go_sem];refine ja7 ka (by decide) ?_;simp only[c0,c1,sg,hY,yg,hi',hi0,hr',hr0,jaa,Int.toNat_natCast,F1,K1,G1,go_sem];refine jbd L' hb' (ja4 (by decide) hb' (ja4 (by decide) hb' (SubR.of_eq hL'))) ?_;simp only[go_sem];exact⟨hb',hl',ho'⟩
 ·rw[ht]at sg;have ka:=f_add (ky.mono (by omega:18000000000<=19000000000)) (kp.mono (by omega:100000000<=19000000000));generalize hx:y r+price=x at*;obtain⟨L',hL',hb',hl',ho'⟩:∃L',L'=L.map (fun p=>if p.1=hp Y then(p.1,4,(tab R fun k=>qc (y k)).set r (fc x))else p)/\blks L'/\Abs.look L' (hp Y)=some (4,tab R fun k=>qc (chU true y r price k))/\∀k,k≠hp Y->Abs.look L' k=Abs.look L k:=by
   refine⟨_,rfl,jb5 hb,(jab hY).trans ?_,fun k hk=>jag hk⟩;rw[qset];congr 2;refine jas fun k hk=>congrArg qc ?_;unfold chU;by_cases e:k=r
   ·rw[if_pos e,if_pos e,e,if_pos rfl,hx]
   ·rw[if_neg e,if_neg e]
  simp only[frac,ints]at ka;refine jb8 (goodH [] []) _ _ [] Tryz.func200 rfl rfl (by decide+kernel) rfl ?_;unfold frac;simp only[c0,c1,sg,hi',hi0,jaa,Int.toNat_natCast,F1,K1,G1,go_sem];refine jb7 (by decide+kernel) ?_;simp only[c0,c1,sg,hY,yg,hi',hi0,hr',hr0,jaa,Int.toNat_natCast,F1,K1,G1,go_sem];refine ja7 ka (by decide) ?_;simp only[c0,c1,sg,hY,yg,hi',hi0,hr',hr0,jaa,Int.toNat_natCast,F1,K1,G1,go_sem];refine jbd L' hb' (ja4 (by decide) hb' (ja4 (by decide) hb' (SubR.of_eq hL'))) ?_;simp only[go_sem];exact⟨hb',hl',ho'⟩
end
end
section
open Go.Abs
open Go.LP (Dic find)
attribute [local go_sem] ints ic big frac fc
theorem jaw(b s i j:Nat):AV.toH (.loc (hp b) s i j)= .loc (hp b) s i j:=by simp only[AV.toH,hp_ge,if_true]
def prU(D:Dic)(N:Nat)(src:Nat->Int×Bool)(y0:Nat->Rat)(pr:Nat->Rat):Nat->Nat->Rat
 | 0=>y0
 | j+1=>if D.free j<N then prU D N src y0 pr j else chU (src (D.free j-N)).2 (prU D N src y0 pr j) (src (D.free j-N)).1.toNat (pr j)
theorem FL_chU{t:Bool}{y:Nat->Rat}{r:Nat}{p:Rat}{k c:Nat}(hy:FL c (y k))(hp:FL 100000000 p):FL (c+100000001) (chU t y r p k):=by
 unfold chU;split
 ·cases t
  ·exact(job hy (jls hp)).mono (by omega)
  ·exact(job hy hp).mono (by omega)
 ·exact hy.mono (by omega)
theorem jqj{D:Dic}{N:Nat}{src:Nat->Int×Bool}{y0 pr:Nat->Rat}{c:Nat}(h0:∀k,FL c (y0 k))(hp:∀j,j<D.n->FL 100000000 (pr j)):∀j,j<=D.n->∀k,FL (c+j*100000001) (prU D N src y0 pr j k)
 | 0,_,k=>(h0 k).mono (by omega)
 | j+1,hj,k=>by
  have ih:=jqj (D:=D) (N:=N) (src:=src) h0 hp j (by omega);rw[prU];split
  ·exact(ih k).mono (by omega)
  ·exact(FL_chU (ih k) (hp j (by omega))).mono (by omega)
section
variable{L:Abs.Rows}{nm:DN}{N:Nat}{D:Dic}{src:Nat->Int×Bool}
structure Srcs(D:Dic)(N R:Nat)(src:Nat->Int×Bool):Prop where
 free:∀j,j<D.n->N<=D.free j->D.free j-N<D.m
 own:∀i,i<D.m->N<=D.own i->D.own i-N<D.m
 row:∀i,i<D.m->0<=(src i).1/\(src i).1<(R:Int)
set_option maxHeartbeats 4000000 in
theorem x_prices(h:HasD L nm N D src)(R:Nat)(hR:R<=100000)(hm:D.m<=100000)(hn:D.n<=100)(hN:N<=100000)(hs:Srcs D N R src)(hf:∀j,j<D.n->D.free j<=1000000)(sm:SmD D):
  CtrH G.P 152 [.loc (hp nm.d) 6 0 0,.im (.int R)] L (fun x L'=>∃b,x= .im (.ref b 42 4 R)/\blks L'/\SubR L L'/\Abs.look L (hp b)=none/\Abs.look L' (hp b)=some (4,tab R fun k=>qc (prU D N src (fun _=>0) (fun j=> -D.g j) D.n k))):=by
 have hb:=h.blk;have F1:=bF hb;have K1:=bK hb;have G1:=bN hb;have c0:=h.hd;have kz:=jha R hR;by_cases hn0:D.n=0
 ·rw[hn0,jb9]at c0;refine jb8 (goodH [] []) _ _ [.tmp 4] Tryz.func152 rfl rfl (by decide+kernel) rfl ?_;simp only[F1,K1,G1,go_sem];refine jcc kz (by decide) rfl jbl jbp ?_;rintro _ L0 ⟨b,rfl,hb0,hb1,hb2⟩ hfr;have hnew:=(hfr (hp b) (by rw[hb1];rfl)).resolve_left (by simp[Abs.look]);refine⟨(hp b,4,tab R fun _=>qc 0)::L,?_,?_⟩
  ·simp only[F1,K1,G1,go_sem];exact jc7 hb1
  have hLb:Abs.look L (hp b)=none:=by
   revert hnew;simp only[F1,K1,G1,go_sem];exact fun h=>h
  clear hnew hfr kz;have ndb:¬nm.d=b:=fun e=>by rw[e,hLb]at c0;cases c0
  have hbM:blks ((hp b,4,tab R fun _=>qc 0)::L):=jao hb;simp only[c0,ndb,F1,K1,G1,go_sem];refine jb3 [5,14,15] (fun g:Unit=>⟨[(5,.im (.ref b 42 4 R)),(14,.im (.int 0)),(15,.im (.int 0))],(hp b,4,tab R fun _=>qc 0)::L,[]⟩) (fun _=>True) (fun _=>0) () ?_ (SubR.of_eq rfl) rfl trivial ?_
  ·simp only[go_sem]
  intro _ _;have hpt:(tab R fun k=>qc (prU D N src (fun _=>0) (fun j=> -D.g j) D.n k))=tab R fun _=>qc 0:=by rw[hn0];rfl
  simp only[go_sem];refine jbd _ hbM (SubR.of_eq rfl) ?_;rw[hpt];simp only[go_sem];exact⟨b,rfl,hbM,ja3 hLb (SubR.of_eq rfl),hLb,if_pos rfl⟩
 ·rw[jan hn0]at c0;have cf:=h.hf hn0;refine jb8 (goodH [] []) _ _ [.tmp 4] Tryz.func152 rfl rfl (by decide+kernel) rfl ?_;simp only[F1,K1,G1,go_sem];refine jcc kz (by decide) rfl jbl jbp ?_;rintro _ L0 ⟨b,rfl,hb0,hb1,hb2⟩ hfr;have hnew:=(hfr (hp b) (by rw[hb1];rfl)).resolve_left (by simp[Abs.look]);refine⟨(hp b,4,tab R fun _=>qc 0)::L,?_,?_⟩
  ·simp only[F1,K1,G1,go_sem];exact jc7 hb1
  have hLb:Abs.look L (hp b)=none:=by
   revert hnew;simp only[F1,K1,G1,go_sem];exact fun h=>h
  clear hnew hfr kz;have ndb:¬nm.d=b:=fun e=>by rw[e,hLb]at c0;cases c0
  have hbM:blks ((hp b,4,tab R fun _=>qc 0)::L):=jao hb;simp only[c0,ndb,F1,K1,G1,go_sem];refine jb3 [0,5,13,14,15] (fun g:Nat×Abs.Rows=>⟨[(0,.loc (hp nm.d) 6 0 0),(5,.im (.ref b 42 4 R)),(13,.im (.ref nm.f 3 1 D.n)),(14,.im (.int D.n)),(15,.im (.int g.1))],g.2,[]⟩)
   (fun g=>g.1<=D.n/\blks g.2/\SubR L g.2/\Abs.look g.2 (hp b)=some (4,tab R fun k=>qc (prU D N src (fun _=>0) (fun j=> -D.g j) g.1 k))) (fun g=>D.n-g.1) (0,(hp b,4,tab R fun _=>qc 0)::L) ?_ (SubR.of_eq rfl) rfl
   ⟨Nat.zero_le _,hbM,ja3 hLb (SubR.of_eq rfl),ja2 _ _ _⟩ ?_
  ·simp only[Int.natCast_zero,go_sem]
  rintro⟨j,M⟩ ⟨hj,hM,hsM,hl⟩;dsimp only at hj hM hsM hl;have F2:=bF hM;have K2:=bK hM;have G2:=bN hM;have d0:=hsM _ _ c0;have df:=hsM _ _ cf;have dg:=hsM _ _ h.hg;rcases Nat.lt_or_ge j D.n with hlt | hlt
  ·have hd:decide ((j:Int)<D.n)=true:=decide_eq_true (by omega);have hjn:(j:Int)<D.n:=by omega
   have hj0:(0:Int)<=j:=by omega
   have w1:=jad (n:=(j:Int)+1) (by omega);have fg:=oget (o:=D.free) hlt;have gg:=qget (f:=D.g) hlt;have hfj:=hf j hlt;rcases Nat.lt_or_ge (D.free j) N with hv | hv
   ·have hd2:decide ((N:Int)<=D.free j)=false:=decide_eq_false (by omega);simp only[hd,hd2,d0,df,fg,hjn,hj0,jaa,Int.toNat_natCast,F2,K2,G2,go_sem];refine jac (j+1,M) ?_ (SubR.of_eq rfl) rfl (by show D.n-(j+1)<D.n-j;omega) ⟨hlt,hM,hsM,hl.trans ?_⟩
    ·simp only[w1,Int.natCast_add,go_sem]
    ·congr 2;refine jas fun k hk=>congrArg qc ?_;rw[prU,if_pos hv]
   ·have hd2:decide ((N:Int)<=D.free j)=true:=decide_eq_true (by omega);have him:=hs.free j hlt hv;have hsr:=hs.row _ him;have w2:=jad (n:=((D.free j-N:Nat):Int)) (by omega);have w3:(D.free j:Int)-N=((D.free j-N:Nat):Int):=by omega
    have HM:=h.sub hM hsM;have kn:=f_neg (sm.g j hlt |>.mono (by omega:100000000<=19000000000));have ky:=jqj (D:=D) (N:=N) (src:=src) (y0:=fun _=>0) (pr:=fun j=> -D.g j) (c:=4) (fun _=>jck (n:=0) (by omega)) (fun j hj=>jls (sm.g j hj)) j hj (src (D.free j-N)).1.toNat;have kc:=jj2 HM him (r:=(src (D.free j-N)).1.toNat) (by omega) (by omega:(src (D.free j-N)).1.toNat<R) _ hl (-D.g j) hR hm (ky.mono (by
     have:j*100000001<=100*100000001:=Nat.mul_le_mul_right _ (by omega);omega)) (jls (sm.g j hlt))
    have hps:prU D N src (fun _=>0) (fun j=> -D.g j) (j+1)=chU (src (D.free j-N)).2 (prU D N src (fun _=>0) (fun j=> -D.g j) j) (src (D.free j-N)).1.toNat (-D.g j):=by
     rw[prU,if_neg (by omega)]
    generalize-D.g j=ng at*;simp only[frac,ints]at kn kc;simp only[hd,hd2,d0,df,fg,hjn,hj0,jaa,Int.toNat_natCast,F2,K2,G2,go_sem];refine jav 16 (by decide+kernel) ?_;simp only[hd,hd2,d0,df,dg,fg,gg,hjn,hj0,w2,w3,jaa,Int.toNat_natCast,F2,K2,G2,go_sem];refine ja7 kn (by decide) ?_;simp only[hd,hd2,d0,df,dg,fg,gg,hjn,hj0,w2,w3,jaa,Int.toNat_natCast,F2,K2,G2,go_sem];refine jak kc (by decide) (by simp only[List.map_cons,List.map_nil,jaw];rfl) hM (SubR.of_eq rfl) ?_;rintro _ L2 ⟨rfl,t1,t2,t3⟩ _;refine⟨L2,jbh,?_⟩;have F3:=bF t1;simp only[F3,go_sem];refine jac (j+1,L2) ?_ (SubR.of_eq rfl) rfl (by show D.n-(j+1)<D.n-j;omega) ⟨hlt,t1,fun k x hk=> ?_,t2.trans ?_⟩
    ·simp only[w1,Int.natCast_add,go_sem]
    ·rw[t3 k (fun e=>by subst e;rw[hLb]at hk;cases hk)];exact hsM k x hk
    ·dsimp only;rw[hps]
  ·have hd:decide ((j:Int)<D.n)=false:=decide_eq_false (by omega);have hjn:j=D.n:=by omega
   subst hjn;simp only[hd,go_sem];refine jbd M hM (SubR.of_eq rfl) ?_;simp only[go_sem];exact⟨b,rfl,hM,hsM,hLb,hl⟩
end
end
section
open Go.Abs
open Go.LP (Rw RT tsum)
attribute [local go_sem] ints ic big frac fc rwC tmC Evid.c Place.c Move.c Cert.c Recall.c Purity.c
structure MN where
 (d r o:Nat)
structure HasM(L:Abs.Rows)(nm:MN)(e:Evid)(ws:List Rw)(os:List (List IV)):Prop where
 blk:blks L
 dr:ws.length≠0->nm.d≠nm.r
 d_o:ws.length≠0->nm.d≠nm.o
 ro:ws.length≠0->nm.r≠nm.o
 len:os.length=ws.length
 o4:∀c∈os,c.length=4
 hd:Abs.look L (hp nm.d)=some (10,[e.c++[sl0 nm.r 227 6 ws.length,sl0 nm.o 222 4 ws.length]])
 hr:ws.length≠0->Abs.look L (hp nm.r)=some (6,ws.map rwC)
 ho:ws.length≠0->Abs.look L (hp nm.o)=some (4,os)
theorem HasM.sub{L L':Abs.Rows}{nm:MN}{e:Evid}{ws:List Rw}{os:List (List IV)}(h:HasM L nm e ws os)(hb:blks L')(hs:SubR L L'):HasM L' nm e ws os:=
 ⟨hb,h.dr,h.d_o,h.ro,h.len,h.o4,hs _ _ h.hd,fun hw=>hs _ _ (h.hr hw),fun hw=>hs _ _ (h.ho hw)⟩
theorem jfn{L R:Abs.Rows}{b X:Nat}{v:Nat×List (List IV)}(hs:SubR L R)(hb:Abs.look L (hp b)=none)(hX:Abs.look (Abs.del R (hp b)) (hp X)=none):
  SubR L ((hp X,v)::Abs.del R (hp b))/\Abs.look L (hp X)=none:=by
 have hl:∀k x,Abs.look L k=some x->Abs.look (Abs.del R (hp b)) k=some x:=fun k x hk=>by
  rw[ja5 _ (fun e=>by subst e;rw[hb]at hk;cases hk)];exact hs k x hk
 have hx:Abs.look L (hp X)=none:=by
  cases hx:Abs.look L (hp X)with
  | none=>rfl
  | some y=>rw[hl _ y hx]at hX;cases hX
 exact⟨ja3 hx hl,hx⟩
section
variable{L:Abs.Rows}{nm:MN}{e:Evid}{ws:List Rw}{os:List (List IV)}{M:Nat}
theorem e_var(h:HasM L nm e ws os)(hM:e.mats=(M:Int))(mv k:Nat)(hm:mv<=1000)(hk:k<=1000)(hM6:M<=6):
  CtrH G.P 187 [.loc (hp nm.d) 10 0 0,.im (.int mv),.im (.int k)] L (fun x L'=>x= .im (.int ((mv*M+k:Nat):Int))/\L'=L):=by
 have hb:=h.blk;have F1:=bF hb;have K1:=bK hb;have G1:=bN hb;have c0:=h.hd;have hb1:mv*M<=1000*6:=Nat.mul_le_mul hm hM6;have w1:=jad (n:=(mv:Int)*e.mats) (by rw[hM,<-Int.natCast_mul];omega);have w2:=jad (n:=(mv:Int)*e.mats+k) (by rw[hM,<-Int.natCast_mul];omega);have w3:(mv:Int)*e.mats+k=((mv*M+k:Nat):Int):=by rw[hM,Int.natCast_add,Int.natCast_mul]
 rw[<-w3];refine jb8 (goodH [] []) _ _ [.tmp 6] Tryz.func187 rfl rfl (by decide+kernel) rfl ?_;simp only[c0,F1,K1,G1,go_sem];refine jbd L hb (SubR.of_eq rfl) ?_;simp only[w1,w2,go_sem]
theorem jn9{mv:Nat}{b own more:Int}{k:Nat}(h:coF b own more k=0):sumT M mv b own more (k+1)=sumT M mv b own more k:=by rw[sumT,if_pos h]
theorem jlw{mv:Nat}{b own more:Int}:∀k,(sumT M mv b own more k).length<=k
 | 0=>Nat.le_refl _
 | k+1=>by
  have:=jlw (mv:=mv) (b:=b) (own:=own) (more:=more) k;rw[sumT];split
  ·omega
  ·rw[List.length_append,List.length_singleton];omega
theorem jlz{mv:Nat}{b own more:Int}{k:Nat}(h:coF b own more k≠0):sumT M mv b own more (k+1)=sumT M mv b own more k++[(mv*M+k,((coF b own more k:Int):Rat))]:=by rw[sumT,if_neg h]
def NEWT(L R:Abs.Rows)(b:Nat)(ts:List (Nat×Rat)):Prop:=ts.length≠0->Abs.look R (hp b)=some (5,ts.map tmC)/\Abs.look L (hp b)=none
def sA(A n:Nat):AV:=if n=0 then .sx []else .im (.ref A 132 5 n)
def rA(A n:Nat):AV:=if n=0 then .im (.sl [])else .im (.ref A 132 5 n)
theorem jcv{A n:Nat}(h:n=0):sA A n= .sx []:=if_pos h
theorem jch{A n:Nat}(h:n≠0):sA A n= .im (.ref A 132 5 n):=if_neg h
theorem NEWT.app{L R:Abs.Rows}{X:Nat}{ts:List (Nat×Rat)}{t:Nat×Rat}(h:Abs.look R (hp X)=some (5,ts.map tmC++[tmC t]))(h':Abs.look L (hp X)=none):NEWT L R X (ts++[t]):=fun _=>⟨by rw[h,List.map_append];rfl,h'⟩
set_option maxHeartbeats 4000000 in
theorem e_sum(h:HasM L nm e ws os)(hM:e.mats=(M:Int))(mv:Nat)(b own more:Int)(hm:mv<=1000)(hM6:M<=6)(hb1: -1000<=b/\b<=1000)(hmo: -1000<=more/\more<=1000):
  CtrH G.P 189 [.loc (hp nm.d) 10 0 0,.im (.int mv),.im (.int b),.im (.int own),.im (.int more)] L
   (fun x L'=>∃A,x=rA A (sumT M mv b own more M).length/\blks L'/\SubR L L'/\NEWT L L' A (sumT M mv b own more M)):=by
 have hb:=h.blk;have F1:=bF hb;have K1:=bK hb;have G1:=bN hb;have c0:=h.hd;simp only[Evid.c,hM]at c0;refine jb8 (goodH [40] []) _ _ [.tmp 10] Tryz.func189 rfl rfl (by decide+kernel) rfl ?_;simp only[c0,hM,F1,K1,G1,go_sem];refine jb3 [0,1,2,3,4,11,18,19] (fun g:(Nat×Nat)×Abs.Rows=>⟨[(0,.loc (hp nm.d) 10 0 0),(1,.im (.int mv)),(2,.im (.int b)),(3,.im (.int own)),(4,.im (.int more)),(11,sA g.1.2 (sumT M mv b own more g.1.1).length),(18,.im (.int M)),(19,.im (.int g.1.1))],g.2,[]⟩)
  (fun g=>g.1.1<=M/\blks g.2/\SubR L g.2/\NEWT L g.2 g.1.2 (sumT M mv b own more g.1.1)) (fun g=>M-g.1.1) ((0,0),L) ?_ (SubR.of_eq rfl) rfl ⟨Nat.zero_le _,hb,SubR.of_eq rfl,fun h=>absurd rfl h⟩ ?_
 ·have hz:=jcv (A:=0) (show(sumT M mv b own more 0).length=0 from rfl);simp only[Int.natCast_zero,hz,go_sem]
 rintro⟨⟨k,A⟩,R⟩ hP;obtain⟨hj,hR,hsR,hbn⟩:=hP;dsimp only at hj hR hsR hbn;have F2:=bF hR;have K2:=bK hR;have G2:=bN hR;have d0:=hsR _ _ c0;rcases Nat.lt_or_ge k M with hlt | hlt
 ·have hd:decide ((k:Int)<M)=true:=decide_eq_true (by omega);have h1:=jad (n:=(k:Int)+1) (by omega);have h2:=jad (n:=b+more) (by omega);have kv:=e_var (h.sub hR hsR) hM mv k hm (by omega) hM6;have vl:mv*M+k<100000:=by
   have:mv*M<=1000*6:=Nat.mul_le_mul hm hM6;omega
  obtain⟨c,hc⟩:∃c,c=coF b own more k:=⟨_,rfl⟩;have kI:Ctr G.P 19 [.int c] (· =frac (c:Rat)):=jcb c (by rw[hc];unfold coF;split<;>omega);simp only[frac,ints]at kI;have key:∀(p:Bool),decide ((k:Int)=own)=p->(if p=true then b+more else b)=c:=fun p hp=>by
   rw[hc];unfold coF;cases p
   ·rw[if_neg (by decide),if_neg (of_decide_eq_false hp)]
   ·rw[if_pos rfl,if_pos (of_decide_eq_true hp)]
  rcases hown:decide ((k:Int)=own)with _ | _
  ·have hcb:=key _ hown;simp only[Bool.false_eq_true,if_false]at hcb;subst hcb;rcases hc0:decide (b=0)with _ | _
   ·have hadd:=jlz (M:=M) (mv:=mv) (hc▸of_decide_eq_false hc0:coF b own more k≠0);rw[<-hc]at hadd;by_cases hn:(sumT M mv b own more k).length=0
    ·have hs0:=jcv (A:=A) hn;have hnil:sumT M mv b own more k=[]:=List.eq_nil_of_length_eq_zero hn;simp only[hd,hown,h2,hc0,hs0,go_sem];refine jak kv (by decide) (by simp only[List.map_cons,List.map_nil,jaw];rfl) hR (SubR.of_eq rfl) ?_;rintro _ L1 ⟨rfl,hL1⟩ _;subst hL1;refine⟨_,jbh,?_⟩;simp only[F2,K2,G2,go_sem];refine ja1 kI (by decide) ?_;simp only[F2,K2,G2,go_sem];refine And.intro (fun c' hc'=>by rw[List.mem_singleton.1 hc'];rfl) ?_;refine jip (fun X hX=> ?_);have lX1:Abs.look L1 (hp X)=none:=hX;clear hX;have lX:Abs.look L (hp X)=none:=by
      cases hx:Abs.look L (hp X)with
      | none=>rfl
      | some y=>rw[hsR _ _ hx]at lX1;cases lX1
     have hs1:=jch (A:=X) (n:=(sumT M mv b own more (k+1)).length) (by rw[hadd,List.length_append];exact Nat.succ_ne_zero _);have hl1:(sumT M mv b own more (k+1)).length=1:=by rw[hadd,hnil];rfl
     rw[hl1]at hs1;simp only[F2,K2,G2,go_sem];refine jac ((k+1,X),(hp X,5,[tmC (mv*M+k,((b:Int):Rat))])::L1) ?_ (SubR.of_eq rfl) rfl (by show M-(k+1)<M-k;omega) ⟨hlt,jao hR,ja3 lX hsR,?_⟩
     ·simp only[h1,hl1,hs1,Int.natCast_add,go_sem]
     ·dsimp only;rw[hadd];refine NEWT.app ?_ lX;rw[ja2,hnil];rfl
    ·have hs0:=jch (A:=A) hn;obtain⟨hrA,hLA⟩:=hbn hn;have htk:List.take (sumT M mv b own more k).length ((sumT M mv b own more k).map tmC)=(sumT M mv b own more k).map tmC:=List.take_of_length_le (by rw[List.length_map];exact Nat.le_refl _);have hlk:=jlw (M:=M) (mv:=mv) (b:=b) (own:=own) (more:=more) k;simp only[hd,hown,h2,hc0,hs0,go_sem];refine jak kv (by decide) (by simp only[List.map_cons,List.map_nil,jaw];rfl) hR (SubR.of_eq rfl) ?_;rintro _ L1 ⟨rfl,hL1⟩ _;subst hL1;refine⟨_,jbh,?_⟩;simp only[F2,K2,G2,go_sem];refine ja1 kI (by decide) ?_;simp only[hrA,htk,List.length_map,F2,K2,G2,go_sem];refine And.intro (fun c' hc'=>by rw[List.mem_singleton.1 hc'];rfl) (And.intro (Nat.le_refl _) (And.intro (by omega) ?_));refine jmv (fun X hX=> ?_);obtain⟨lS,lX⟩:=jfn (v:=(5,(sumT M mv b own more k).map tmC++[tmC (mv*M+k,((b:Int):Rat))])) hsR hLA (X:=X) hX;clear hX;have hl1:(sumT M mv b own more (k+1)).length=(sumT M mv b own more k).length+1:=by rw[hadd,List.length_append];rfl
     have hs1:=jch (A:=X) (n:=(sumT M mv b own more k).length+1) (Nat.succ_ne_zero _);simp only[F2,K2,G2,go_sem];refine jac ((k+1,X),(hp X,5,(sumT M mv b own more k).map tmC++[tmC (mv*M+k,((b:Int):Rat))])::Abs.del L1 (hp A)) ?_ (SubR.of_eq rfl) rfl (by show M-(k+1)<M-k;omega) ⟨hlt,jao (jbf hR),lS,?_⟩
     ·simp only[h1,hl1,hs1,Int.natCast_add,go_sem]
     ·dsimp only;rw[hadd];exact NEWT.app (ja2 _ _ _) lX
   ·have hskip:=jn9 (M:=M) (mv:=mv) (hc▸of_decide_eq_true hc0:coF b own more k=0);simp only[hd,hown,hc0,go_sem];refine jac ((k+1,A),R) ?_ (SubR.of_eq rfl) rfl (by show M-(k+1)<M-k;omega) ⟨hlt,hR,hsR,by dsimp only;rw[hskip];exact hbn⟩;simp only[h1,hskip,Int.natCast_add,go_sem]
  ·have hcb:=key _ hown;simp only[if_true]at hcb;replace h2:=h2.trans hcb;rcases hc0:decide (c=0)with _ | _
   ·have hadd:=jlz (M:=M) (mv:=mv) (hc▸of_decide_eq_false hc0:coF b own more k≠0);rw[<-hc]at hadd;by_cases hn:(sumT M mv b own more k).length=0
    ·have hs0:=jcv (A:=A) hn;have hnil:sumT M mv b own more k=[]:=List.eq_nil_of_length_eq_zero hn;simp only[hd,hown,h2,hc0,hs0,go_sem];refine jak kv (by decide) (by simp only[List.map_cons,List.map_nil,jaw];rfl) hR (SubR.of_eq rfl) ?_;rintro _ L1 ⟨rfl,hL1⟩ _;subst hL1;refine⟨_,jbh,?_⟩;simp only[F2,K2,G2,go_sem];refine ja1 kI (by decide) ?_;simp only[F2,K2,G2,go_sem];refine And.intro (fun c' hc'=>by rw[List.mem_singleton.1 hc'];rfl) ?_;refine jip (fun X hX=> ?_);have lX1:Abs.look L1 (hp X)=none:=hX;clear hX;have lX:Abs.look L (hp X)=none:=by
      cases hx:Abs.look L (hp X)with
      | none=>rfl
      | some y=>rw[hsR _ _ hx]at lX1;cases lX1
     have hs1:=jch (A:=X) (n:=(sumT M mv b own more (k+1)).length) (by rw[hadd,List.length_append];exact Nat.succ_ne_zero _);have hl1:(sumT M mv b own more (k+1)).length=1:=by rw[hadd,hnil];rfl
     rw[hl1]at hs1;simp only[F2,K2,G2,go_sem];refine jac ((k+1,X),(hp X,5,[tmC (mv*M+k,((c:Int):Rat))])::L1) ?_ (SubR.of_eq rfl) rfl (by show M-(k+1)<M-k;omega) ⟨hlt,jao hR,ja3 lX hsR,?_⟩
     ·simp only[h1,hl1,hs1,Int.natCast_add,go_sem]
     ·dsimp only;rw[hadd];refine NEWT.app ?_ lX;rw[ja2,hnil];rfl
    ·have hs0:=jch (A:=A) hn;obtain⟨hrA,hLA⟩:=hbn hn;have htk:List.take (sumT M mv b own more k).length ((sumT M mv b own more k).map tmC)=(sumT M mv b own more k).map tmC:=List.take_of_length_le (by rw[List.length_map];exact Nat.le_refl _);have hlk:=jlw (M:=M) (mv:=mv) (b:=b) (own:=own) (more:=more) k;simp only[hd,hown,h2,hc0,hs0,go_sem];refine jak kv (by decide) (by simp only[List.map_cons,List.map_nil,jaw];rfl) hR (SubR.of_eq rfl) ?_;rintro _ L1 ⟨rfl,hL1⟩ _;subst hL1;refine⟨_,jbh,?_⟩;simp only[F2,K2,G2,go_sem];refine ja1 kI (by decide) ?_;simp only[hrA,htk,List.length_map,F2,K2,G2,go_sem];refine And.intro (fun c' hc'=>by rw[List.mem_singleton.1 hc'];rfl) (And.intro (Nat.le_refl _) (And.intro (by omega) ?_));refine jmv (fun X hX=> ?_);obtain⟨lS,lX⟩:=jfn (v:=(5,(sumT M mv b own more k).map tmC++[tmC (mv*M+k,((c:Int):Rat))])) hsR hLA (X:=X) hX;clear hX;have hl1:(sumT M mv b own more (k+1)).length=(sumT M mv b own more k).length+1:=by rw[hadd,List.length_append];rfl
     have hs1:=jch (A:=X) (n:=(sumT M mv b own more k).length+1) (Nat.succ_ne_zero _);simp only[F2,K2,G2,go_sem];refine jac ((k+1,X),(hp X,5,(sumT M mv b own more k).map tmC++[tmC (mv*M+k,((c:Int):Rat))])::Abs.del L1 (hp A)) ?_ (SubR.of_eq rfl) rfl (by show M-(k+1)<M-k;omega) ⟨hlt,jao (jbf hR),lS,?_⟩
     ·simp only[h1,hl1,hs1,Int.natCast_add,go_sem]
     ·dsimp only;rw[hadd];exact NEWT.app (ja2 _ _ _) lX
   ·have hskip:=jn9 (M:=M) (mv:=mv) (hc▸of_decide_eq_true hc0:coF b own more k=0);simp only[hd,hown,h2,hc0,go_sem];refine jac ((k+1,A),R) ?_ (SubR.of_eq rfl) rfl (by show M-(k+1)<M-k;omega) ⟨hlt,hR,hsR,by dsimp only;rw[hskip];exact hbn⟩;simp only[h1,hskip,Int.natCast_add,go_sem]
 ·have hd:decide ((k:Int)<M)=false:=decide_eq_false (by omega);have hkM:k=M:=by omega
  subst hkM;simp only[hd,go_sem];refine jbd R hR (SubR.of_eq rfl) ?_;simp only[go_sem];refine⟨A,?_,hR,hsR,hbn⟩;by_cases hn:(sumT k mv b own more k).length=0
  ·rw[jcv hn];unfold rA;rw[if_pos hn]
  ·rw[jch hn];unfold rA;rw[if_neg hn]
end
end
end Go.Proofs.YtfahloobpegieaaGreat
