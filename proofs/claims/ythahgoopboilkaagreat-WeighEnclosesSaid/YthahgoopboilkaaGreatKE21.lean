/- A part of the proof. No further condition. -/
import Derived.Test.YthahgoopboilkaaGreatKE20
set_option linter.all false
set_option maxRecDepth 10000000
set_option maxHeartbeats 16000000
namespace Go.Proofs.YthahgoopboilkaaGreat
section
open Go.Abs
open Go.LP (Dic find)
attribute [local go_sem] ints ic big frac fc
def rayU(D:Dic)(s i k:Nat):Rat:=match find D.own k i with
 | some i'=> -(D.a i' s)
 | none=>if k=D.free s then 1 else 0
theorem jia{D:Dic}{s i k:Nat}:rayU D s (i+1) k=if D.own i=k then-(D.a i s)else rayU D s i k:=by
 unfold rayU;rw[LP.find];split
 ·rename_i h;split at h
  ·rename_i e;cases h;rw[zm e]
  ·rename_i e;rw[zn e,h]
 ·rename_i h;split at h
  ·cases h
  ·rename_i e;rw[zn e,h]
section
variable{L:Abs.Rows}{nm:DN}{N:Nat}{D:Dic}{src:Nat->Int×Bool}
theorem x_ray(h:HasD L nm N D src){s:Nat}(hsn:s<D.n)(hN:N<=100000)(hm:D.m<=100000)(ho:∀i,i<D.m->D.own i<=1000000)(hf:D.free s<=1000000)(sm:SmD D):
  CtrH G.P 131 [.loc (hp nm.d) 6 0 0,.im (.int s)] L (fun x L'=>∃b,x= .im (.ref b 35 4 N)/\blks L'/\SubR L L'/\Abs.look L (hp b)=none/\Abs.look L' (hp b)=some (4,tab N fun k=>qc (D.dir s k))):=by
 have hb:=h.blk;have F1:=bF hb;have K1:=bK hb;have G1:=bN hb;have c0:=h.hd;have hn0:D.n≠0:=by omega
 have cf:=h.hf hn0;have fg:=oget (o:=D.free) hsn;have hsn':(s:Int)<D.n:=by omega
 have hs00:(0:Int)<=s:=by omega
 have kz:=jiw N hN;have o1:=jbt 1 (by omega);rw[show((1:Int):Rat)=1 from rfl]at o1;generalize hone:(1:Rat)=one at o1;simp only[frac,ints]at o1;rw[jao hn0]at c0;by_cases hm0:D.m=0
 ·rw[hm0,jbc,jbc,jbc]at c0;rcases zT (D.free s) N with hv | hv
  ·refine jav [] [] [.tmp 4] Tryz.func131 ?_;simp only[c0,F1,K1,G1,go_sem];refine jd4 kz (by decide) rfl jc8 jad ?_;rintro _ L0 ⟨b,rfl,hb0,hb1,hb2⟩ hfr;have hnew:=(hfr (hp b) (by rw[hb1];rfl)).resolve_left (by simp[Abs.look]);refine⟨(hp b,4,tab N fun _=>qc 0)::L,?_,?_⟩
   ·simp only[c0,F1,K1,G1,go_sem];exact jcb hb1
   have hLb:Abs.look L (hp b)=none:=by
    revert hnew;simp only[c0,F1,K1,G1,go_sem];exact fun h=>h
   clear hnew hfr kz;have ndb:¬nm.d=b:=fun e=>by rw[e,hLb]at c0;cases c0
   have nfb:¬nm.f=b:=fun e=>by rw[e,hLb]at cf;cases cf
   have ndb':¬b=nm.d:=fun e=>ndb e.symm;have hbM:blks ((hp b,4,tab N fun _=>qc 0)::L):=jat hb;have zg:∀k,k<N->(tab N fun _=>qc 0)[k]? =some (fc 0):=fun k hk=>qget (f:=fun _=>0) hk;have hvN:(D.free s:Int)<N:=by omega
   have hd2:decide ((D.free s:Int)<N)=true:=za hvN;have hv0:(0:Int)<=D.free s:=by omega
   have zg1:=zg _ hv;have hmb:=fun(s:Nat) (es:List (List IV))=>jdo (L:=L) (d:=hp b) (s:=s) (es:=es) hLb;simp only[c0,cf,fg,ndb,nfb,hd2,hsn',hs00,ja6,Int.toNat_natCast,F1,K1,G1,go_sem];refine ja1 o1 ?_;simp only[c0,cf,fg,ndb,ndb',nfb,hvN,hv0,zg1,hsn',hs00,ja6,Int.toNat_natCast,hmb,F1,K1,G1,go_sem];obtain⟨M1,hM1e,hM1,hs1,hl1⟩:∃M1,M1=(hp b,4,(tab N fun _=>qc 0).set (D.free s) (fc one))::L/\blks M1/\SubR L M1/\Abs.look M1 (hp b)=some (4,tab N fun k=>qc (rayU D s 0 k)):=by
    refine⟨_,rfl,jat hb,jas hLb (SubR.of_eq rfl),?_⟩;rw[ja2,qset (f:=fun _=>0),<-hone];rfl
   refine jaz [5,35,36] (fun g:Unit=>⟨[(5,.im (.ref b 35 4 N)),(35,.im (.int 0)),(36,.im (.int 0))],M1,[]⟩) (fun _=>True) (fun _=>0) () ?_ (SubR.of_eq hM1e) rfl trivial ?_
   ·simp only[go_sem]
   intro _ _;have hpt:(tab N fun k=>qc (D.dir s k))=tab N fun k=>qc (rayU D s 0 k):=jak fun k _=>by
    rw[show D.dir s k=rayU D s D.m k from rfl,hm0]
   simp only[go_sem];refine jbh _ hM1 (SubR.of_eq rfl) ?_;rw[hpt];simp only[go_sem];exact⟨b,rfl,hM1,hs1,hLb,hl1⟩
  ·refine jav [] [] [.tmp 4] Tryz.func131 ?_;simp only[c0,F1,K1,G1,go_sem];refine jd4 kz (by decide) rfl jc8 jad ?_;rintro _ L0 ⟨b,rfl,hb0,hb1,hb2⟩ hfr;have hnew:=(hfr (hp b) (by rw[hb1];rfl)).resolve_left (by simp[Abs.look]);refine⟨(hp b,4,tab N fun _=>qc 0)::L,?_,?_⟩
   ·simp only[c0,F1,K1,G1,go_sem];exact jcb hb1
   have hLb:Abs.look L (hp b)=none:=by
    revert hnew;simp only[c0,F1,K1,G1,go_sem];exact fun h=>h
   clear hnew hfr kz;have ndb:¬nm.d=b:=fun e=>by rw[e,hLb]at c0;cases c0
   have nfb:¬nm.f=b:=fun e=>by rw[e,hLb]at cf;cases cf
   have ndb':¬b=nm.d:=fun e=>ndb e.symm;have hbM:blks ((hp b,4,tab N fun _=>qc 0)::L):=jat hb;have zg:∀k,k<N->(tab N fun _=>qc 0)[k]? =some (fc 0):=fun k hk=>qget (f:=fun _=>0) hk;have hd2:decide ((D.free s:Int)<N)=false:=zq (by omega);simp only[c0,cf,fg,ndb,nfb,hd2,hsn',hs00,ja6,Int.toNat_natCast,F1,K1,G1,go_sem];obtain⟨M1,hM1e,hM1,hs1,hl1⟩:∃M1,M1=(hp b,4,(tab N fun _=>qc 0))::L/\blks M1/\SubR L M1/\Abs.look M1 (hp b)=some (4,tab N fun k=>qc (rayU D s 0 k)):=by
    refine⟨_,rfl,jat hb,jas hLb (SubR.of_eq rfl),?_⟩;rw[ja2];congr 2;exact jak fun k hk=>qd qc (by show(0:Rat)=if k=D.free s then 1 else 0;rw[zn (by omega)])
   refine jaz [5,35,36] (fun g:Unit=>⟨[(5,.im (.ref b 35 4 N)),(35,.im (.int 0)),(36,.im (.int 0))],M1,[]⟩) (fun _=>True) (fun _=>0) () ?_ (SubR.of_eq hM1e) rfl trivial ?_
   ·simp only[go_sem]
   intro _ _;have hpt:(tab N fun k=>qc (D.dir s k))=tab N fun k=>qc (rayU D s 0 k):=jak fun k _=>by
    rw[show D.dir s k=rayU D s D.m k from rfl,hm0]
   simp only[go_sem];refine jbh _ hM1 (SubR.of_eq rfl) ?_;rw[hpt];simp only[go_sem];exact⟨b,rfl,hM1,hs1,hLb,hl1⟩
 ·rw[jao hm0,jao hm0,jao hm0]at c0;have c1:=h.ho hm0;have c2:=h.hr hm0;rcases zT (D.free s) N with hv | hv
  ·refine jav [] [] [.tmp 4] Tryz.func131 ?_;simp only[c0,F1,K1,G1,go_sem];refine jd4 kz (by decide) rfl jc8 jad ?_;rintro _ L0 ⟨b,rfl,hb0,hb1,hb2⟩ hfr;have hnew:=(hfr (hp b) (by rw[hb1];rfl)).resolve_left (by simp[Abs.look]);refine⟨(hp b,4,tab N fun _=>qc 0)::L,?_,?_⟩
   ·simp only[c0,F1,K1,G1,go_sem];exact jcb hb1
   have hLb:Abs.look L (hp b)=none:=by
    revert hnew;simp only[c0,F1,K1,G1,go_sem];exact fun h=>h
   clear hnew hfr kz;have ndb:¬nm.d=b:=fun e=>by rw[e,hLb]at c0;cases c0
   have nfb:¬nm.f=b:=fun e=>by rw[e,hLb]at cf;cases cf
   have ndb':¬b=nm.d:=fun e=>ndb e.symm;have hbM:blks ((hp b,4,tab N fun _=>qc 0)::L):=jat hb;have zg:∀k,k<N->(tab N fun _=>qc 0)[k]? =some (fc 0):=fun k hk=>qget (f:=fun _=>0) hk;have hvN:(D.free s:Int)<N:=by omega
   have hd2:decide ((D.free s:Int)<N)=true:=za hvN;have hv0:(0:Int)<=D.free s:=by omega
   have zg1:=zg _ hv;have hmb:=fun(s:Nat) (es:List (List IV))=>jdo (L:=L) (d:=hp b) (s:=s) (es:=es) hLb;simp only[c0,cf,fg,ndb,nfb,hd2,hsn',hs00,ja6,Int.toNat_natCast,F1,K1,G1,go_sem];refine ja1 o1 ?_;simp only[c0,cf,fg,ndb,ndb',nfb,hvN,hv0,zg1,hsn',hs00,ja6,Int.toNat_natCast,hmb,F1,K1,G1,go_sem];obtain⟨M1,hM1e,hM1,hs1,hl1⟩:∃M1,M1=(hp b,4,(tab N fun _=>qc 0).set (D.free s) (fc one))::L/\blks M1/\SubR L M1/\Abs.look M1 (hp b)=some (4,tab N fun k=>qc (rayU D s 0 k)):=by
    refine⟨_,rfl,jat hb,jas hLb (SubR.of_eq rfl),?_⟩;rw[ja2,qset (f:=fun _=>0),<-hone];rfl
   refine jaz [0,1,5,34,35,36] (fun g:Nat×Abs.Rows=>⟨[(0,.loc (hp nm.d) 6 0 0),(1,.im (.int s)),(5,.im (.ref b 35 4 N)),(34,.im (.ref nm.o 3 1 D.m)),(35,.im (.int D.m)),(36,.im (.int g.1))],g.2,[]⟩)
    (fun g=>g.1<=D.m/\blks g.2/\SubR L g.2/\Abs.look g.2 (hp b)=some (4,tab N fun k=>qc (rayU D s g.1 k))) (fun g=>D.m-g.1) (0,M1) ?_ (SubR.of_eq hM1e) rfl
    ⟨zE _,hM1,hs1,hl1⟩ ?_
   ·simp only[Int.natCast_zero,go_sem]
   rintro⟨i,M⟩ ⟨hi,hM,hs,hl⟩;dsimp only at hi hM hs hl;have F2:=bF hM;have K2:=bK hM;have G2:=bN hM;have d0:=hs _ _ c0;have d1:=hs _ _ c1;have d2:=hs _ _ c2;by_cases hlt:i<D.m
   ·have hd:decide ((i:Int)<D.m)=true:=za (by omega);have him:(i:Int)<D.m:=by omega
    have hi0:(0:Int)<=i:=by omega
    have w1:=ja9 (n:=(i:Int)+1) (by omega);have og:=oget (o:=D.own) hlt;have rg:=lget (v:=D.v) (A:=nm.a) (n:=D.n) hlt;have d3:=hs _ _ (h.ha i hlt);have ag:=qget (f:=D.a i) hsn;by_cases hv:D.own i<N
    ·have hd2:decide ((D.own i:Int)<N)=true:=za (by omega);have hvN:(D.own i:Int)<N:=by omega
     have hv0:(0:Int)<=D.own i:=by omega
     have hq:=qget (f:=rayU D s i) hv;have kn:=f_neg (sm.a i s hlt hsn |>.mono (by omega));generalize hx: -(D.a i s)=x at*;simp only[frac,ints]at kn;simp only[hd,hd2,d0,d1,d2,d3,og,rg,ag,hl,hq,hvN,hv0,hsn',hs00,him,hi0,ja6,Int.toNat_natCast,F2,K2,G2,go_sem];refine ja1 kn ?_;simp only[hd,hd2,d0,d1,d2,d3,og,rg,ag,hl,hq,hvN,hv0,hsn',hs00,him,hi0,ja6,Int.toNat_natCast,F2,K2,G2,go_sem];refine jaa (i+1,M.map (fun p=>if p.1=hp b then(p.1,4,(tab N fun k=>qc (rayU D s i k)).set (D.own i) (fc x))else p)) ?_ (SubR.of_eq rfl) rfl (by show D.m-(i+1)<D.m-i;omega) ⟨hlt,jb8 hM,jhg hLb hs,(jae hl).trans ?_⟩
     ·simp only[w1,Int.natCast_add,go_sem]
     ·rw[qset];congr 2;refine jak fun k hk=>qd qc ?_;rw[jia,hx];by_cases e:k=D.own i
      ·rw[zm e,zm e.symm]
      ·rw[zn e,zn fun h=>e h.symm]
    ·have hd2:decide ((D.own i:Int)<N)=false:=zq (by omega);simp only[hd,hd2,d0,d1,d2,og,rg,him,hi0,ja6,Int.toNat_natCast,F2,K2,G2,go_sem];refine jaa (i+1,M) ?_ (SubR.of_eq rfl) rfl (by show D.m-(i+1)<D.m-i;omega) ⟨hlt,hM,hs,hl.trans ?_⟩
     ·simp only[w1,Int.natCast_add,go_sem]
     ·congr 2;refine jak fun k hk=>qd qc ?_;rw[jia,zn (by omega)]
   ·have hd:decide ((i:Int)<D.m)=false:=zq (by omega);have him:i=D.m:=by omega
    subst him;simp only[hd,go_sem];refine jbh M hM (SubR.of_eq rfl) ?_;simp only[go_sem];exact⟨b,rfl,hM,hs,hLb,hl⟩
  ·refine jav [] [] [.tmp 4] Tryz.func131 ?_;simp only[c0,F1,K1,G1,go_sem];refine jd4 kz (by decide) rfl jc8 jad ?_;rintro _ L0 ⟨b,rfl,hb0,hb1,hb2⟩ hfr;have hnew:=(hfr (hp b) (by rw[hb1];rfl)).resolve_left (by simp[Abs.look]);refine⟨(hp b,4,tab N fun _=>qc 0)::L,?_,?_⟩
   ·simp only[c0,F1,K1,G1,go_sem];exact jcb hb1
   have hLb:Abs.look L (hp b)=none:=by
    revert hnew;simp only[c0,F1,K1,G1,go_sem];exact fun h=>h
   clear hnew hfr kz;have ndb:¬nm.d=b:=fun e=>by rw[e,hLb]at c0;cases c0
   have nfb:¬nm.f=b:=fun e=>by rw[e,hLb]at cf;cases cf
   have ndb':¬b=nm.d:=fun e=>ndb e.symm;have hbM:blks ((hp b,4,tab N fun _=>qc 0)::L):=jat hb;have zg:∀k,k<N->(tab N fun _=>qc 0)[k]? =some (fc 0):=fun k hk=>qget (f:=fun _=>0) hk;have hd2:decide ((D.free s:Int)<N)=false:=zq (by omega);simp only[c0,cf,fg,ndb,nfb,hd2,hsn',hs00,ja6,Int.toNat_natCast,F1,K1,G1,go_sem];obtain⟨M1,hM1e,hM1,hs1,hl1⟩:∃M1,M1=(hp b,4,(tab N fun _=>qc 0))::L/\blks M1/\SubR L M1/\Abs.look M1 (hp b)=some (4,tab N fun k=>qc (rayU D s 0 k)):=by
    refine⟨_,rfl,jat hb,jas hLb (SubR.of_eq rfl),?_⟩;rw[ja2];congr 2;exact jak fun k hk=>qd qc (by show(0:Rat)=if k=D.free s then 1 else 0;rw[zn (by omega)])
   refine jaz [0,1,5,34,35,36] (fun g:Nat×Abs.Rows=>⟨[(0,.loc (hp nm.d) 6 0 0),(1,.im (.int s)),(5,.im (.ref b 35 4 N)),(34,.im (.ref nm.o 3 1 D.m)),(35,.im (.int D.m)),(36,.im (.int g.1))],g.2,[]⟩)
    (fun g=>g.1<=D.m/\blks g.2/\SubR L g.2/\Abs.look g.2 (hp b)=some (4,tab N fun k=>qc (rayU D s g.1 k))) (fun g=>D.m-g.1) (0,M1) ?_ (SubR.of_eq hM1e) rfl
    ⟨zE _,hM1,hs1,hl1⟩ ?_
   ·simp only[Int.natCast_zero,go_sem]
   rintro⟨i,M⟩ ⟨hi,hM,hs,hl⟩;dsimp only at hi hM hs hl;have F2:=bF hM;have K2:=bK hM;have G2:=bN hM;have d0:=hs _ _ c0;have d1:=hs _ _ c1;have d2:=hs _ _ c2;by_cases hlt:i<D.m
   ·have hd:decide ((i:Int)<D.m)=true:=za (by omega);have him:(i:Int)<D.m:=by omega
    have hi0:(0:Int)<=i:=by omega
    have w1:=ja9 (n:=(i:Int)+1) (by omega);have og:=oget (o:=D.own) hlt;have rg:=lget (v:=D.v) (A:=nm.a) (n:=D.n) hlt;have d3:=hs _ _ (h.ha i hlt);have ag:=qget (f:=D.a i) hsn;by_cases hv:D.own i<N
    ·have hd2:decide ((D.own i:Int)<N)=true:=za (by omega);have hvN:(D.own i:Int)<N:=by omega
     have hv0:(0:Int)<=D.own i:=by omega
     have hq:=qget (f:=rayU D s i) hv;have kn:=f_neg (sm.a i s hlt hsn |>.mono (by omega));generalize hx: -(D.a i s)=x at*;simp only[frac,ints]at kn;simp only[hd,hd2,d0,d1,d2,d3,og,rg,ag,hl,hq,hvN,hv0,hsn',hs00,him,hi0,ja6,Int.toNat_natCast,F2,K2,G2,go_sem];refine ja1 kn ?_;simp only[hd,hd2,d0,d1,d2,d3,og,rg,ag,hl,hq,hvN,hv0,hsn',hs00,him,hi0,ja6,Int.toNat_natCast,F2,K2,G2,go_sem];refine jaa (i+1,M.map (fun p=>if p.1=hp b then(p.1,4,(tab N fun k=>qc (rayU D s i k)).set (D.own i) (fc x))else p)) ?_ (SubR.of_eq rfl) rfl (by show D.m-(i+1)<D.m-i;omega) ⟨hlt,jb8 hM,jhg hLb hs,(jae hl).trans ?_⟩
     ·simp only[w1,Int.natCast_add,go_sem]
     ·rw[qset];congr 2;refine jak fun k hk=>qd qc ?_;rw[jia,hx];by_cases e:k=D.own i
      ·rw[zm e,zm e.symm]
      ·rw[zn e,zn fun h=>e h.symm]
    ·have hd2:decide ((D.own i:Int)<N)=false:=zq (by omega);simp only[hd,hd2,d0,d1,d2,og,rg,him,hi0,ja6,Int.toNat_natCast,F2,K2,G2,go_sem];refine jaa (i+1,M) ?_ (SubR.of_eq rfl) rfl (by show D.m-(i+1)<D.m-i;omega) ⟨hlt,hM,hs,hl.trans ?_⟩
     ·simp only[w1,Int.natCast_add,go_sem]
     ·congr 2;refine jak fun k hk=>qd qc ?_;rw[jia,zn (by omega)]
   ·have hd:decide ((i:Int)<D.m)=false:=zq (by omega);have him:i=D.m:=by omega
    subst him;simp only[hd,go_sem];refine jbh M hM (SubR.of_eq rfl) ?_;simp only[go_sem];exact⟨b,rfl,hM,hs,hLb,hl⟩
