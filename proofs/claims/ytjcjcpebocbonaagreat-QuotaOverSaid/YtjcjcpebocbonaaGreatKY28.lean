/- A part of the proof. No further condition. -/
import Derived.Test.YtjcjcpebocbonaaGreatKY24
set_option linter.all false
set_option maxRecDepth 10000000
set_option maxHeartbeats 16000000
namespace Go.Proofs.YtjcjcpebocbonaaGreat
section
set_option maxRecDepth 1000000
open Go.Abs
open Go.LP (Dic find)
attribute [local go_sem] ints ic big frac fc
def rayU(D:Dic)(s i k:Nat):Rat:=match find D.own k i with
 | some i'=> -(D.a i' s)
 | none=>if k=D.free s then 1 else 0
theorem jin{D:Dic}{s i k:Nat}:rayU D s (i+1) k=if D.own i=k then-(D.a i s)else rayU D s i k:=by
 unfold rayU;rw[LP.find];split
 ·rename_i h;split at h
  ·rename_i e;cases h;rw[ze e]
  ·rename_i e;rw[zl e,h]
 ·rename_i h;split at h
  ·cases h
  ·rename_i e;rw[zl e,h]
section
variable{L:Abs.Rows}{nm:DN}{N:Nat}{D:Dic}{src:Nat->Int×Bool}
theorem x_ray(h:HasD L nm N D src){s:Nat}(c3:s<D.n)(hN:N<=100000)(hm:D.m<=100000)(ho:∀i,i<D.m->D.own i<=1000000)(hf:D.free s<=1000000)(sm:SmD D):
  CtrH G.P 142 [.loc (hp nm.d) 6 0 0,.im (.int s)] L (fun x L'=>∃b,x= .im (.ref b 48 4 N)/\blks L'/\SubR L L'/\Abs.look L (hp b)=none/\Abs.look L' (hp b)=some (4,tab N fun k=>qc (D.dir s k))):=by
 have hb:=h.blk;have F1:=bB hb;have c0:=h.hd;have c9:D.n≠0:=by omega
 have cf:=h.hf c9;have fg:=oget (o:=D.free) c3;have a8:(s:Int)<D.n:=by omega
 have b0:(0:Int)<=s:=by omega
 have kz:=jjb N hN;have o1:=jcj 1 (by omega);rw[show((1:Int):Rat)=1 from rfl]at o1;generalize c4:(1:Rat)=one at o1;simp only[frac,ints]at o1;rw[jal c9]at c0;by_cases b8:D.m=0
 ·rw[b8,jbb,jbb,jbb]at c0;rcases zU (D.free s) N with hv | hv
  ·refine jap [] [] [.tmp 4] Tryz.func142 ?_;simp only[c0,F1,go_sem];refine jcu kz (by decide) rfl jb6 jc0 ?_;rintro _ L0 ⟨b,rfl,hb0,hb1,hb2⟩ hfr;have a6:=(hfr (hp b) (by rw[hb1];rfl)).resolve_left (by simp[Abs.look]);refine⟨(hp b,4,tab N fun _=>qc 0)::L,?_,?_⟩
   ·simp only[c0,F1,go_sem];exact jcb hb1
   have a1:Abs.look L (hp b)=none:=by
    revert a6;simp only[c0,F1,go_sem];exact fun h=>h
   clear a6 hfr kz;have b1:¬nm.d=b:=fun e=>by rw[e,a1]at c0;cases c0
   have b5:¬nm.f=b:=fun e=>by rw[e,a1]at cf;cases cf
   have b7:¬b=nm.d:=fun e=>b1 e.symm;have c8:blks ((hp b,4,tab N fun _=>qc 0)::L):=jao hb;have zg:∀k,k<N->(tab N fun _=>qc 0)[k]? =some (fc 0):=fun k hk=>qget (f:=fun _=>0) hk;have b3:(D.free s:Int)<N:=by omega
   have a7:decide ((D.free s:Int)<N)=true:=zp b3;have b6:(0:Int)<=D.free s:=by omega
   have c5:=zg _ hv;have c7:=fun(s:Nat) (es:List (List IV))=>jds (L:=L) (d:=hp b) (s:=s) (es:=es) a1;simp only[c0,cf,fg,b1,b5,a7,a8,b0,jad,Int.toNat_natCast,F1,go_sem];refine ja0 o1 ?_;simp only[c0,cf,fg,b1,b7,b5,b3,b6,c5,a8,b0,jad,Int.toNat_natCast,c7,F1,go_sem];obtain⟨M1,hM1e,hM1,hs1,hl1⟩:∃M1,M1=(hp b,4,(tab N fun _=>qc 0).set (D.free s) (fc one))::L/\blks M1/\SubR L M1/\Abs.look M1 (hp b)=some (4,tab N fun k=>qc (rayU D s 0 k)):=by
    refine⟨_,rfl,jao hb,jaw a1 ja5,?_⟩;rw[ja2,qset (f:=fun _=>0),<-c4];rfl
   refine jar [5,35,36] (fun g:Unit=>⟨[(5,.im (.ref b 48 4 N)),(35,.im (.int 0)),(36,.im (.int 0))],M1,[]⟩) (fun _=>True) (fun _=>0) () ?_ (SubR.of_eq hM1e) rfl trivial ?_
   ·simp only[go_sem]
   intro _ _;have c6:(tab N fun k=>qc (D.dir s k))=tab N fun k=>qc (rayU D s 0 k):=jan fun k _=>by
    rw[show D.dir s k=rayU D s D.m k from rfl,b8]
   simp only[go_sem];refine jb1 _ hM1 ja5 ?_;rw[c6];simp only[go_sem];exact⟨b,rfl,hM1,hs1,a1,hl1⟩
  ·refine jap [] [] [.tmp 4] Tryz.func142 ?_;simp only[c0,F1,go_sem];refine jcu kz (by decide) rfl jb6 jc0 ?_;rintro _ L0 ⟨b,rfl,hb0,hb1,hb2⟩ hfr;have a6:=(hfr (hp b) (by rw[hb1];rfl)).resolve_left (by simp[Abs.look]);refine⟨(hp b,4,tab N fun _=>qc 0)::L,?_,?_⟩
   ·simp only[c0,F1,go_sem];exact jcb hb1
   have a1:Abs.look L (hp b)=none:=by
    revert a6;simp only[c0,F1,go_sem];exact fun h=>h
   clear a6 hfr kz;have b1:¬nm.d=b:=fun e=>by rw[e,a1]at c0;cases c0
   have b5:¬nm.f=b:=fun e=>by rw[e,a1]at cf;cases cf
   have b7:¬b=nm.d:=fun e=>b1 e.symm;have c8:blks ((hp b,4,tab N fun _=>qc 0)::L):=jao hb;have zg:∀k,k<N->(tab N fun _=>qc 0)[k]? =some (fc 0):=fun k hk=>qget (f:=fun _=>0) hk;have a7:decide ((D.free s:Int)<N)=false:=dFo;simp only[c0,cf,fg,b1,b5,a7,a8,b0,jad,Int.toNat_natCast,F1,go_sem];obtain⟨M1,hM1e,hM1,hs1,hl1⟩:∃M1,M1=(hp b,4,(tab N fun _=>qc 0))::L/\blks M1/\SubR L M1/\Abs.look M1 (hp b)=some (4,tab N fun k=>qc (rayU D s 0 k)):=by
    refine⟨_,rfl,jao hb,jaw a1 ja5,?_⟩;rw[ja2];congr 2;exact jan fun k hk=>zT qc (by show(0:Rat)=if k=D.free s then 1 else 0;rw[iNo])
   refine jar [5,35,36] (fun g:Unit=>⟨[(5,.im (.ref b 48 4 N)),(35,.im (.int 0)),(36,.im (.int 0))],M1,[]⟩) (fun _=>True) (fun _=>0) () ?_ (SubR.of_eq hM1e) rfl trivial ?_
   ·simp only[go_sem]
   intro _ _;have c6:(tab N fun k=>qc (D.dir s k))=tab N fun k=>qc (rayU D s 0 k):=jan fun k _=>by
    rw[show D.dir s k=rayU D s D.m k from rfl,b8]
   simp only[go_sem];refine jb1 _ hM1 ja5 ?_;rw[c6];simp only[go_sem];exact⟨b,rfl,hM1,hs1,a1,hl1⟩
 ·rw[jal b8,jal b8,jal b8]at c0;have c1:=h.ho b8;have c2:=h.hr b8;rcases zU (D.free s) N with hv | hv
  ·refine jap [] [] [.tmp 4] Tryz.func142 ?_;simp only[c0,F1,go_sem];refine jcu kz (by decide) rfl jb6 jc0 ?_;rintro _ L0 ⟨b,rfl,hb0,hb1,hb2⟩ hfr;have a6:=(hfr (hp b) (by rw[hb1];rfl)).resolve_left (by simp[Abs.look]);refine⟨(hp b,4,tab N fun _=>qc 0)::L,?_,?_⟩
   ·simp only[c0,F1,go_sem];exact jcb hb1
   have a1:Abs.look L (hp b)=none:=by
    revert a6;simp only[c0,F1,go_sem];exact fun h=>h
   clear a6 hfr kz;have b1:¬nm.d=b:=fun e=>by rw[e,a1]at c0;cases c0
   have b5:¬nm.f=b:=fun e=>by rw[e,a1]at cf;cases cf
   have b7:¬b=nm.d:=fun e=>b1 e.symm;have c8:blks ((hp b,4,tab N fun _=>qc 0)::L):=jao hb;have zg:∀k,k<N->(tab N fun _=>qc 0)[k]? =some (fc 0):=fun k hk=>qget (f:=fun _=>0) hk;have b3:(D.free s:Int)<N:=by omega
   have a7:decide ((D.free s:Int)<N)=true:=zp b3;have b6:(0:Int)<=D.free s:=by omega
   have c5:=zg _ hv;have c7:=fun(s:Nat) (es:List (List IV))=>jds (L:=L) (d:=hp b) (s:=s) (es:=es) a1;simp only[c0,cf,fg,b1,b5,a7,a8,b0,jad,Int.toNat_natCast,F1,go_sem];refine ja0 o1 ?_;simp only[c0,cf,fg,b1,b7,b5,b3,b6,c5,a8,b0,jad,Int.toNat_natCast,c7,F1,go_sem];obtain⟨M1,hM1e,hM1,hs1,hl1⟩:∃M1,M1=(hp b,4,(tab N fun _=>qc 0).set (D.free s) (fc one))::L/\blks M1/\SubR L M1/\Abs.look M1 (hp b)=some (4,tab N fun k=>qc (rayU D s 0 k)):=by
    refine⟨_,rfl,jao hb,jaw a1 ja5,?_⟩;rw[ja2,qset (f:=fun _=>0),<-c4];rfl
   refine jar [0,1,5,34,35,36] (fun g:Nat×Abs.Rows=>⟨[(0,.loc (hp nm.d) 6 0 0),(1,.im (.int s)),(5,.im (.ref b 48 4 N)),(34,.im (.ref nm.o 3 1 D.m)),(35,.im (.int D.m)),(36,.im (.int g.1))],g.2,[]⟩)
    (fun g=>g.1<=D.m/\blks g.2/\SubR L g.2/\Abs.look g.2 (hp b)=some (4,tab N fun k=>qc (rayU D s g.1 k))) (fun g=>D.m-g.1) (0,M1) ?_ (SubR.of_eq hM1e) rfl
    ⟨zG _,hM1,hs1,hl1⟩ ?_
   ·simp only[Int.natCast_zero,go_sem]
   rintro⟨i,M⟩ ⟨hi,hM,hs,hl⟩;dsimp only at hi hM hs hl;have F2:=bB hM;have d0:=hs _ _ c0;have d1:=hs _ _ c1;have d2:=hs _ _ c2;by_cases b2:i<D.m
   ·have hd:decide ((i:Int)<D.m)=true:=dTo;have b4:(i:Int)<D.m:=by omega
    have b9:(0:Int)<=i:=by omega
    have w1:=ja8 ((i:Int)+1);have og:=oget (o:=D.own) b2;have rg:=lget (v:=D.v) (A:=nm.a) (n:=D.n) b2;have d3:=hs _ _ (h.ha i b2);have ag:=qget (f:=D.a i) c3;by_cases hv:D.own i<N
    ·have a7:decide ((D.own i:Int)<N)=true:=dTo;have b3:(D.own i:Int)<N:=by omega
     have b6:(0:Int)<=D.own i:=by omega
     have hq:=qget (f:=rayU D s i) hv;have kn:=f_neg (sm.a i s b2 c3 |>.mono (by omega));generalize hx: -(D.a i s)=x at*;simp only[frac,ints]at kn;simp only[hd,a7,d0,d1,d2,d3,og,rg,ag,hl,hq,b3,b6,a8,b0,b4,b9,jad,Int.toNat_natCast,F2,go_sem];refine ja0 kn ?_;simp only[hd,a7,d0,d1,d2,d3,og,rg,ag,hl,hq,b3,b6,a8,b0,b4,b9,jad,Int.toNat_natCast,F2,go_sem];refine jac (i+1,M.map (fun p=>if p.1=hp b then(p.1,4,(tab N fun k=>qc (rayU D s i k)).set (D.own i) (fc x))else p)) ?_ ja5 rfl (by show D.m-(i+1)<D.m-i;omega) ⟨b2,jb8 hM,jhx a1 hs,(jag hl).trans ?_⟩
     ·simp only[w1,Int.natCast_add,go_sem]
     ·rw[qset];congr 2;refine jan fun k hk=>zT qc ?_;rw[jin,hx];by_cases e:k=D.own i
      ·rw[ze e,ze e.symm]
      ·rw[zl e,zl fun h=>e h.symm]
    ·have a7:decide ((D.own i:Int)<N)=false:=dFo;simp only[hd,a7,d0,d1,d2,og,rg,b4,b9,jad,Int.toNat_natCast,F2,go_sem];refine jac (i+1,M) ?_ ja5 rfl (by show D.m-(i+1)<D.m-i;omega) ⟨b2,hM,hs,hl.trans ?_⟩
     ·simp only[w1,Int.natCast_add,go_sem]
     ·congr 2;refine jan fun k hk=>zT qc ?_;rw[jin,iNo]
   ·have hd:decide ((i:Int)<D.m)=false:=dFo;have b4:i=D.m:=by omega
    subst b4;simp only[hd,go_sem];refine jb1 M hM ja5 ?_;simp only[go_sem];exact⟨b,rfl,hM,hs,a1,hl⟩
  ·refine jap [] [] [.tmp 4] Tryz.func142 ?_;simp only[c0,F1,go_sem];refine jcu kz (by decide) rfl jb6 jc0 ?_;rintro _ L0 ⟨b,rfl,hb0,hb1,hb2⟩ hfr;have a6:=(hfr (hp b) (by rw[hb1];rfl)).resolve_left (by simp[Abs.look]);refine⟨(hp b,4,tab N fun _=>qc 0)::L,?_,?_⟩
   ·simp only[c0,F1,go_sem];exact jcb hb1
   have a1:Abs.look L (hp b)=none:=by
    revert a6;simp only[c0,F1,go_sem];exact fun h=>h
   clear a6 hfr kz;have b1:¬nm.d=b:=fun e=>by rw[e,a1]at c0;cases c0
   have b5:¬nm.f=b:=fun e=>by rw[e,a1]at cf;cases cf
   have b7:¬b=nm.d:=fun e=>b1 e.symm;have c8:blks ((hp b,4,tab N fun _=>qc 0)::L):=jao hb;have zg:∀k,k<N->(tab N fun _=>qc 0)[k]? =some (fc 0):=fun k hk=>qget (f:=fun _=>0) hk;have a7:decide ((D.free s:Int)<N)=false:=dFo;simp only[c0,cf,fg,b1,b5,a7,a8,b0,jad,Int.toNat_natCast,F1,go_sem];obtain⟨M1,hM1e,hM1,hs1,hl1⟩:∃M1,M1=(hp b,4,(tab N fun _=>qc 0))::L/\blks M1/\SubR L M1/\Abs.look M1 (hp b)=some (4,tab N fun k=>qc (rayU D s 0 k)):=by
    refine⟨_,rfl,jao hb,jaw a1 ja5,?_⟩;rw[ja2];congr 2;exact jan fun k hk=>zT qc (by show(0:Rat)=if k=D.free s then 1 else 0;rw[iNo])
   refine jar [0,1,5,34,35,36] (fun g:Nat×Abs.Rows=>⟨[(0,.loc (hp nm.d) 6 0 0),(1,.im (.int s)),(5,.im (.ref b 48 4 N)),(34,.im (.ref nm.o 3 1 D.m)),(35,.im (.int D.m)),(36,.im (.int g.1))],g.2,[]⟩)
    (fun g=>g.1<=D.m/\blks g.2/\SubR L g.2/\Abs.look g.2 (hp b)=some (4,tab N fun k=>qc (rayU D s g.1 k))) (fun g=>D.m-g.1) (0,M1) ?_ (SubR.of_eq hM1e) rfl
    ⟨zG _,hM1,hs1,hl1⟩ ?_
   ·simp only[Int.natCast_zero,go_sem]
   rintro⟨i,M⟩ ⟨hi,hM,hs,hl⟩;dsimp only at hi hM hs hl;have F2:=bB hM;have d0:=hs _ _ c0;have d1:=hs _ _ c1;have d2:=hs _ _ c2;by_cases b2:i<D.m
   ·have hd:decide ((i:Int)<D.m)=true:=dTo;have b4:(i:Int)<D.m:=by omega
    have b9:(0:Int)<=i:=by omega
    have w1:=ja8 ((i:Int)+1);have og:=oget (o:=D.own) b2;have rg:=lget (v:=D.v) (A:=nm.a) (n:=D.n) b2;have d3:=hs _ _ (h.ha i b2);have ag:=qget (f:=D.a i) c3;by_cases hv:D.own i<N
    ·have a7:decide ((D.own i:Int)<N)=true:=dTo;have b3:(D.own i:Int)<N:=by omega
     have b6:(0:Int)<=D.own i:=by omega
     have hq:=qget (f:=rayU D s i) hv;have kn:=f_neg (sm.a i s b2 c3 |>.mono (by omega));generalize hx: -(D.a i s)=x at*;simp only[frac,ints]at kn;simp only[hd,a7,d0,d1,d2,d3,og,rg,ag,hl,hq,b3,b6,a8,b0,b4,b9,jad,Int.toNat_natCast,F2,go_sem];refine ja0 kn ?_;simp only[hd,a7,d0,d1,d2,d3,og,rg,ag,hl,hq,b3,b6,a8,b0,b4,b9,jad,Int.toNat_natCast,F2,go_sem];refine jac (i+1,M.map (fun p=>if p.1=hp b then(p.1,4,(tab N fun k=>qc (rayU D s i k)).set (D.own i) (fc x))else p)) ?_ ja5 rfl (by show D.m-(i+1)<D.m-i;omega) ⟨b2,jb8 hM,jhx a1 hs,(jag hl).trans ?_⟩
     ·simp only[w1,Int.natCast_add,go_sem]
     ·rw[qset];congr 2;refine jan fun k hk=>zT qc ?_;rw[jin,hx];by_cases e:k=D.own i
      ·rw[ze e,ze e.symm]
      ·rw[zl e,zl fun h=>e h.symm]
    ·have a7:decide ((D.own i:Int)<N)=false:=dFo;simp only[hd,a7,d0,d1,d2,og,rg,b4,b9,jad,Int.toNat_natCast,F2,go_sem];refine jac (i+1,M) ?_ ja5 rfl (by show D.m-(i+1)<D.m-i;omega) ⟨b2,hM,hs,hl.trans ?_⟩
     ·simp only[w1,Int.natCast_add,go_sem]
     ·congr 2;refine jan fun k hk=>zT qc ?_;rw[jin,iNo]
   ·have hd:decide ((i:Int)<D.m)=false:=dFo;have b4:i=D.m:=by omega
    subst b4;simp only[hd,go_sem];refine jb1 M hM ja5 ?_;simp only[go_sem];exact⟨b,rfl,hM,hs,a1,hl⟩
