/- A part of the proof. No further condition. -/
import Derived.Test.YtjcjcpebocbonaaGreatKZ23
set_option linter.all false
set_option maxRecDepth 10000000
set_option maxHeartbeats 16000000
namespace Go.Proofs.YtjcjcpebocbonaaGreat
section
set_option maxRecDepth 1000000
open Go.Abs
open Go.LP (Dic find)
attribute [local go_sem] ints ic big frac fc
theorem jcb{R L0:Abs.Rows}{b s:Nat}{es:List (List IV)}(h:Abs.look L0 (hp b)=some (s,es)):jfq R [] L0 ((hp b,s,es)::R):=fun k x hk=>by
 by_cases e:k=hp b
 ·subst e;rw[ja2]at hk;rw[h,hk];exact .inl rfl
 ·rw[ja1 _ _ e]at hk;exact .inr ⟨rfl,hk⟩
theorem ji3{L M:Abs.Rows}{b s:Nat}{es:List (List IV)}(hL:Abs.look L (hp b)=none)(h:SubR L M):SubR L (M.map (fun p=>if p.1=hp b then(p.1,s,es)else p)):=fun k x hk=>by
 rw[jak (fun e=>by subst e;rw[hL]at hk;cases hk)];exact h k x hk
def ptU(D:Dic)(i k:Nat):Rat:=match find D.own k i with
 | some i'=>D.v i'
 | none=>0
theorem jsc{D:Dic}{i k:Nat}:ptU D (i+1) k=if D.own i=k then D.v i else ptU D i k:=by
 unfold ptU;rw[LP.find];split
 ·rename_i h;split at h
  ·rename_i e;cases h;rw[zh e]
  ·rename_i e;rw[zl e,h]
 ·rename_i h;split at h
  ·cases h
  ·rename_i e;rw[zl e,h]
section
variable{L:Abs.Rows}{nm:DN}{N:Nat}{D:Dic}{src:Nat->Int×Bool}
theorem x_point(h:HasD L nm N D src)(hN:N<=100000)(hm:D.m<=100000)(ho:∀i,i<D.m->D.own i<=1000000):
  CtrH G.P 141 [.loc (hp nm.d) 6 0 0] L (fun x L'=>∃b,x= .im (.ref b 48 4 N)/\blks L'/\SubR L L'/\Abs.look L (hp b)=none/\Abs.look L' (hp b)=some (4,tab N fun k=>qc (D.pt k))):=by
 have hb:=h.blk;have F1:=bF hb;have K1:=bK hb;have G1:=bN hb;have c0:=h.hd;have kz:=jjg N hN;by_cases a7:D.m=0
 ·rw[a7,jbc,jbc,jbc]at c0;refine jap [] [] [.tmp 2] Tryz.func141 ?_;simp only[c0,F1,K1,G1,go_sem];refine jcw kz (by decide) rfl jb5 jba ?_;rintro _ L0 ⟨b,rfl,hb0,hb1,hb2⟩ hfr;have a1:=(hfr (hp b) (by rw[hb1];rfl)).resolve_left (by simp[Abs.look]);refine⟨(hp b,4,tab N fun _=>qc 0)::L,?_,?_⟩
  ·simp only[c0,F1,K1,G1,go_sem];exact jcb hb1
  have a6:Abs.look L (hp b)=none:=by
   revert a1;simp only[c0,F1,K1,G1,go_sem];exact fun h=>h
  clear a1 hfr kz;have a8:blks ((hp b,4,tab N fun _=>qc 0)::L):=jao hb;have F2:=fun(d:Nat) (h:d<100000)=>jec (L:=(hp b,4,tab N fun _=>qc 0)::L) (d:=d) a8 h;have b2:¬nm.d=b:=fun e=>by rw[e,a6]at c0;cases c0
  simp only[c0,b2,F1,K1,G1,go_sem];refine jar [3,15,16] (fun g:Unit=>⟨[(3,.im (.ref b 48 4 N)),(15,.im (.int 0)),(16,.im (.int 0))],(hp b,4,tab N fun _=>qc 0)::L,[]⟩) (fun _=>True) (fun _=>0) () ?_ ja5 rfl trivial ?_
  ·simp only[go_sem]
  intro _ _;have b7:(tab N fun k=>qc (D.pt k))=tab N fun _=>qc 0:=jan fun k _=>by
   rw[show D.pt k=ptU D D.m k from rfl,a7];rfl
  simp only[go_sem];refine jb1 _ a8 ja5 ?_;rw[b7];simp only[go_sem];exact⟨b,rfl,a8,jaw a6 ja5,a6,zh rfl⟩
 ·rw[jal a7,jal a7,jal a7]at c0;have c1:=h.ho a7;have c2:=h.hr a7;refine jap [] [] [.tmp 2] Tryz.func141 ?_;simp only[c0,F1,K1,G1,go_sem];refine jcw kz (by decide) rfl jb5 jba ?_;rintro _ L0 ⟨b,rfl,hb0,hb1,hb2⟩ hfr;have a1:=(hfr (hp b) (by rw[hb1];rfl)).resolve_left (by simp[Abs.look]);refine⟨(hp b,4,tab N fun _=>qc 0)::L,?_,?_⟩
  ·simp only[c0,F1,K1,G1,go_sem];exact jcb hb1
  have a6:Abs.look L (hp b)=none:=by
   revert a1;simp only[c0,F1,K1,G1,go_sem];exact fun h=>h
  clear a1 hfr kz;have a8:blks ((hp b,4,tab N fun _=>qc 0)::L):=jao hb;have b2:¬nm.d=b:=fun e=>by rw[e,a6]at c0;cases c0
  simp only[c0,b2,F1,K1,G1,go_sem];refine jar [0,3,14,15,16] (fun g:Nat×Abs.Rows=>⟨[(0,.loc (hp nm.d) 6 0 0),(3,.im (.ref b 48 4 N)),(14,.im (.ref nm.o 3 1 D.m)),(15,.im (.int D.m)),(16,.im (.int g.1))],g.2,[]⟩)
   (fun g=>g.1<=D.m/\blks g.2/\SubR L g.2/\Abs.look g.2 (hp b)=some (4,tab N fun k=>qc (ptU D g.1 k))) (fun g=>D.m-g.1) (0,(hp b,4,tab N fun _=>qc 0)::L) ?_ ja5 rfl
   ⟨zG _,a8,jaw a6 ja5,ja2 _ _ _⟩ ?_
  ·simp only[Int.natCast_zero,go_sem]
  rintro⟨i,M⟩ ⟨hi,hM,hs,hl⟩;dsimp only at hi hM hs hl;have F2:=bF hM;have K2:=bK hM;have G2:=bN hM;have d0:=hs _ _ c0;have d1:=hs _ _ c1;have d2:=hs _ _ c2;by_cases b0:i<D.m
  ·have hd:decide ((i:Int)<D.m)=true:=dTo;have b1:(i:Int)<D.m:=by omega
   have b4:(0:Int)<=i:=by omega
   have w1:=ja8 ((i:Int)+1);have og:=oget (o:=D.own) b0;have rg:=lget (v:=D.v) (A:=nm.a) (n:=D.n) b0;by_cases hv:D.own i<N
   ·have b3:decide ((D.own i:Int)<N)=true:=dTo;have b5:(D.own i:Int)<N:=by omega
    have b6:(0:Int)<=D.own i:=by omega
    have hq:=qget (f:=ptU D i) hv;simp only[hd,b3,d0,d1,d2,og,rg,hl,hq,b5,b6,b1,b4,jad,Int.toNat_natCast,F2,K2,G2,go_sem];refine jac (i+1,M.map (fun p=>if p.1=hp b then(p.1,4,(tab N fun k=>qc (ptU D i k)).set (D.own i) (fc (D.v i)))else p)) ?_ ja5 rfl (by show D.m-(i+1)<D.m-i;omega) ⟨b0,jb7 hM,ji3 a6 hs,(jag hl).trans ?_⟩
    ·simp only[w1,Int.natCast_add,go_sem]
    ·rw[qset];congr 2;refine jan fun k hk=>zS qc ?_;rw[jsc];by_cases e:k=D.own i
     ·rw[zh e,zh e.symm]
     ·rw[zl e,zl fun h=>e h.symm]
   ·have b3:decide ((D.own i:Int)<N)=false:=dFo;simp only[hd,b3,d0,d1,d2,og,rg,b1,b4,jad,Int.toNat_natCast,F2,K2,G2,go_sem];refine jac (i+1,M) ?_ ja5 rfl (by show D.m-(i+1)<D.m-i;omega) ⟨b0,hM,hs,hl.trans ?_⟩
    ·simp only[w1,Int.natCast_add,go_sem]
    ·congr 2;refine jan fun k hk=>zS qc ?_;rw[jsc,iNo]
  ·have hd:decide ((i:Int)<D.m)=false:=dFo;have b1:i=D.m:=by omega
   subst b1;simp only[hd,go_sem];refine jb1 M hM ja5 ?_;simp only[go_sem];exact⟨b,rfl,hM,hs,a6,hl⟩
end
end
section
set_option maxRecDepth 1000000
open Go.Abs
open Go.LP (Dic find)
attribute [local go_sem] ints ic big frac fc
section
variable{L:Abs.Rows}{nm:DN}{N:Nat}{D:Dic}{src:Nat->Int×Bool}
def chU(a6:Bool)(y:Nat->Rat)(r:Nat)(a1:Rat)(k:Nat):Rat:=if k=r then y k+(if a6 then a1 else-a1)else y k
theorem jkk(h:HasD L nm N D src){i r R Y:Nat}(hi:i<D.m)(b2:(src i).1=(r:Int))(hr:r<R)(y:Nat->Rat)(hY:Abs.look L (hp Y)=some (4,tab R fun k=>qc (y k)))(a1:Rat)(hR:R<=100000)(hm:D.m<=100000)(ky:FL 18000000000 (y r))(kp:FL 100000000 a1):
  CtrH G.P 179 [.loc (hp nm.d) 6 0 0,.im (.ref Y 48 4 R),.im (.int i),.im (frac a1)] L
   (fun x L'=>x= .im (.tup [])/\blks L'/\Abs.look L' (hp Y)=some (4,tab R fun k=>qc (chU (src i).2 y r a1 k))/\∀k,k≠hp Y->Abs.look L' k=Abs.look L k):=by
 have hb:=h.blk;have F1:=bB hb;have b1:D.m≠0:=by omega
 have c0:=h.hd;rw[jal b1,jal b1,jal b1]at c0;have c1:=h.hs b1;have a7:(i:Int)<D.m:=by omega
 have a6:(0:Int)<=i:=by omega
 have b0:(r:Int)<R:=by omega
 have a8:(0:Int)<=r:=by omega
 have sg:=sget (o:=src) hi;rw[b2]at sg;have yg:=qget (f:=y) hr;have kn:=f_neg (kp.mono (by omega:100000000<=19000000000));rcases ht:(src i).2 with _ | _
 ·rw[ht]at sg;have ka:=f_add (ky.mono (by omega:18000000000<=19000000000)) ((jnv kp).mono (by omega:100000000<=19000000000));generalize hx:y r+ -a1=x at*;generalize b3: -a1=np at*;obtain⟨L',hL',hb',hl',ho'⟩:∃L',L'=L.map (fun p=>if p.1=hp Y then(p.1,4,(tab R fun k=>qc (y k)).set r (fc x))else p)/\blks L'/\Abs.look L' (hp Y)=some (4,tab R fun k=>qc (chU false y r a1 k))/\∀k,k≠hp Y->Abs.look L' k=Abs.look L k:=by
   refine⟨_,rfl,jb7 hb,(jag hY).trans ?_,fun k hk=>jak hk⟩;rw[qset];congr 2;refine jan fun k hk=>zS qc ?_;unfold chU;by_cases e:k=r
   ·rw[zh e,zh e,e,zl yx,b3,hx]
   ·rw[zl e,zl e]
  simp only[frac,ints]at kn ka;refine jap [] [] [] Tryz.func179 ?_;unfold frac;simp only[c0,c1,sg,a7,a6,jad,Int.toNat_natCast,F1,go_sem];refine ja0 kn ?_;simp only[c0,c1,sg,a7,a6,jad,Int.toNat_natCast,F1,go_sem];refine jah ?_;simp only[c0,c1,sg,hY,yg,a7,a6,b0,a8,jad,Int.toNat_natCast,F1,go_sem];refine ja3 ka (by decide) ?_;simp only[c0,c1,sg,hY,yg,a7,a6,b0,a8,jad,Int.toNat_natCast,F1,go_sem];refine jb1 L' hb' (ja6 (by decide) hb' (ja6 (by decide) hb' (SubR.of_eq hL'))) ?_;simp only[go_sem];exact⟨hb',hl',ho'⟩
 ·rw[ht]at sg;have ka:=f_add (ky.mono (by omega:18000000000<=19000000000)) (kp.mono (by omega:100000000<=19000000000));generalize hx:y r+a1=x at*;obtain⟨L',hL',hb',hl',ho'⟩:∃L',L'=L.map (fun p=>if p.1=hp Y then(p.1,4,(tab R fun k=>qc (y k)).set r (fc x))else p)/\blks L'/\Abs.look L' (hp Y)=some (4,tab R fun k=>qc (chU true y r a1 k))/\∀k,k≠hp Y->Abs.look L' k=Abs.look L k:=by
   refine⟨_,rfl,jb7 hb,(jag hY).trans ?_,fun k hk=>jak hk⟩;rw[qset];congr 2;refine jan fun k hk=>zS qc ?_;unfold chU;by_cases e:k=r
   ·rw[zh e,zh e,e,zh rfl,hx]
   ·rw[zl e,zl e]
  simp only[frac,ints]at ka;refine jap [] [] [] Tryz.func179 ?_;unfold frac;simp only[c0,c1,sg,a7,a6,jad,Int.toNat_natCast,F1,go_sem];refine jah ?_;simp only[c0,c1,sg,hY,yg,a7,a6,b0,a8,jad,Int.toNat_natCast,F1,go_sem];refine ja3 ka (by decide) ?_;simp only[c0,c1,sg,hY,yg,a7,a6,b0,a8,jad,Int.toNat_natCast,F1,go_sem];refine jb1 L' hb' (ja6 (by decide) hb' (ja6 (by decide) hb' (SubR.of_eq hL'))) ?_;simp only[go_sem];exact⟨hb',hl',ho'⟩
end
end
section
set_option maxRecDepth 1000000
open Go.Abs
open Go.LP (Dic find)
attribute [local go_sem] ints ic big frac fc
theorem jb3(b s i j:Nat):AV.toH (.loc (hp b) s i j)= .loc (hp b) s i j:=by simp only[AV.toH,hp_ge,qA]
def prU(D:Dic)(N:Nat)(src:Nat->Int×Bool)(y0:Nat->Rat)(pr:Nat->Rat):Nat->Nat->Rat
 | 0=>y0
 | j+1=>if D.free j<N then prU D N src y0 pr j else chU (src (D.free j-N)).2 (prU D N src y0 pr j) (src (D.free j-N)).1.toNat (pr j)
theorem FL_chU{t:Bool}{y:Nat->Rat}{r:Nat}{p:Rat}{k c:Nat}(hy:FL c (y k))(hp:FL 100000000 p):FL (c+100000001) (chU t y r p k):=by
 unfold chU;split
 ·cases t
  ·exact(ji8 hy (jnv hp)).mono (by omega)
  ·exact(ji8 hy hp).mono (by omega)
 ·exact hy.mono (by omega)
theorem jto{D:Dic}{N:Nat}{src:Nat->Int×Bool}{y0 pr:Nat->Rat}{c:Nat}(h0:∀k,FL c (y0 k))(hp:∀j,j<D.n->FL 100000000 (pr j)):∀j,j<=D.n->∀k,FL (c+j*100000001) (prU D N src y0 pr j k)
 | 0,_,k=>(h0 k).mono (by omega)
 | j+1,hj,k=>by
  have ih:=jto (D:=D) (N:=N) (src:=src) h0 hp j (by omega);rw[prU];split
  ·exact(ih k).mono (by omega)
  ·exact(FL_chU (ih k) (hp j (by omega))).mono (by omega)
section
variable{L:Abs.Rows}{nm:DN}{N:Nat}{D:Dic}{src:Nat->Int×Bool}
structure Srcs(D:Dic)(N R:Nat)(src:Nat->Int×Bool):Prop where
 free:∀j,j<D.n->N<=D.free j->D.free j-N<D.m
 own:∀i,i<D.m->N<=D.own i->D.own i-N<D.m
 row:∀i,i<D.m->0<=(src i).1/\(src i).1<(R:Int)
theorem x_prices(h:HasD L nm N D src)(R:Nat)(hR:R<=100000)(hm:D.m<=100000)(hn:D.n<=100)(hN:N<=100000)(hs:Srcs D N R src)(hf:∀j,j<D.n->D.free j<=1000000)(sm:SmD D):
  CtrH G.P 145 [.loc (hp nm.d) 6 0 0,.im (.int R)] L (fun x L'=>∃b,x= .im (.ref b 48 4 R)/\blks L'/\SubR L L'/\Abs.look L (hp b)=none/\Abs.look L' (hp b)=some (4,tab R fun k=>qc (prU D N src (fun _=>0) (fun j=> -D.g j) D.n k))):=by
 have hb:=h.blk;have F1:=bB hb;have c0:=h.hd;have kz:=jjg R hR;by_cases b1:D.n=0
 ·rw[b1,jbc]at c0;refine jap [] [] [.tmp 4] Tryz.func145 ?_;simp only[F1,go_sem];refine jcw kz (by decide) rfl jb5 jba ?_;rintro _ L0 ⟨b,rfl,hb0,hb1,hb2⟩ hfr;have a6:=(hfr (hp b) (by rw[hb1];rfl)).resolve_left (by simp[Abs.look]);refine⟨(hp b,4,tab R fun _=>qc 0)::L,?_,?_⟩
  ·simp only[F1,go_sem];exact jcb hb1
  have a7:Abs.look L (hp b)=none:=by
   revert a6;simp only[F1,go_sem];exact fun h=>h
  clear a6 hfr kz;have b4:¬nm.d=b:=fun e=>by rw[e,a7]at c0;cases c0
  have b3:blks ((hp b,4,tab R fun _=>qc 0)::L):=jao hb;simp only[c0,b4,F1,go_sem];refine jar [5,14,15] (fun g:Unit=>⟨[(5,.im (.ref b 48 4 R)),(14,.im (.int 0)),(15,.im (.int 0))],(hp b,4,tab R fun _=>qc 0)::L,[]⟩) (fun _=>True) (fun _=>0) () ?_ ja5 rfl trivial ?_
  ·simp only[go_sem]
  intro _ _;have b6:(tab R fun k=>qc (prU D N src (fun _=>0) (fun j=> -D.g j) D.n k))=tab R fun _=>qc 0:=by rw[b1];rfl
  simp only[go_sem];refine jb1 _ b3 ja5 ?_;rw[b6];simp only[go_sem];exact⟨b,rfl,b3,jaw a7 ja5,a7,zh rfl⟩
 ·rw[jal b1]at c0;have cf:=h.hf b1;refine jap [] [] [.tmp 4] Tryz.func145 ?_;simp only[F1,go_sem];refine jcw kz (by decide) rfl jb5 jba ?_;rintro _ L0 ⟨b,rfl,hb0,hb1,hb2⟩ hfr;have a6:=(hfr (hp b) (by rw[hb1];rfl)).resolve_left (by simp[Abs.look]);refine⟨(hp b,4,tab R fun _=>qc 0)::L,?_,?_⟩
  ·simp only[F1,go_sem];exact jcb hb1
  have a7:Abs.look L (hp b)=none:=by
   revert a6;simp only[F1,go_sem];exact fun h=>h
  clear a6 hfr kz;have b4:¬nm.d=b:=fun e=>by rw[e,a7]at c0;cases c0
  have b3:blks ((hp b,4,tab R fun _=>qc 0)::L):=jao hb;simp only[c0,b4,F1,go_sem];refine jar [0,5,13,14,15] (fun g:Nat×Abs.Rows=>⟨[(0,.loc (hp nm.d) 6 0 0),(5,.im (.ref b 48 4 R)),(13,.im (.ref nm.f 3 1 D.n)),(14,.im (.int D.n)),(15,.im (.int g.1))],g.2,[]⟩)
   (fun g=>g.1<=D.n/\blks g.2/\SubR L g.2/\Abs.look g.2 (hp b)=some (4,tab R fun k=>qc (prU D N src (fun _=>0) (fun j=> -D.g j) g.1 k))) (fun g=>D.n-g.1) (0,(hp b,4,tab R fun _=>qc 0)::L) ?_ ja5 rfl
   ⟨zG _,b3,jaw a7 ja5,ja2 _ _ _⟩ ?_
  ·simp only[Int.natCast_zero,go_sem]
  rintro⟨j,M⟩ ⟨hj,hM,a1,hl⟩;dsimp only at hj hM a1 hl;have F2:=bB hM;have d0:=a1 _ _ c0;have df:=a1 _ _ cf;have dg:=a1 _ _ h.hg;rcases zT j D.n with hlt | hlt
  ·have hd:decide ((j:Int)<D.n)=true:=dTo;have a8:(j:Int)<D.n:=by omega
   have b2:(0:Int)<=j:=by omega
   have w1:=ja8 ((j:Int)+1);have fg:=oget (o:=D.free) hlt;have gg:=qget (f:=D.g) hlt;have b9:=hf j hlt;rcases zT (D.free j) N with hv | hv
   ·have b0:decide ((N:Int)<=D.free j)=false:=dFo;simp only[hd,b0,d0,df,fg,a8,b2,jad,Int.toNat_natCast,F2,go_sem];refine jac (j+1,M) ?_ ja5 rfl (by show D.n-(j+1)<D.n-j;omega) ⟨hlt,hM,a1,hl.trans ?_⟩
    ·simp only[w1,Int.natCast_add,go_sem]
    ·congr 2;refine jan fun k hk=>zS qc ?_;rw[prU,zh hv]
   ·have b0:decide ((N:Int)<=D.free j)=true:=dTo;have b5:=hs.free j hlt hv;have b8:=hs.row _ b5;have w2:=ja8 (((D.free j-N:Nat):Int));have w3:(D.free j:Int)-N=((D.free j-N:Nat):Int):=by omega
    have HM:=h.sub hM a1;have kn:=f_neg (sm.g j hlt |>.mono (by omega:100000000<=19000000000));have ky:=jto (D:=D) (N:=N) (src:=src) (y0:=fun _=>0) (pr:=fun j=> -D.g j) (c:=4) (fun _=>jbn (n:=0) (by omega)) (fun j hj=>jnv (sm.g j hj)) j hj (src (D.free j-N)).1.toNat;have kc:=jkk HM b5 (r:=(src (D.free j-N)).1.toNat) (by omega) (by omega:(src (D.free j-N)).1.toNat<R) _ hl (-D.g j) hR hm (ky.mono (by
     have:j*100000001<=100*100000001:=qj _ (by omega);omega)) (jnv (sm.g j hlt))
    have b7:prU D N src (fun _=>0) (fun j=> -D.g j) (j+1)=chU (src (D.free j-N)).2 (prU D N src (fun _=>0) (fun j=> -D.g j) j) (src (D.free j-N)).1.toNat (-D.g j):=by
     rw[prU,iNo]
    generalize-D.g j=ng at*;simp only[frac,ints]at kn kc;simp only[hd,b0,d0,df,fg,a8,b2,jad,Int.toNat_natCast,F2,go_sem];refine jaf 16 ?_;simp only[hd,b0,d0,df,dg,fg,gg,a8,b2,w2,w3,jad,Int.toNat_natCast,F2,go_sem];refine ja3 kn (by decide) ?_;simp only[hd,b0,d0,df,dg,fg,gg,a8,b2,w2,w3,jad,Int.toNat_natCast,F2,go_sem];refine jaj kc (by decide) (by simp only[zt,zF,jb3];rfl) hM ja5 ?_;rintro _ L2 ⟨rfl,t1,t2,t3⟩ _;refine⟨L2,jb9,?_⟩;have F3:=bF t1;simp only[F3,go_sem];refine jac (j+1,L2) ?_ ja5 rfl (by show D.n-(j+1)<D.n-j;omega) ⟨hlt,t1,fun k x hk=> ?_,t2.trans ?_⟩
    ·simp only[w1,Int.natCast_add,go_sem]
    ·rw[t3 k (fun e=>by subst e;rw[a7]at hk;cases hk)];exact a1 k x hk
    ·dsimp only;rw[b7]
  ·have hd:decide ((j:Int)<D.n)=false:=dFo;have a8:j=D.n:=by omega
   subst a8;simp only[hd,go_sem];refine jb1 M hM ja5 ?_;simp only[go_sem];exact⟨b,rfl,hM,a1,a7,hl⟩
end
end
section
set_option maxRecDepth 1000000
open Go.Abs
open Go.LP (Rw RT tsum)
attribute [local go_sem] ints ic big frac fc rwC tmC Evid.c Place.c Move.c Cert.c Recall.c Purity.c
structure MN where
 (d r o:Nat)
def OgOk(e:Evid)(w:Rw)(c:List IV):Prop:=∃(k mt ix:Int) (n:Nat) (x:Move),c=[.int k,.int (n:Int),.int mt,.int ix]/\e.moves[n]? =some x/\
 ((k=0/\binF e x=false/\w∈jeu e.mats.toNat e.moves n x e.mats.toNat)\/
  (k=1/\x.scale≠ -1/\∃lo hi,ivlF e.certs e.recalls x.scale x.reading x.day=some (lo,hi)/\w=⟨sumT e.mats.toNat n 1 (-1) 0 e.mats.toNat,0,lo⟩)\/
  (k=2/\x.scale≠ -1/\∃lo hi,ivlF e.certs e.recalls x.scale x.reading x.day=some (lo,hi)/\w=⟨sumT e.mats.toNat n 1 (-1) 0 e.mats.toNat,1,hi⟩)\/
  ((k=3\/k=4)/\w∈purR e.mats.toNat n e.purs))
section
variable{e:Evid}{M mv i:Nat}{x:Move}{lo hi:Rat}
theorem OgOk.low(hM:e.mats=(M:Int))(hx:e.moves[mv]? =some x)(hs:x.scale≠ -1)(hr:ivlF e.certs e.recalls x.scale x.reading x.day=some (lo,hi)):
  OgOk e ⟨sumT M mv 1 (-1) 0 M,0,lo⟩ [.int 1,.int (mv:Int),.int (-1),.int (-1)]:=by
 obtain rfl:e.mats.toNat=M:=by omega
 exact⟨1,-1,-1,mv,x,rfl,hx,.inr (.inl ⟨rfl,hs,lo,hi,hr,rfl⟩)⟩
theorem OgOk.high(hM:e.mats=(M:Int))(hx:e.moves[mv]? =some x)(hs:x.scale≠ -1)(hr:ivlF e.certs e.recalls x.scale x.reading x.day=some (lo,hi)):
  OgOk e ⟨sumT M mv 1 (-1) 0 M,1,hi⟩ [.int 2,.int (mv:Int),.int (-1),.int (-1)]:=by
 obtain rfl:e.mats.toNat=M:=by omega
 exact⟨2,-1,-1,mv,x,rfl,hx,.inr (.inr (.inl ⟨rfl,hs,lo,hi,hr,rfl⟩))⟩
theorem OgOk.pur{p:Purity}{w:Rw}{k:Int}(hM:e.mats=(M:Int))(hx:e.moves[mv]? =some x)(hp:e.purs[i]? =some p)(hm:p.move=(mv:Int))(hk:k=3\/k=4)
  (hw:w=⟨sumT M mv (-p.least) p.mat 1000 M,0,0⟩\/w=⟨sumT M mv p.most p.mat (-1000) M,0,0⟩):OgOk e w [.int k,.int (mv:Int),.int (-1),.int (i:Int)]:=by
 obtain rfl:e.mats.toNat=M:=by omega
 refine⟨k,-1,i,mv,x,rfl,hx,.inr (.inr (.inr ⟨hk,jh.2 ⟨p,zk hp,?_⟩⟩))⟩;unfold pur1;rw[zh hm];rcases hw with rfl | rfl<;>simp
theorem OgOk.stock{kd:Int}(hM:e.mats=(M:Int))(hx:e.moves[mv]? =some x)(hb:binF e x=false)(hi:i<M)(hk:kd=if x.all=true then 2 else 0):
  OgOk e ⟨jbj M x.fr i e.moves (mv+1),kd,0⟩ [.int 0,.int (mv:Int),.int (i:Int),.int (-1)]:=by
 obtain rfl:e.mats.toNat=M:=by omega
 subst hk;exact⟨0,i,-1,mv,x,rfl,hx,.inl ⟨rfl,hb,mem_stockR.2 ⟨i,hi,rfl⟩⟩⟩
end
structure HasM(L:Abs.Rows)(nm:MN)(e:Evid)(ws:List Rw)(os:List (List IV)):Prop where
 blk:blks L
 dr:ws.length≠0->nm.d≠nm.r
 d_o:ws.length≠0->nm.d≠nm.o
 ro:ws.length≠0->nm.r≠nm.o
 len:os.length=ws.length
 o4:∀c∈os,c.length=4
 og:∀(i:Nat) (w:Rw) (c:List IV),ws[i]? =some w->os[i]? =some c->OgOk e w c
 hd:Abs.look L (hp nm.d)=some (10,[e.c++[sl0 nm.r 233 6 ws.length,sl0 nm.o 230 4 ws.length]])
 hr:ws.length≠0->Abs.look L (hp nm.r)=some (6,ws.map rwC)
 ho:ws.length≠0->Abs.look L (hp nm.o)=some (4,os)
theorem HasM.sub{L L':Abs.Rows}{nm:MN}{e:Evid}{ws:List Rw}{os:List (List IV)}(h:HasM L nm e ws os)(hb:blks L')(hs:SubR L L'):HasM L' nm e ws os:=
 ⟨hb,h.dr,h.d_o,h.ro,h.len,h.o4,h.og,hs _ _ h.hd,fun hw=>hs _ _ (h.hr hw),fun hw=>hs _ _ (h.ho hw)⟩
theorem jmm{L R:Abs.Rows}{b X:Nat}{v:Nat×List (List IV)}(hs:SubR L R)(hb:Abs.look L (hp b)=none)(hX:Abs.look (Abs.del R (hp b)) (hp X)=none):
  SubR L ((hp X,v)::Abs.del R (hp b))/\Abs.look L (hp X)=none:=by
 have hl:∀k x,Abs.look L k=some x->Abs.look (Abs.del R (hp b)) k=some x:=fun k x hk=>by
  rw[ja9 _ (fun e=>by subst e;rw[hb]at hk;cases hk)];exact hs k x hk
 have hx:Abs.look L (hp X)=none:=by
  cases hx:Abs.look L (hp X)with
  | none=>rfl
  | some y=>rw[hl _ y hx]at hX;cases hX
 exact⟨jaw hx hl,hx⟩
section
variable{L:Abs.Rows}{nm:MN}{e:Evid}{ws:List Rw}{os:List (List IV)}{M:Nat}
theorem e_var(h:HasM L nm e ws os)(hM:e.mats=(M:Int))(mv k:Nat)(hm:mv<=1000)(hk:k<=1000)(a1:M<=6):
  CtrH G.P 168 [.loc (hp nm.d) 10 0 0,.im (.int mv),.im (.int k)] L (fun x L'=>x= .im (.int ((mv*M+k:Nat):Int))/\L'=L):=by
 have hb:=h.blk;have F1:=bB hb;have c0:=h.hd;have a6:mv*M<=1000*6:=yl hm a1;have w1:=jdi (n:=(mv:Int)*e.mats) (by rw[hM,<-Int.natCast_mul];omega);have w2:=jdi (n:=(mv:Int)*e.mats+k) (by rw[hM,<-Int.natCast_mul];omega);have w3:(mv:Int)*e.mats+k=((mv*M+k:Nat):Int):=by rw[hM,Int.natCast_add,Int.natCast_mul]
 rw[<-w3];refine jap [] [] [.tmp 6] Tryz.func168 ?_;simp only[c0,F1,go_sem];refine jb1 L hb ja5 ?_;simp only[w1,w2,go_sem]
theorem jpp{mv:Nat}{b own more:Int}{k:Nat}(h:coF b own more k=0):sumT M mv b own more (k+1)=sumT M mv b own more k:=by rw[sumT,zh h]
theorem jny{mv:Nat}{b own more:Int}:∀k,(sumT M mv b own more k).length<=k
 | 0=>zu _
 | k+1=>by
  have:=jny (mv:=mv) (b:=b) (own:=own) (more:=more) k;rw[sumT];split
  ·omega
  ·rw[zB,List.length_singleton];omega
theorem jo5{mv:Nat}{b own more:Int}{k:Nat}(h:coF b own more k≠0):sumT M mv b own more (k+1)=sumT M mv b own more k++[(mv*M+k,((coF b own more k:Int):Rat))]:=by rw[sumT,zl h]
def NEWT(L R:Abs.Rows)(b:Nat)(ts:List (Nat×Rat)):Prop:=ts.length≠0->Abs.look R (hp b)=some (5,ts.map tmC)/\Abs.look L (hp b)=none
def sA(A n:Nat):AV:=if n=0 then .sx []else .im (.ref A 180 5 n)
def rA(A n:Nat):AV:=if n=0 then .im (.sl [])else .im (.ref A 180 5 n)
theorem jeq{A n:Nat}(h:n=0):sA A n= .sx []:=zh h
theorem je9{A n:Nat}(h:n≠0):sA A n= .im (.ref A 180 5 n):=zl h
theorem NEWT.app{L R:Abs.Rows}{X:Nat}{ts:List (Nat×Rat)}{t:Nat×Rat}(h:Abs.look R (hp X)=some (5,ts.map tmC++[tmC t]))(h':Abs.look L (hp X)=none):NEWT L R X (ts++[t]):=fun _=>⟨by rw[h,qv];rfl,h'⟩
theorem e_sum(h:HasM L nm e ws os)(hM:e.mats=(M:Int))(mv:Nat)(b own more:Int)(hm:mv<=1000)(b9:M<=6)(c6: -1000<=b/\b<=1000)(c5: -1000<=more/\more<=1000):
  CtrH G.P 170 [.loc (hp nm.d) 10 0 0,.im (.int mv),.im (.int b),.im (.int own),.im (.int more)] L
   (fun x L'=>∃A,x=rA A (sumT M mv b own more M).length/\blks L'/\SubR L L'/\NEWT L L' A (sumT M mv b own more M)):=by
 have hb:=h.blk;have F1:=bB hb;have c0:=h.hd;simp only[Evid.c,hM]at c0;refine jap [40] [] [.tmp 10] Tryz.func170 ?_;simp only[c0,hM,F1,go_sem];refine jar [0,1,2,3,4,11,18,19] (fun g:(Nat×Nat)×Abs.Rows=>⟨[(0,.loc (hp nm.d) 10 0 0),(1,.im (.int mv)),(2,.im (.int b)),(3,.im (.int own)),(4,.im (.int more)),(11,sA g.1.2 (sumT M mv b own more g.1.1).length),(18,.im (.int M)),(19,.im (.int g.1.1))],g.2,[]⟩)
  (fun g=>g.1.1<=M/\blks g.2/\SubR L g.2/\NEWT L g.2 g.1.2 (sumT M mv b own more g.1.1)) (fun g=>M-g.1.1) ((0,0),L) ?_ ja5 rfl ⟨zG _,hb,SubR.of_eq rfl,fun h=>absurd rfl h⟩ ?_
 ·have hz:=jeq (A:=0) (show(sumT M mv b own more 0).length=0 from rfl);simp only[Int.natCast_zero,hz,go_sem]
 rintro⟨⟨k,A⟩,R⟩ hP;obtain⟨hj,hR,a6,b3⟩:=hP;dsimp only at hj hR a6 b3;have F2:=bB hR;have d0:=a6 _ _ c0;rcases zT k M with hlt | hlt
 ·have hd:decide ((k:Int)<M)=true:=dTo;have h1:=ja8 ((k:Int)+1);have h2:=ja8 (b+more);have kv:=e_var (h.sub hR a6) hM mv k hm (by omega) b9;have vl:mv*M+k<100000:=by
   have:mv*M<=1000*6:=yl hm b9;omega
  obtain⟨c,hc⟩:∃c,c=coF b own more k:=⟨_,rfl⟩;have kI:Ctr G.P 41 [.int c] (· =frac (c:Rat)):=jcj c (by rw[hc];unfold coF;split<;>omega);simp only[frac,ints]at kI;have key:∀(p:Bool),decide ((k:Int)=own)=p->(if p=true then b+more else b)=c:=fun p hp=>by
   rw[hc];unfold coF;cases p
   ·rw[zl (by decide),zl (zJ hp)]
   ·rw[zh rfl,zh (zI hp)]
  rcases hown:decide ((k:Int)=own)with _ | _
  ·have b5:=key _ hown;simp only[ya,qp]at b5;subst b5;rcases hc0:decide (b=0)with _ | _
   ·have a1:=jo5 (M:=M) (mv:=mv) (hc▸zJ hc0:coF b own more k≠0);rw[<-hc]at a1;by_cases hn:(sumT M mv b own more k).length=0
    ·have b1:=jeq (A:=A) hn;have b0:sumT M mv b own more k=[]:=zV hn;simp only[hd,hown,h2,hc0,b1,go_sem];refine jaj kv (by decide) (by simp only[zt,zF,jb3];rfl) hR ja5 ?_;rintro _ L1 ⟨rfl,hL1⟩ _;subst hL1;refine⟨_,jb9,?_⟩;simp only[F2,go_sem];refine ja0 kI ?_;simp only[F2,go_sem];refine And.intro (fun c' b2=>by rw[zE.1 b2];rfl) ?_;refine jgu (fun X hX=> ?_);have b4:Abs.look L1 (hp X)=none:=hX;clear hX;have lX:Abs.look L (hp X)=none:=by
      cases hx:Abs.look L (hp X)with
      | none=>rfl
      | some y=>rw[a6 _ _ hx]at b4;cases b4
     have hs1:=je9 (A:=X) (n:=(sumT M mv b own more (k+1)).length) (by rw[a1,zB];exact yL _);have a8:(sumT M mv b own more (k+1)).length=1:=by rw[a1,b0];rfl
     rw[a8]at hs1;simp only[F2,go_sem];refine jac ((k+1,X),(hp X,5,[tmC (mv*M+k,((b:Int):Rat))])::L1) ?_ ja5 rfl (by show M-(k+1)<M-k;omega) ⟨hlt,jao hR,jaw lX a6,?_⟩
     ·simp only[h1,a8,hs1,Int.natCast_add,go_sem]
     ·dsimp only;rw[a1];refine NEWT.app ?_ lX;rw[ja2,b0];rfl
    ·have b1:=je9 (A:=A) hn;obtain⟨b7,b8⟩:=b3 hn;have b6:List.take (sumT M mv b own more k).length ((sumT M mv b own more k).map tmC)=(sumT M mv b own more k).map tmC:=zY (by rw[za];exact zu _);have c3:=jny (M:=M) (mv:=mv) (b:=b) (own:=own) (more:=more) k;simp only[hd,hown,h2,hc0,b1,go_sem];refine jaj kv (by decide) (by simp only[zt,zF,jb3];rfl) hR ja5 ?_;rintro _ L1 ⟨rfl,hL1⟩ _;subst hL1;refine⟨_,jb9,?_⟩;simp only[F2,go_sem];refine ja0 kI ?_;simp only[b7,b6,za,F2,go_sem];refine And.intro (fun c' b2=>by rw[zE.1 b2];rfl) (And.intro (zu _) (And.intro (by omega) ?_));refine jpc (fun X hX=> ?_);obtain⟨lS,lX⟩:=jmm (v:=(5,(sumT M mv b own more k).map tmC++[tmC (mv*M+k,((b:Int):Rat))])) a6 b8 (X:=X) hX;clear hX;have a8:(sumT M mv b own more (k+1)).length=(sumT M mv b own more k).length+1:=by rw[a1,zB];rfl
     have hs1:=je9 (A:=X) (n:=(sumT M mv b own more k).length+1) (yL _);simp only[F2,go_sem];refine jac ((k+1,X),(hp X,5,(sumT M mv b own more k).map tmC++[tmC (mv*M+k,((b:Int):Rat))])::Abs.del L1 (hp A)) ?_ ja5 rfl (by show M-(k+1)<M-k;omega) ⟨hlt,jao (jch hR),lS,?_⟩
     ·simp only[h1,a8,hs1,Int.natCast_add,go_sem]
     ·dsimp only;rw[a1];exact NEWT.app (ja2 _ _ _) lX
   ·have a7:=jpp (M:=M) (mv:=mv) (hc▸zI hc0:coF b own more k=0);simp only[hd,hown,hc0,go_sem];refine jac ((k+1,A),R) ?_ ja5 rfl (by show M-(k+1)<M-k;omega) ⟨hlt,hR,a6,by dsimp only;rw[a7];exact b3⟩;simp only[h1,a7,Int.natCast_add,go_sem]
  ·have b5:=key _ hown;simp only[qA]at b5;replace h2:=h2.trans b5;rcases hc0:decide (c=0)with _ | _
   ·have a1:=jo5 (M:=M) (mv:=mv) (hc▸zJ hc0:coF b own more k≠0);rw[<-hc]at a1;by_cases hn:(sumT M mv b own more k).length=0
    ·have b1:=jeq (A:=A) hn;have b0:sumT M mv b own more k=[]:=zV hn;simp only[hd,hown,h2,hc0,b1,go_sem];refine jaj kv (by decide) (by simp only[zt,zF,jb3];rfl) hR ja5 ?_;rintro _ L1 ⟨rfl,hL1⟩ _;subst hL1;refine⟨_,jb9,?_⟩;simp only[F2,go_sem];refine ja0 kI ?_;simp only[F2,go_sem];refine And.intro (fun c' b2=>by rw[zE.1 b2];rfl) ?_;refine jgu (fun X hX=> ?_);have b4:Abs.look L1 (hp X)=none:=hX;clear hX;have lX:Abs.look L (hp X)=none:=by
      cases hx:Abs.look L (hp X)with
      | none=>rfl
      | some y=>rw[a6 _ _ hx]at b4;cases b4
     have hs1:=je9 (A:=X) (n:=(sumT M mv b own more (k+1)).length) (by rw[a1,zB];exact yL _);have a8:(sumT M mv b own more (k+1)).length=1:=by rw[a1,b0];rfl
     rw[a8]at hs1;simp only[F2,go_sem];refine jac ((k+1,X),(hp X,5,[tmC (mv*M+k,((c:Int):Rat))])::L1) ?_ ja5 rfl (by show M-(k+1)<M-k;omega) ⟨hlt,jao hR,jaw lX a6,?_⟩
     ·simp only[h1,a8,hs1,Int.natCast_add,go_sem]
     ·dsimp only;rw[a1];refine NEWT.app ?_ lX;rw[ja2,b0];rfl
    ·have b1:=je9 (A:=A) hn;obtain⟨b7,b8⟩:=b3 hn;have b6:List.take (sumT M mv b own more k).length ((sumT M mv b own more k).map tmC)=(sumT M mv b own more k).map tmC:=zY (by rw[za];exact zu _);have c3:=jny (M:=M) (mv:=mv) (b:=b) (own:=own) (more:=more) k;simp only[hd,hown,h2,hc0,b1,go_sem];refine jaj kv (by decide) (by simp only[zt,zF,jb3];rfl) hR ja5 ?_;rintro _ L1 ⟨rfl,hL1⟩ _;subst hL1;refine⟨_,jb9,?_⟩;simp only[F2,go_sem];refine ja0 kI ?_;simp only[b7,b6,za,F2,go_sem];refine And.intro (fun c' b2=>by rw[zE.1 b2];rfl) (And.intro (zu _) (And.intro (by omega) ?_));refine jpc (fun X hX=> ?_);obtain⟨lS,lX⟩:=jmm (v:=(5,(sumT M mv b own more k).map tmC++[tmC (mv*M+k,((c:Int):Rat))])) a6 b8 (X:=X) hX;clear hX;have a8:(sumT M mv b own more (k+1)).length=(sumT M mv b own more k).length+1:=by rw[a1,zB];rfl
     have hs1:=je9 (A:=X) (n:=(sumT M mv b own more k).length+1) (yL _);simp only[F2,go_sem];refine jac ((k+1,X),(hp X,5,(sumT M mv b own more k).map tmC++[tmC (mv*M+k,((c:Int):Rat))])::Abs.del L1 (hp A)) ?_ ja5 rfl (by show M-(k+1)<M-k;omega) ⟨hlt,jao (jch hR),lS,?_⟩
     ·simp only[h1,a8,hs1,Int.natCast_add,go_sem]
     ·dsimp only;rw[a1];exact NEWT.app (ja2 _ _ _) lX
   ·have a7:=jpp (M:=M) (mv:=mv) (hc▸zI hc0:coF b own more k=0);simp only[hd,hown,h2,hc0,go_sem];refine jac ((k+1,A),R) ?_ ja5 rfl (by show M-(k+1)<M-k;omega) ⟨hlt,hR,a6,by dsimp only;rw[a7];exact b3⟩;simp only[h1,a7,Int.natCast_add,go_sem]
 ·have hd:decide ((k:Int)<M)=false:=dFo;have c4:k=M:=by omega
  subst c4;simp only[hd,go_sem];refine jb1 R hR ja5 ?_;simp only[go_sem];refine⟨A,?_,hR,a6,b3⟩;by_cases hn:(sumT k mv b own more k).length=0
  ·rw[jeq hn];unfold rA;rw[zh hn]
  ·rw[je9 hn];unfold rA;rw[zl hn]
end
end
end Go.Proofs.YtjcjcpebocbonaaGreat
namespace Go.LP
section
def cfU(ts:List (Nat×Rat)):Nat->Nat->Rat
 | 0,_=>0
 | i+1,k=>match ts[i]? with
  | some t=>if k=t.1 then t.2 else cfU ts i k
  | none=>cfU ts i k
def ngU(ts:List (Nat×Rat))(f:Nat->Rat):Nat->Nat->Rat
 | 0,k=>f k
 | i+1,k=>match ts[i]? with
  | some t=>if k=t.1 then-t.2 else ngU ts f i k
  | none=>ngU ts f i k
theorem cfU_succ{ts:List (Nat×Rat)}{i k:Nat}{t:Nat×Rat}(h:ts[i]? =some t):cfU ts (i+1) k=if k=t.1 then t.2 else cfU ts i k:=by rw[cfU,h]
theorem ngU_succ{ts:List (Nat×Rat)}{f:Nat->Rat}{i k:Nat}{t:Nat×Rat}(h:ts[i]? =some t):ngU ts f (i+1) k=if k=t.1 then-t.2 else ngU ts f i k:=by rw[ngU,h]
theorem cf_snoc{t:Nat×Rat}{k:Nat}:∀{ts:List (Nat×Rat)},(∀u∈ts,u.1≠t.1)->cf (ts++[t]) k=if k=t.1 then t.2 else cf ts k
 | [],_=>by simp only[List.nil_append,cf]
 | u::ts,h=>by
  rw[List.cons_append,cf,cf,cf_snoc fun v hv=>h v (zW _ hv)];have:=h u (zU ..);by_cases e:k=u.1
  ·subst e;rw[zh rfl,zl this,zh rfl]
  ·rw[zl e,zl e]
theorem RT.fresh:∀{ts:List (Nat×Rat)} {lo N i:Nat} {t:Nat×Rat},RT ts lo N->ts[i]? =some t->∀u∈ts.take i,u.1≠t.1
 | [],_,_,_,_,_,h,_,_=>by simp at h
 | v::ts,lo,N,0,t,h,ht,u,hu=>by rw[List.take_zero]at hu;cases hu
 | v::ts,lo,N,i+1,t,h,ht,u,hu=>by
  rw[List.getElem?_cons_succ]at ht;rw[List.take_succ_cons]at hu;rcases zL.1 hu with rfl | hu
  ·have:=RT.mem h.2.2.2 t (zk ht);omega
  ·exact RT.fresh h.2.2.2 ht u hu
theorem jtb{ts:List (Nat×Rat)}{lo N k:Nat}(h:RT ts lo N):∀i,i<=ts.length->cfU ts i k=cf (ts.take i) k
 | 0,_=>by rw[List.take_zero];rfl
 | i+1,hi=>by
  have hg:ts[i]? =some ts[i]:=zw (by omega);rw[cfU_succ hg,yo,hg,show(some ts[i]).toList=[ts[i]]from rfl,cf_snoc (h.fresh hg),jtb h i (by omega)]
theorem cfU_all{ts:List (Nat×Rat)}{lo N k:Nat}(h:RT ts lo N):cfU ts ts.length k=cf ts k:=by rw[jtb h _ (zu _),qE]
theorem cf_get:∀{ts:List (Nat×Rat)} {lo N i:Nat} {t:Nat×Rat},RT ts lo N->ts[i]? =some t->cf ts t.1=t.2
 | [],_,_,_,_,_,h=>by simp at h
 | v::ts,lo,N,0,t,h,ht=>by
  rw[List.getElem?_cons_zero]at ht;cases ht;rw[cf,zh rfl]
 | v::ts,lo,N,i+1,t,h,ht=>by
  rw[List.getElem?_cons_succ]at ht;have:=RT.mem h.2.2.2 t (zk ht);rw[cf,iNo];exact cf_get h.2.2.2 ht
theorem ngU_eq{ts:List (Nat×Rat)}{lo N k:Nat}(h:RT ts lo N){f:Nat->Rat}(hf:∀(i:Nat) (t:Nat×Rat),ts[i]? =some t->f t.1=t.2):∀i,i<=ts.length->ngU ts f i k=f k-2*cfU ts i k
 | 0,_=>by simp only[ngU,cfU];grind
 | i+1,hi=>by
  have hg:ts[i]? =some ts[i]:=zw (by omega);rw[ngU_succ hg,cfU_succ hg,ngU_eq h hf i (by omega)];by_cases e:k=ts[i].1
  ·rw[zh e,zh e,e,hf i _ hg];grind
  ·rw[zl e,zl e]
theorem ngU_zero{ts:List (Nat×Rat)}{lo N k:Nat}(h:RT ts lo N):∀i,i<=ts.length->ngU ts (fun _=>0) i k= -cfU ts i k
 | 0,_=>by simp only[ngU,cfU];grind
 | i+1,hi=>by
  have hg:ts[i]? =some ts[i]:=zw (by omega);rw[ngU_succ hg,cfU_succ hg,ngU_zero h i (by omega)];by_cases e:k=ts[i].1
  ·rw[zh e,zh e]
  ·rw[zl e,zl e]
end
end Go.LP
namespace Go.Proofs.YtjcjcpebocbonaaGreat
section
set_option maxRecDepth 1000000
open Go.Abs
open Go.LP (Dic Rw RT cf cfU ngU jdy)
attribute [local go_sem] ints ic big frac fc rwC tmC lineC
structure OAp(nm:DN)(m:Nat):Prop where
 dr:nm.d≠nm.r
 d_o:nm.d≠nm.o
 ds:nm.d≠nm.s
 rg:nm.r≠nm.g
 ro:nm.r≠nm.o
 rs:nm.r≠nm.s
 go:nm.g≠nm.o
 gs:nm.g≠nm.s
 os:nm.o≠nm.s
 da:∀i,i<m->nm.d≠nm.a i
 ra:∀i,i<m->nm.r≠nm.a i
 ga:∀i,i<m->nm.g≠nm.a i
 oa:∀i,i<m->nm.o≠nm.a i
 sa:∀i,i<m->nm.s≠nm.a i
 aa:∀i j,i<m->j<m->nm.a i=nm.a j->i=j
structure HasO(L:Abs.Rows)(nm:DN)(D:Dic)(src:Nat->Int×Bool):Prop where
 blk:blks L
 dg:nm.d≠nm.g
 ap:D.m≠0->OAp nm D.m
 hd:Abs.look L (hp nm.d)=some (6,[[.int D.n,sl0 nm.r 241 5 D.m,.ref nm.g 48 4 D.n,sl0 nm.o 3 1 D.m,.emp,sl0 nm.s 254 2 D.m]])
 hg:Abs.look L (hp nm.g)=some (4,tab D.n fun j=>qc (D.g j))
 hr:D.m≠0->Abs.look L (hp nm.r)=some (5,tab D.m fun i=>lineC (D.v i) (nm.a i) D.n)
 ho:D.m≠0->Abs.look L (hp nm.o)=some (1,tab D.m fun i=>oc (D.own i))
 hs:D.m≠0->Abs.look L (hp nm.s)=some (2,tab D.m fun i=>srcC (src i))
 ha:∀i,i<D.m->Abs.look L (hp (nm.a i))=some (4,tab D.n fun j=>qc (D.a i j))
structure Kept(L L':Abs.Rows)(nm:DN)(m X1 X2 X3 A:Nat):Prop where
 keep:∀k x,Abs.look L (hp k)=some x->k≠nm.d->(m≠0->k≠nm.o/\k≠nm.r/\k≠nm.s)->Abs.look L' (hp k)=some x/\k≠X1/\k≠X2/\k≠X3/\k≠A
theorem HasO.step{L L':Abs.Rows}{nm:DN}{D:Dic}{src:Nat->Int×Bool}(h:HasO L nm D src){w:Rw}{row:Nat}{a1:Bool}{X1 X2 X3 A:Nat}{f:Nat->Rat}{v:Rat}(bL:blks L')
  (h1:Abs.look L' (hp nm.d)=some (6,[[.int D.n,.ref X2 241 5 (D.m+1),.ref nm.g 48 4 D.n,.ref X1 3 1 (D.m+1),.emp,.ref X3 254 2 (D.m+1)]]))
  (h2:Abs.look L' (hp X1)=some (1,(tab D.m fun i=>oc (D.own i))++[oc (D.n+D.m)]))
  (h3:Abs.look L' (hp X2)=some (5,(tab D.m fun i=>lineC (D.v i) (nm.a i) D.n)++[lineC v A D.n]))
  (h4:Abs.look L' (hp X3)=some (2,(tab D.m fun i=>srcC (src i))++[srcC (row,a1)]))
  (h5:Abs.look L' (hp A)=some (4,tab D.n fun j=>qc (f j))) (hk:Kept L L' nm D.m X1 X2 X3 A)
  (d1:nm.d≠X1) (d2:nm.d≠X2) (d3:nm.d≠X3) (d4:nm.d≠A) (b4:X1≠X2) (b3:X1≠X3) (b2:X1≠A) (b1:X2≠X3) (b0:X2≠A) (a8:X3≠A)
  (hv:v=if a1=true then-w.val else w.val) (hf:∀k,f k=if a1=true then-cf w.ts k else cf w.ts k):
  ∃a7:DN,a7.d=nm.d/\HasO L' a7 (D.put w a1) (jdy D src row a1):=by
 have kg:=hk.keep nm.g _ h.hg (zH h.dg) fun hm=>⟨(h.ap hm).go,zH (h.ap hm).rg,(h.ap hm).gs⟩;have ka:=fun i (hi:i<D.m)=>hk.keep (nm.a i) _ (h.ha i hi) (zH ((h.ap (by omega)).da i hi)) fun hm=>⟨zH ((h.ap hm).oa i hi),zH ((h.ap hm).ra i hi),zH ((h.ap hm).sa i hi)⟩;have a6:(D.put w a1).m≠0:=yL _;have ai:∀i,i<D.m+1->i≠D.m->i<D.m:=fun i h1 h2=>by omega
 refine⟨⟨nm.d,X2,nm.g,X1,nm.f,X3,fun i=>if i=D.m then A else nm.a i⟩,rfl,bL,h.dg,fun _=> ?_,?_,?_,fun _=> ?_,fun _=> ?_,fun _=> ?_,fun i hi=> ?_⟩
 ·refine⟨d2,d1,d3,zH kg.2.2.1,zH b4,b1,kg.2.1,kg.2.2.2.1,b3,?_,?_,?_,?_,?_,?_⟩
  ·intro i hi;dsimp only;split
   ·exact d4
   ·rename_i e;exact(h.ap (by have:=ai i hi e;omega)).da i (ai i hi e)
  ·intro i hi;dsimp only;split
   ·exact b0
   ·rename_i e;exact zH (ka i (ai i hi e)).2.2.1
  ·intro i hi;dsimp only;split
   ·exact kg.2.2.2.2
   ·rename_i e;exact(h.ap (by have:=ai i hi e;omega)).ga i (ai i hi e)
  ·intro i hi;dsimp only;split
   ·exact b2
   ·rename_i e;exact zH (ka i (ai i hi e)).2.1
  ·intro i hi;dsimp only;split
   ·exact a8
   ·rename_i e;exact zH (ka i (ai i hi e)).2.2.2.1
  ·intro i j hi hj e;dsimp only at e;by_cases e1:i=D.m
   ·rw[zh e1]at e;by_cases e2:j=D.m
    ·omega
    ·rw[zl e2]at e;exact absurd e.symm (ka j (ai j hj e2)).2.2.2.2
   ·rw[zl e1]at e;by_cases e2:j=D.m
    ·rw[zh e2]at e;exact absurd e (ka i (ai i hi e1)).2.2.2.2
    ·rw[zl e2]at e;exact(h.ap (by have:=ai i hi e1;omega)).aa i j (ai i hi e1) (ai j hj e2) e
 ·rw[h1,jal a6,jal a6,jal a6];rfl
 ·exact kg.1
 ·rw[h3];show some (5,_)=some (5,tab (D.m+1) _);rw[jil];congr 3
  ·refine jan fun i hi=> ?_;rw[show(D.put w a1).v i=D.v i from iNo];show _=lineC (D.v i) (if i=D.m then A else nm.a i) D.n;rw[iNo]
  ·rw[show(D.put w a1).v D.m=_ from zh rfl,hv];show _=[lineC _ (if D.m=D.m then A else nm.a D.m) D.n];rw[zh rfl]
 ·rw[h2];show some (1,_)=some (1,tab (D.m+1) _);rw[jil];congr 3
  ·refine jan fun i hi=> ?_;rw[show(D.put w a1).own i=D.own i from iNo]
  ·rw[show(D.put w a1).own D.m=_ from zh rfl]
 ·rw[h4];show some (2,_)=some (2,tab (D.m+1) _);rw[jil];congr 3
  ·refine jan fun i hi=> ?_;rw[show jdy D src row a1 i=src i from iNo]
  ·rw[show jdy D src row a1 D.m=_ from zh rfl]
 ·dsimp only;by_cases e:i=D.m
  ·rw[zh e,h5,show(D.put w a1).a i=_ from zh e];show some (4,tab D.n _)=some (4,tab D.n _);congr 2;refine jan fun j _=>zS qc ?_;rw[hf]
  ·rw[zl e,(ka i (ai i hi e)).1,show(D.put w a1).a i=D.a i from zl e];rfl
theorem jb0{L:Abs.Rows}{k:Nat}{v:Nat×List (List IV)}(h:Abs.look L k=some v):SubR [(k,v)] L:=fun j x hj=>by
 by_cases e:j=k
 ·subst e;rw[ja2]at hj;cases hj;exact h
 ·rw[ja1 _ _ e]at hj;cases hj
theorem jc2{L R:Abs.Rows}{d:Nat}{v:Nat×List (List IV)}(h:Abs.look R d=some v)(hs:SubR L R):SubR ((d,v)::L) R:=fun k x hk=>by
 by_cases e:k=d
 ·subst e;rw[ja2]at hk;cases hk;exact h
 ·rw[ja1 _ _ e]at hk;exact hs k x hk
theorem jns{L:Abs.Rows}{k d:Nat}{v v':Nat×List (List IV)}(hd:d<100000)(hs:SubR [(hp k,v)] L):SubR [(hp k,v)] ((d,v')::L):=
 jaw (by dsimp only;rw[ja1 _ _ (hp_ne hd)];rfl) hs
theorem jat{L:Abs.Rows}{k d:Nat}{v:Nat×List (List IV)}(h:d≠k):Abs.del ((d,v)::L) k=(d,v)::Abs.del L k:=by
 unfold Abs.del;rw[j0,zh (by simpa using h)]
theorem joj{α:Type}{p:Prop}(x:α)(h:∀y,x=y->p):p:=h x rfl
end
section
set_option maxRecDepth 1000000
open Go.Abs
open Go.LP (Rw RT tsum)
attribute [local go_sem] ints ic big frac fc rwC tmC Evid.c Place.c Move.c Cert.c Recall.c Purity.c
section
variable{L:Abs.Rows}{nm:MN}{e:Evid}{ws:List Rw}{os:List (List IV)}
theorem HasM.grow{L':Abs.Rows}(h:HasM L nm e ws os){w:Rw}{og:List IV}{X1 X2:Nat}(ho:og.length=4)(a7:OgOk e w og)(b:blks L')(d1:nm.d≠X1)(d2:nm.d≠X2)(a6:X1≠X2)
  (hd:Abs.look L' (hp nm.d)=some (10,[e.c++[.ref X1 233 6 (ws.length+1),.ref X2 230 4 (ws.length+1)]]))
  (h1:Abs.look L' (hp X1)=some (6,ws.map rwC++[rwC w])) (h2:Abs.look L' (hp X2)=some (4,os++[og])):∃a1:MN,a1.d=nm.d/\HasM L' a1 e (ws++[w]) (os++[og]):=by
 have hl:(ws++[w]).length=ws.length+1:=by rw[zB];rfl
 refine⟨⟨nm.d,X1,X2⟩,rfl,b,fun _=>d1,fun _=>d2,fun _=>a6,?_,?_,?_,?_,fun _=> ?_,fun _=>h2⟩
 ·rw[zB,zB,h.len];rfl
 ·intro c hc;rcases qk.1 hc with hc | hc
  ·exact h.o4 c hc
  ·rw[zE.1 hc];exact ho
 ·intro i w' c' g1 g2;rcases zT i ws.length with hlt | hge
  ·rw[zK hlt]at g1;rw[zK (by rw[h.len];exact hlt)]at g2;exact h.og i w' c' g1 g2
  ·rw[zP hge]at g1;rw[zP (by rw[h.len];exact hge),h.len]at g2;cases hi:i-ws.length with
   | zero=>rw[hi]at g1 g2;cases g1;cases g2;exact a7
   | succ n=>rw[hi]at g1;simp at g1
 ·rw[hl,jal (yL _),jal (yL _)];exact hd
 ·rw[h1,qv];rfl
theorem e_add(h:HasM L nm e ws os)(w:Rw)(a b c d:Int)(hl:ws.length<=10000)(b7:OgOk e w [.int a,.int b,.int c,.int d]):
  CtrH G.P 169 [.loc (hp nm.d) 10 0 0,.im (.sl (w.ts.map tmC)),.im (.int w.kind),.im (frac w.val),.im (.agg [.int a,.int b,.int c,.int d])] L
   (fun x L'=>x= .im (.tup [])/\∃b6:MN,b6.d=nm.d/\HasM L' b6 e (ws++[w]) (os++[[.int a,.int b,.int c,.int d]])):=by
 have hb:=h.blk;have F1:=bB hb;have c0:=h.hd;have b8:∀k,(8 !=hp k)=true:=fun k=>by simp only[qh,ne_eq];exact hp_ne (by decide)
 have b9:∀k,(9 !=hp k)=true:=fun k=>by simp only[qh,ne_eq];exact hp_ne (by decide)
 by_cases hn:ws.length=0
 ·have e0:os=[]:=zV (by rw[h.len];exact hn);have c7:ws=[]:=zV hn;subst e0 c7;have hz:([]:List Rw).length=0:=rfl;rw[hz,jbc,jbc]at c0;refine jap [20,30] [] [] Tryz.func169 ?_;simp only[F1,go_sem];refine jcq [false,false,false,false,false,false,false,false,false,false,true,false,false] [(9,4,[[.int a,.int b,.int c,.int d]]),(8,4,[fc w.val]),(hp nm.d,10,[e.c++[.emp,.emp]])] (by decide+kernel) (jbi _ (jbi _ (jb0 c0))) ?_;simp only[c0,F1,go_sem];refine And.intro (fun c hc=>by rw[zE.1 hc];rfl) ?_;refine jhk (fun X1 b2=> ?_);have b1:Abs.look L (hp X1)=none:=by
   rw[jae,jae]at b2;exact b2
  clear b2;have xd:¬X1=nm.d:=fun e=>by rw[e,c0]at b1;cases b1
  refine And.intro ?_ ?_
  ·refine jaw ?_ (jbi _ (jbi _ (jb0 c0)));dsimp only;rw[jae,jae,ja1 _ _ (hpne xd)];rfl
  simp only[c0,xd,zH xd,F1,go_sem];refine joj (List.map (fun p=>if p.1=hp nm.d then(p.1,10,[e.c++[.ref X1 233 6 1,.emp]])else p) L) (fun Q2 a1=> ?_);have e1:=a1;simp only[Evid.c,List.cons_append,List.nil_append]at e1;simp only[e1,go_sem];have b5:∀k,k≠hp nm.d->Abs.look Q2 k=Abs.look L k:=fun k hk=>by rw[<-a1];exact jak hk
  have a7:Abs.look Q2 (hp nm.d)=some (10,[e.c++[.ref X1 233 6 1,.emp]]):=by rw[<-a1];exact jag c0
  have b4:blks Q2:=a1▸jb7 hb;have F3:=bB b4;refine jcq [false,false,false,false,false,false,false,true,false,false] [(9,4,[[.int a,.int b,.int c,.int d]]),(hp nm.d,10,[e.c++[.ref X1 233 6 1,.emp]])] (by decide+kernel) ?_ ?_
  ·refine jc2 ?_ (jb0 ?_)
   ·dsimp only;rw[jd1,ja2]
   ·dsimp only;rw[ja1 _ _ (hpne (zH xd)),jae,jae];exact a7
  simp only[a7,xd,zH xd,F3,go_sem];refine And.intro (fun c hc=>by rw[zE.1 hc];rfl) ?_;refine jhk (fun X2 a6=> ?_);have b0:¬X2=X1/\Abs.look Q2 (hp X2)=none:=by
   have e1:¬X2=X1:=fun e=>by rw[e,ja2]at a6;cases a6
   rw[ja1 _ _ (hpne e1),jae,jae]at a6;exact⟨e1,a6⟩
  clear a6;obtain⟨a8,b0⟩:=b0;have yd:¬X2=nm.d:=fun e=>by rw[e,a7]at b0;cases b0
  refine And.intro ?_ ?_
  ·refine jc2 ?_ (jb0 ?_)
   ·rw[jd1,jd1,ja2]
   ·rw[ja1 _ _ (hpne (zH yd)),ja1 _ _ (hpne (zH xd)),jae,jae];exact a7
  simp only[a7,a8,zH a8,xd,zH xd,yd,zH yd,F3,go_sem];refine jbm ?_;simp only[go_sem];refine h.grow (X1:=X1) (X2:=X2) rfl b7 jf0 (zH xd) (zH yd) (zH a8) ?_ ?_ ?_
  ·rw[jas,ja1 _ _ (hpne (zH yd)),ja1 _ _ (hpne (zH xd)),jae,jae];exact jag a7
  ·rw[jas,ja1 _ _ (hpne (zH a8)),ja2];rfl
  ·rw[jas,ja2];rfl
 ·rw[jal hn,jal hn]at c0;have dr:=h.dr hn;have d_o:=h.d_o hn;have ro:=h.ro hn;have cr:=h.hr hn;have co:=h.ho hn;have e2:os.length=ws.length:=h.len;have c9:List.take ws.length (ws.map rwC)=ws.map rwC:=zY (by rw[za];exact zu _);have c8:List.take ws.length os=os:=tLo;obtain⟨Q,hQe⟩:∃Q,Abs.del L (hp nm.r)=Q:=⟨_,rfl⟩;have lQ:∀k,k≠hp nm.r->Abs.look Q k=Abs.look L k:=fun k hk=>by rw[<-hQe];exact ja9 _ hk
  have bQ:blks Q:=hQe▸jch hb;have e3:List.filter (fun p=>p.1 !=hp nm.r) L=Q:=hQe;have b3:=(lQ _ (hpne dr)).trans c0;have c4:=(lQ _ (hpne (zH ro))).trans co;have F2:=bB bQ;refine jap [20,30] [] [] Tryz.func169 ?_;simp only[F1,go_sem];refine jcq [false,false,false,false,false,false,false,false,false,false,true,false,false] [(9,4,[[.int a,.int b,.int c,.int d]]),(8,4,[fc w.val]),(hp nm.d,10,[e.c++[.ref nm.r 233 6 ws.length,.ref nm.o 230 4 ws.length]])] (by decide+kernel) (jbi _ (jbi _ (jb0 c0))) ?_;simp only[c0,cr,c9,za,F1,go_sem];refine And.intro (fun c hc=>by rw[zE.1 hc];rfl) (And.intro (zu _) (And.intro (by omega) ?_));refine jgv (fun X1 b2=> ?_);have b1:Abs.look Q (hp X1)=none:=by
   rw[jat (hp_ne (by decide)),jat (hp_ne (by decide)),jae,jae,hQe]at b2;exact b2
  clear b2;have xd:¬X1=nm.d:=fun e=>by rw[e,b3]at b1;cases b1
  have xo:¬X1=nm.o:=fun e=>by rw[e,c4]at b1;cases b1
  refine And.intro ?_ ?_
  ·rw[jat (hp_ne (by decide)),jat (hp_ne (by decide)),hQe];refine jaw ?_ (jbi _ (jbi _ (jb0 b3)));dsimp only;rw[jae,jae,ja1 _ _ (hpne xd)];rfl
  simp only[b3,b8,b9,e3,xd,zH xd,dr,zH dr,F2,go_sem];refine joj (List.map (fun p=>if p.1=hp nm.d then(p.1,10,[e.c++[.ref X1 233 6 (ws.length+1),.ref nm.o 230 4 ws.length]])else p) Q) (fun Q2 a1=> ?_);have e1:=a1;simp only[Evid.c,List.cons_append,List.nil_append]at e1;simp only[e1,go_sem];have b5:∀k,k≠hp nm.d->Abs.look Q2 k=Abs.look Q k:=fun k hk=>by rw[<-a1];exact jak hk
  have a7:Abs.look Q2 (hp nm.d)=some (10,[e.c++[.ref X1 233 6 (ws.length+1),.ref nm.o 230 4 ws.length]]):=by rw[<-a1];exact jag b3
  have b4:blks Q2:=a1▸jb7 bQ;have c5:=(b5 _ (hpne (zH d_o))).trans c4;have e6:Abs.look Q2 (hp X1)=none:=by rw[b5 _ (hpne xd)];exact b1
  have F3:=bB b4;obtain⟨Q3,hQ3e⟩:∃Q3,Abs.del Q2 (hp nm.o)=Q3:=⟨_,rfl⟩;have c6:∀k,k≠hp nm.o->Abs.look Q3 k=Abs.look Q2 k:=fun k hk=>by rw[<-hQ3e];exact ja9 _ hk
  have e5:blks Q3:=hQ3e▸jch b4;have c3:List.filter (fun p=>p.1 !=hp nm.o) Q2=Q3:=hQ3e;have d3:=(c6 _ (hpne d_o)).trans a7;have F4:=bB e5;refine jcq [false,false,false,false,false,false,false,true,false,false] [(9,4,[[.int a,.int b,.int c,.int d]]),(hp nm.d,10,[e.c++[.ref X1 233 6 (ws.length+1),.ref nm.o 230 4 ws.length]])] (by decide+kernel) ?_ ?_
  ·refine jc2 ?_ (jb0 ?_)
   ·dsimp only;rw[jd1,ja2]
   ·dsimp only;rw[ja1 _ _ (hpne (zH xd)),jae,jae];exact a7
  simp only[a7,c5,e2,c8,xd,zH xd,xo,zH xo,F3,go_sem];refine And.intro (fun c hc=>by rw[zE.1 hc];rfl) (And.intro (by omega) (And.intro (by omega) ?_));refine jgv (fun X2 a6=> ?_);have b0:¬X2=X1/\Abs.look Q3 (hp X2)=none:=by
   rw[jat (hpne xo),jat (hp_ne (by decide)),jat (hp_ne (by decide)),hQ3e]at a6;have e1:¬X2=X1:=fun e=>by rw[e,ja2]at a6;cases a6
   rw[ja1 _ _ (hpne e1),jae,jae]at a6;exact⟨e1,a6⟩
  clear a6;obtain⟨a8,b0⟩:=b0;have yd:¬X2=nm.d:=fun e=>by rw[e,d3]at b0;cases b0
  refine And.intro ?_ ?_
  ·rw[jat (hpne xo),jat (hp_ne (by decide)),jat (hp_ne (by decide)),hQ3e];refine jc2 ?_ (jb0 ?_)
   ·rw[jd1,jd1,ja2]
   ·rw[ja1 _ _ (hpne (zH yd)),ja1 _ _ (hpne (zH xd)),jae,jae];exact d3
  have e4:(hp X1 !=hp nm.o)=true:=by simp only[qh,ne_eq];exact hpne xo
  simp only[d3,a8,zH a8,xd,zH xd,yd,zH yd,xo,e4,b8,b9,c3,F4,go_sem];refine jbm ?_;simp only[go_sem];refine h.grow (X1:=X1) (X2:=X2) rfl b7 jf0 (zH xd) (zH yd) (zH a8) ?_ ?_ ?_
  ·rw[jas,ja1 _ _ (hpne (zH yd)),ja1 _ _ (hpne (zH xd)),jae,jae];exact jag d3
  ·rw[jas,ja1 _ _ (hpne (zH a8)),ja2];rfl
  ·rw[jas,ja2]
