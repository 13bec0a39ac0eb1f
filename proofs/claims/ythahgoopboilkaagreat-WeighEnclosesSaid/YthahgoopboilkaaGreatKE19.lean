/- A part of the proof. No further condition. -/
import Derived.Test.YthahgoopboilkaaGreatKE18
set_option linter.all false
set_option maxRecDepth 10000000
set_option maxHeartbeats 16000000
namespace Go.Proofs.YthahgoopboilkaaGreat
section
open Go.Abs
open Go.LP (Dic)
attribute [local go_sem] ints ic big frac fc
theorem HasD.congr{L:Abs.Rows}{nm:DN}{N:Nat}{D E:Dic}{src:Nat->Int×Bool}(h:HasD L nm N D src)(hm:E.m=D.m)(hn:E.n=D.n)(hv:∀i,i<D.m->E.v i=D.v i)(hg:∀j,j<D.n->E.g j=D.g j)
  (ho:∀i,i<D.m->E.own i=D.own i) (hf:∀j,j<D.n->E.free j=D.free j) (ha:∀i j,i<D.m->j<D.n->E.a i j=D.a i j):HasD L nm N E src:=by
 refine⟨h.blk,by rw[hm];exact h.nd,by rw[hm,hn];exact h.hd,?_,fun h0=> ?_,fun h0=> ?_,fun h0=> ?_,fun h0=> ?_,fun i hi=> ?_⟩
 ·rw[hn,h.hg];congr 2;exact jak fun k hk=>by rw[hg k hk]
 ·rw[hm,hn,h.hr (by omega)];congr 2;exact jak fun k hk=>by rw[hv k hk]
 ·rw[hm,h.ho (by omega)];congr 2;exact jak fun k hk=>by rw[ho k hk]
 ·rw[hn,h.hf (by omega)];congr 2;exact jak fun k hk=>by rw[hf k hk]
 ·rw[hm];exact h.hs (by omega)
 ·rw[hn,h.ha i (by omega)];congr 2;exact jak fun k hk=>by rw[ha i k (by omega) hk]
structure SmD(D:Dic):Prop where
 v:∀i,i<D.m->FL 100000000 (D.v i)
 g:∀j,j<D.n->FL 100000000 (D.g j)
 a:∀i j,i<D.m->j<D.n->FL 100000000 (D.a i j)
theorem lset{m r n:Nat}{v:Nat->Rat}{A:Nat->Nat}{x:Rat}:(tab m fun i=>lineC (v i) (A i) n).set r (fc x++[.ref (A r) 35 4 n])=tab m fun i=>lineC (if i=r then x else v i) (A i) n:=by
 rw[jkh];refine jak fun k _=> ?_;by_cases e:k=r
 ·subst e;rw[zm rfl,zm rfl];rfl
 ·rw[zn e,zn e]
theorem oset{m r x:Nat}{o:Nat->Nat}:(tab m fun i=>oc (o i)).set r [.int (x:Int)]=tab m fun i=>oc (if i=r then x else o i):=by
 rw[jkh];refine jak fun k _=> ?_;by_cases e:k=r
 ·subst e;rw[zm rfl,zm rfl];rfl
 ·rw[zn e,zn e]
section
variable{L:Abs.Rows}{nm:DN}{N:Nat}{D:Dic}{src:Nat->Int×Bool}
theorem jh6(h:HasD L nm N D src){r s:Nat}(hr:r<D.m)(hs:s<D.n)(hp0:D.a r s≠0)(hm:D.m<=100000)(hn:D.n<=100000)(sm:SmD D)(sp:SmD (D.pivot r s)):
  CtrH G.P 185 [.im (.pr nm.d 6 0 0),.im (.int r),.im (.int s)] L (fun x L'=>x= .im (.tup [])/\HasD L' nm N (D.pivot r s) src):=by
 have hm0:D.m≠0:=by omega
 have hn0:D.n≠0:=by omega
 have hb:=h.blk;have F1:=bF hb;have K1:=bK hb;have G1:=bN hb;have h1:=h.hd;have h2:=h.hr hm0;have h3:=h.ha r hr;have hr0:(0:Int)<=r:=by omega
 have hs0:(0:Int)<=s:=by omega
 have hr':(r:Int)<D.m:=by omega
 have hs':(s:Int)<D.n:=by omega
 have g1:=lget (v:=D.v) (A:=nm.a) (n:=D.n) hr;have g2:=qget (f:=D.a r) hs;have ko:=x_over hp0 (sm.v r hr |>.mono (by omega)) (sm.a r s hr hs |>.mono (by omega));generalize hp:D.a r s=p at*;generalize hvr:D.v r/p=vr at*;simp only[frac,ints]at ko;obtain⟨M1,hM1,H1⟩:∃M1,M1=L.map (fun q=>if q.1=Abs.hp nm.r then(q.1,5,(tab D.m fun i=>lineC (D.v i) (nm.a i) D.n).set r (fc vr++[.ref (nm.a r) 35 4 D.n]))else q)/\
   HasD M1 nm N {D with v:=fun i=>if i=r then vr else D.v i} src:=
  ⟨_,rfl,h.withV (jb8 hb) ((jae h2).trans (by rw[lset])) fun k hk=>jan hk⟩
 refine jav [] [] [] Tryz.func185 ?_;simp only[h1,h2,h3,g1,g2,hr',hs',hr0,hs0,jao hm0,jao hn0,ja6,Int.toNat_natCast,F1,K1,G1,go_sem];refine jaf ?_;simp only[h1,h2,h3,g1,g2,hr',hs',hr0,hs0,jao hm0,jao hn0,ja6,Int.toNat_natCast,F1,K1,G1,go_sem];refine ja4 ko (by decide) ?_;have e1:=hM1.symm;simp only[fc,List.cons_append,List.nil_append]at e1;have F2:=bF H1.blk;have K2:=bK H1.blk;have G2:=bN H1.blk;have i2:=H1.hr hm0;have j1:=lget (v:=fun i=>if i=r then vr else D.v i) (A:=nm.a) (n:=D.n) hr;dsimp only at i2;simp only[h1,h2,h3,g1,g2,hr',hs',hr0,hs0,jao hm0,jao hn0,ja6,Int.toNat_natCast,F1,K1,G1,e1,F2,K2,G2,i2,j1,go_sem];clear e1 hM1 F1 K1 G1 h1 h2 h3 hb;refine jaz [0,1,2,6,7,37,38] (fun g:Nat×Abs.Rows=>⟨[(0,.im (.pr nm.d 6 0 0)),(1,.im (.int r)),(2,.im (.int s)),(6,.loc (Abs.hp nm.r) 5 r 0),(7,.loc 7 4 0 0),(37,.im (.int D.n)),(38,.im (.int g.1))],(7,4,[fc p])::g.2,[]⟩)
  (fun g=>g.1<=D.n/\HasD g.2 nm N {D with v:=fun i=>if i=r then vr else D.v i,a:=fun i=>if i=r then(fun k=>if k<g.1/\k≠s then D.a r k/p else D.a r k)else D.a i} src) (fun g=>D.n-g.1) (0,M1) ?_ ?_ rfl
  ⟨zE _,H1.congr rfl rfl (fun _ _=>rfl) (fun _ _=>rfl) (fun _ _=>rfl) (fun _ _=>rfl) (fun i j _ _=>by by_cases e:i=r<;>simp[e])⟩ ?_
 ·simp only[Int.natCast_zero,go_sem]
 ·exact SubR.of_eq rfl
 clear i2 j1 F2 K2 G2 H1 M1;intro⟨j,M⟩ ⟨hj,H⟩;dsimp only at hj H;have F2:=bF H.blk;have K2:=bK H.blk;have G2:=bN H.blk;have m2:=H.hr hm0;have m3:Abs.look M (Abs.hp (nm.a r))=some (4,tab D.n fun k=>qc (if k<j/\k≠s then D.a r k/p else D.a r k)):=(H.ha r hr).trans (by dsimp only;rw[zm rfl]);have m1:=lget (v:=fun i=>if i=r then vr else D.v i) (A:=nm.a) (n:=D.n) hr;dsimp only at m2;by_cases hlt:j<D.n
 ·have hd:decide ((j:Int)<D.n)=true:=za (by omega);have hjn:(j:Int)<D.n:=by omega
  have hj0:(0:Int)<=j:=by omega
  have w1:=ja9 (n:=(j:Int)+1) (by omega);have ga:(tab D.n fun k=>qc (if k<j/\k≠s then D.a r k/p else D.a r k))[j]? =some (fc (D.a r j)):=by
   rw[qget hlt,zn (by omega)]
  by_cases hjs:j=s
  ·have hd2:decide ((j:Int)=s)=true:=za (by omega);simp only[hd,hd2,F2,K2,go_sem];refine jaa (j+1,M) ?_ (SubR.of_eq rfl) rfl (by show D.n-(j+1)<D.n-j;omega) ⟨hlt,H.congr rfl rfl (fun _ _=>rfl) (fun _ _=>rfl) (fun _ _=>rfl) (fun _ _=>rfl) (fun i k _ _=> ?_)⟩
   ·simp only[w1,Int.natCast_add,go_sem]
   ·dsimp only;have e:(k<j+1/\k≠s)↔(k<j/\k≠s):=by omega
    by_cases hi:i=r
    ·rw[zm hi,zm hi];simp only[e]
    ·rw[zn hi,zn hi]
  ·have hd2:decide ((j:Int)=s)=false:=zq (by omega);have kz:=jol (D.a r j);by_cases hz:D.a r j=0
   ·rw[za hz]at kz;simp only[frac,ints]at kz;simp only[hd,hd2,m2,m3,m1,ga,hjn,hj0,ja6,Int.toNat_natCast,F2,K2,G2,go_sem];refine ja1 kz ?_;simp only[hd,hd2,m2,m3,m1,ga,hjn,hj0,ja6,Int.toNat_natCast,F2,K2,G2,go_sem];refine jaa (j+1,M) ?_ (SubR.of_eq rfl) rfl (by show D.n-(j+1)<D.n-j;omega) ⟨hlt,H.congr rfl rfl (fun _ _=>rfl) (fun _ _=>rfl) (fun _ _=>rfl) (fun _ _=>rfl) (fun i k _ _=> ?_)⟩
    ·simp only[w1,Int.natCast_add,go_sem]
    ·dsimp only;by_cases hi:i=r
     ·rw[zm hi,zm hi];by_cases hk:k=j
      ·subst hk;rw[zm ⟨by omega,hjs⟩,zn (by omega),hz,Rat.div_def];grind
      ·have e:(k<j+1/\k≠s)↔(k<j/\k≠s):=by omega
       simp only[e]
     ·rw[zn hi,zn hi]
   ·rw[zq hz]at kz;have ko2:=x_over hp0 (sm.a r j hr hlt |>.mono (by omega)) (b:=p) (by rw[<-hp];exact sm.a r s hr hs |>.mono (by omega));generalize hx:D.a r j/p=x at*;simp only[frac,ints]at kz ko2;obtain⟨M',hM',H'⟩:∃M',M'=M.map (fun q=>if q.1=Abs.hp (nm.a r)then(q.1,4,(tab D.n fun k=>qc (if k<j/\k≠s then D.a r k/p else D.a r k)).set j (fc x))else q)/\
      HasD M' nm N {D with v:=fun i=>if i=r then vr else D.v i,a:=fun i=>if i=r then(fun k=>if k<j+1/\k≠s then D.a r k/p else D.a r k)else D.a i} src:=by
     refine⟨_,rfl,(H.withA (jb8 H.blk) hr ((jae m3).trans (by rw[qset])) fun k hk=>jan hk).congr rfl rfl (fun _ _=>rfl) (fun _ _=>rfl) (fun _ _=>rfl) (fun _ _=>rfl) (fun i k _ _=> ?_)⟩;dsimp only;by_cases hi:i=r
     ·rw[zm hi,zm hi];by_cases hk:k=j
      ·subst hk;rw[zm ⟨by omega,hjs⟩,zm rfl,hx]
      ·have e:(k<j+1/\k≠s)↔(k<j/\k≠s):=by omega
       rw[zn hk];simp only[e]
     ·rw[zn hi,zn hi,zn hi]
    simp only[hd,hd2,m2,m3,m1,ga,hjn,hj0,ja6,Int.toNat_natCast,F2,K2,G2,go_sem];refine ja1 kz ?_;simp only[hd,hd2,m2,m3,m1,ga,hjn,hj0,ja6,Int.toNat_natCast,F2,K2,G2,go_sem];refine jaf ?_;simp only[hd,hd2,m2,m3,m1,ga,hjn,hj0,ja6,Int.toNat_natCast,F2,K2,G2,go_sem];refine ja4 ko2 (by decide) ?_;simp only[hd,hd2,m2,m3,m1,ga,hjn,hj0,ja6,Int.toNat_natCast,F2,K2,G2,go_sem];refine jaa (j+1,M') ?_ ?_ rfl (by show D.n-(j+1)<D.n-j;omega) ⟨hlt,H'⟩
    ·simp only[w1,Int.natCast_add,go_sem]
    ·exact SubR.of_eq (by rw[hM'];rfl)
 have hd:decide ((j:Int)<D.n)=false:=zq (by omega);have hjn:j=D.n:=by omega
 subst hjn;have o1:=jbt 1 (by omega);have ko3:=x_over hp0 (a:=((1:Int):Rat)) ((jb3 (by omega)).mono (by omega)) (b:=p) (by rw[<-hp];exact sm.a r s hr hs |>.mono (by omega));have hone:((1:Int):Rat)/p=1/p:=rfl;generalize ((1:Int):Rat)=one at*;generalize hx:one/p=x at*;simp only[frac,ints]at o1 ko3;obtain⟨M',hM',H'⟩:∃M',M'=M.map (fun q=>if q.1=Abs.hp (nm.a r)then(q.1,4,(tab D.n fun k=>qc (if k<D.n/\k≠s then D.a r k/p else D.a r k)).set s (fc x))else q)/\
   HasD M' nm N {D with v:=fun i=>if i=r then vr else D.v i,a:=fun i=>if i=r then(fun k=>if k=s then 1/p else D.a r k/p)else D.a i} src:=by
  refine⟨_,rfl,(H.withA (jb8 H.blk) hr ((jae m3).trans (by rw[qset])) fun k hk=>jan hk).congr rfl rfl (fun _ _=>rfl) (fun _ _=>rfl) (fun _ _=>rfl) (fun _ _=>rfl) (fun i k _ hk=> ?_)⟩;dsimp only;by_cases hi:i=r
  ·rw[zm hi,zm hi];by_cases hks:k=s
   ·rw[zm hks,zm hks,hone]
   ·rw[zn hks,zn hks,zm ⟨hk,hks⟩]
  ·rw[zn hi,zn hi,zn hi]
 simp only[hd,go_sem];refine jaf ?_;simp only[m2,m3,m1,hs',hs0,ja6,Int.toNat_natCast,F2,K2,G2,go_sem];refine ja4 o1 (by decide) ?_;simp only[m2,m3,m1,hs',hs0,ja6,Int.toNat_natCast,F2,K2,G2,go_sem];refine ja4 ko3 (by decide) ?_;have e1:=hM'.symm;simp only[fc]at e1;have ga:(tab D.n fun k=>qc (if k<D.n/\k≠s then D.a r k/p else D.a r k))[s]? =some (fc p):=by
  rw[qget hs,zn (by omega),hp]
 have F3:=fun(d:Nat) (h:d<100000)=>je8 (L:=M') (d:=d) H'.blk h;have K3:=fun(d s:Nat) (es:List (List IV)) (h:d<100000)=>jo7 (L:=M') (d:=d) (s:=s) (es:=es) H'.blk h;have G3:=fun(d:Nat) (h:d<100000)=>jay (L:=M') (d:=d) H'.blk h;have n1:=H'.hd;dsimp only at n1;simp only[m2,m3,m1,ga,hs',hs0,ja6,Int.toNat_natCast,F2,K2,G2,e1,n1,jao hm0,F3,K3,G3,go_sem];clear e1 ga F2 K2 G2 m1 m2 m3 o1 ko3 F3 K3 G3 n1 ko;obtain⟨nr,hnr⟩:∃nr:Nat->Rat,nr=fun k=>if k=s then 1/p else D.a r k/p:=⟨_,rfl⟩
 rw[<-hnr]at H';have hpiv:∀k,(D.pivot r s).a r k=nr k:=fun k=>by rw[hnr,<-hp];simp[LP.Dic.pivot]
 have hnrF:∀k,k<D.n->FL 1000000000 (nr k):=fun k hk=>by rw[<-hpiv];exact(sp.a r k hr hk).mono (by omega)
 have hvrF:FL 1000000000 vr:=by
  have:=sp.v r hr;simp only[LP.Dic.pivot,qC]at this;rw[hp,hvr]at this;exact this.mono (by omega)
 refine jaz [0,1,2,6,84,85] (fun g:Nat×Abs.Rows=>⟨[(0,.im (.pr nm.d 6 0 0)),(1,.im (.int r)),(2,.im (.int s)),(6,.loc (Abs.hp nm.r) 5 r 0),(84,.im (.int D.m)),(85,.im (.int g.1))],g.2,[]⟩)
  (fun g=>g.1<=D.m/\HasD g.2 nm N {D with v:=fun k=>if k=r then vr else if k<g.1 then D.v k-D.a k s*vr else D.v k,a:=fun k=>if k=r then nr else if k<g.1 then tkF (D.a k) nr s else D.a k} src) (fun g=>D.m-g.1) (0,M') ?_ ?_ rfl
  ⟨zE _,H'.congr rfl rfl (fun i _=>by simp) (fun _ _=>rfl) (fun _ _=>rfl) (fun _ _=>rfl) (fun i j _ _=>by by_cases e:i=r<;>simp[e])⟩ ?_
 ·simp only[Int.natCast_zero,go_sem]
 ·exact ja3 (by decide) H'.blk (SubR.of_eq rfl)
 clear H' hM' M' H hx hone x one M;intro⟨i,M⟩ ⟨hi,H⟩;dsimp only at hi H;have F2:=bF H.blk;have K2:=bK H.blk;have G2:=bN H.blk;have m0:=H.hd;have m2:=H.hr hm0;have m1:=lget (v:=fun k=>if k=r then vr else if k<i then D.v k-D.a k s*vr else D.v k) (A:=nm.a) (n:=D.n) hr;rw[zm rfl]at m1;dsimp only at m0 m2;by_cases hlt:i<D.m
 ·have hd:decide ((i:Int)<D.m)=true:=za (by omega);have him:(i:Int)<D.m:=by omega
  have hi0:(0:Int)<=i:=by omega
  have w1:=ja9 (n:=(i:Int)+1) (by omega);by_cases hir:i=r
  ·have hd2:decide ((i:Int)=r)=true:=za (by omega);simp only[hd,hd2,m0,m2,m1,him,hi0,jao hm0,ja6,Int.toNat_natCast,F2,K2,G2,go_sem];refine jaa (i+1,M) ?_ (SubR.of_eq rfl) rfl (by show D.m-(i+1)<D.m-i;omega) ⟨hlt,H.congr rfl rfl (fun k _=> ?_) (fun _ _=>rfl) (fun _ _=>rfl) (fun _ _=>rfl) (fun k j _ _=> ?_)⟩
   ·simp only[w1,Int.natCast_add,go_sem]
   ·dsimp only;by_cases hk:k=r
    ·rw[zm hk,zm hk]
    ·have e:(k<i+1)↔(k<i):=by omega
     simp only[hk,e]
   ·dsimp only;by_cases hk:k=r
    ·rw[zm hk,zm hk]
    ·have e:(k<i+1)↔(k<i):=by omega
     simp only[hk,e]
  ·have hd2:decide ((i:Int)=r)=false:=zq (by omega);have mi:=lget (v:=fun k=>if k=r then vr else if k<i then D.v k-D.a k s*vr else D.v k) (A:=nm.a) (n:=D.n) hlt;rw[zn hir,zn (qO _)]at mi;have m3:Abs.look M (Abs.hp (nm.a i))=some (4,tab D.n fun k=>qc (D.a i k)):=(H.ha i hlt).trans (by dsimp only;rw[zn hir,zn (qO _)]);have ga:=qget (f:=D.a i) hs;have kz:=jol (D.a i s);by_cases hz:D.a i s=0
   ·rw[za hz]at kz;simp only[frac,ints]at kz;simp only[hd,hd2,m0,m2,m1,mi,m3,ga,him,hi0,hs',hs0,jao hm0,ja6,Int.toNat_natCast,F2,K2,G2,go_sem];refine ja1 kz ?_;simp only[hd,hd2,m0,m2,m1,him,hi0,jao hm0,ja6,Int.toNat_natCast,F2,K2,G2,go_sem];refine jaa (i+1,M) ?_ (SubR.of_eq rfl) rfl (by show D.m-(i+1)<D.m-i;omega) ⟨hlt,H.congr rfl rfl (fun k _=> ?_) (fun _ _=>rfl) (fun _ _=>rfl) (fun _ _=>rfl) (fun k j _ _=> ?_)⟩
    ·simp only[w1,Int.natCast_add,go_sem]
    ·dsimp only;by_cases hk:k=r
     ·rw[zm hk,zm hk]
     ·by_cases hki:k=i
      ·subst hki;rw[zn hk,zn hk,zm (by omega),zn (by omega),hz];grind
      ·have e:(k<i+1)↔(k<i):=by omega
       simp only[hk,e]
    ·dsimp only;by_cases hk:k=r
     ·rw[zm hk,zm hk]
     ·by_cases hki:k=i
      ·subst hki;rw[zn hk,zn hk,zm (by omega),zn (by omega),tkF,hz];split
       ·rename_i e;rw[e,hz];grind
       ·grind
      ·have e:(k<i+1)↔(k<i):=by omega
       simp only[hk,e]
   ·rw[zq hz]at kz;have kl:=x_less (sm.v i hlt |>.mono (by omega)) (sm.a i s hlt hs |>.mono (by omega)) (hvrF.mono (by omega));generalize hx:D.v i-D.a i s*vr=x at*;simp only[frac,ints]at kz kl;obtain⟨M',hM',H'⟩:∃M',M'=M.map (fun q=>if q.1=Abs.hp nm.r then(q.1,5,(tab D.m fun k=>lineC (if k=r then vr else if k<i then D.v k-D.a k s*vr else D.v k) (nm.a k) D.n).set i (fc x++[.ref (nm.a i) 35 4 D.n]))else q)/\
      HasD M' nm N {D with v:=fun k=>if k=r then vr else if k<i+1 then D.v k-D.a k s*vr else D.v k,a:=fun k=>if k=r then nr else if k<i then tkF (D.a k) nr s else D.a k} src:=by
     refine⟨_,rfl,(H.withV (v:=fun k=>if k=i then x else if k=r then vr else if k<i then D.v k-D.a k s*vr else D.v k) (jb8 H.blk) ((jae m2).trans (by rw[lset])) fun k hk=>jan hk).congr rfl rfl (fun k _=> ?_) (fun _ _=>rfl) (fun _ _=>rfl) (fun _ _=>rfl) (fun _ _ _ _=>rfl)⟩;dsimp only;by_cases hk:k=r
     ·rw[zm hk,zm hk];rw[zn (by omega)]
     ·by_cases hki:k=i
      ·subst hki;rw[zn hk,zm (by omega),zm rfl,hx]
      ·have e:(k<i+1)↔(k<i):=by omega
       simp only[hk,hki,e,qt]
    simp only[hd,hd2,m0,m2,m1,mi,m3,ga,him,hi0,hs',hs0,jao hm0,ja6,Int.toNat_natCast,F2,K2,G2,go_sem];refine ja1 kz ?_;simp only[hd,hd2,m0,m2,m1,mi,m3,ga,him,hi0,hs',hs0,jao hm0,ja6,Int.toNat_natCast,F2,K2,G2,go_sem];refine jaf ?_;simp only[hd,hd2,m0,m2,m1,mi,m3,ga,him,hi0,hs',hs0,jao hm0,ja6,Int.toNat_natCast,F2,K2,G2,go_sem];refine ja4 kl (by decide) ?_;have e1:=hM'.symm;simp only[fc,List.cons_append,List.nil_append]at e1;have F3:=fun(d:Nat) (h:d<100000)=>je8 (L:=M') (d:=d) H'.blk h;have K3:=fun(d s:Nat) (es:List (List IV)) (h:d<100000)=>jo7 (L:=M') (d:=d) (s:=s) (es:=es) H'.blk h;have G3:=fun(d:Nat) (h:d<100000)=>jay (L:=M') (d:=d) H'.blk h;simp only[hd,hd2,m0,m2,m1,mi,m3,ga,him,hi0,hs',hs0,jao hm0,ja6,Int.toNat_natCast,F2,K2,G2,e1,F3,K3,G3,go_sem];have p2:=H'.hr hm0;have p1:=lget (v:=fun k=>if k=r then vr else if k<i+1 then D.v k-D.a k s*vr else D.v k) (A:=nm.a) (n:=D.n) hr;have pi:=lget (v:=fun k=>if k=r then vr else if k<i+1 then D.v k-D.a k s*vr else D.v k) (A:=nm.a) (n:=D.n) hlt;dsimp only at p2;have q1:Abs.look M' (Abs.hp (nm.a i))=some (4,tab D.n fun k=>qc (D.a i k)):=(H'.ha i hlt).trans (by dsimp only;rw[zn hir,zn (qO _)])
    have q2:Abs.look M' (Abs.hp (nm.a r))=some (4,tab D.n fun k=>qc (nr k)):=(H'.ha r hr).trans (by dsimp only;rw[zm rfl]);have kt:=x_take M' (nm.a i) (nm.a r) D.n s (D.a i) nr H'.blk q1 q2 (fun e=>hir (H'.ap.aa i r hlt hr e)) hs hn (fun k hk=>(sm.a i k hlt hk).mono (by omega)) hnrF;refine jac 9 ?_;simp only[p2,p1,pi,hr',hr0,him,hi0,hs',hs0,jao hm0,ja6,Int.toNat_natCast,F3,K3,G3,go_sem];refine jaj kt (by decide) rfl H'.blk (SubR.of_eq rfl) ?_;rintro _ L2 ⟨rfl,t1,t2,t3⟩ hfr;refine⟨L2,jbn,?_⟩;have F4:=bF t1;have H2:=(H'.withA t1 hlt t2 t3).congr (E:={D with v:=fun k=>if k=r then vr else if k<i+1 then D.v k-D.a k s*vr else D.v k,a:=fun k=>if k=r then nr else if k<i+1 then tkF (D.a k) nr s else D.a k}) rfl rfl (fun _ _=>rfl) (fun _ _=>rfl) (fun _ _=>rfl) (fun _ _=>rfl) (fun k j _ _=>by
     dsimp only;by_cases hk:k=r
     ·rw[zm hk,zm hk,zn (by omega)]
     ·by_cases hki:k=i
      ·subst hki;rw[zn hk,zm (by omega),zm rfl]
      ·have e:(k<i+1)↔(k<i):=by omega
       simp only[hk,hki,e,qt])
    simp only[F4,go_sem];refine jaa (i+1,L2) ?_ (SubR.of_eq rfl) rfl (by show D.m-(i+1)<D.m-i;omega) ⟨hlt,H2⟩;simp only[w1,Int.natCast_add,go_sem]
 have hd:decide ((i:Int)<D.m)=false:=zq (by omega);have him:i=D.m:=by omega
 subst him;have m3:Abs.look M (Abs.hp nm.g)=some (4,tab D.n fun j=>qc (D.g j)):=H.hg;have ga:=qget (f:=D.g) hs;have kz:=jol (D.g s);have pv:∀i,i<D.m->(D.pivot r s).v i=(if i=r then vr else if i<D.m then D.v i-D.a i s*vr else D.v i):=fun i hi=>by
  rw[<-hvr,<-hp];simp only[LP.Dic.pivot,hi,qC]
 have tk:∀(c:Nat->Rat) (j:Nat),LP.exch p (D.a r) s c j=tkF c nr s j:=fun c j=>by
  rw[tkF,LP.exch,hnr];by_cases e:j=s
  ·rw[zm e,zm e];dsimp only;rw[zm rfl]
  ·rw[zn e,zn e];dsimp only;rw[zn e]
 have pg:∀j,j<D.n->(D.pivot r s).g j=tkF D.g nr s j:=fun j hj=>by rw[<-tk,<-hp];rfl
 have pa:∀i j,i<D.m->j<D.n->(D.pivot r s).a i j=(if i=r then nr else if i<D.m then tkF (D.a i) nr s else D.a i) j:=fun i j hi hj=>by
  by_cases e:i=r
  ·subst e;rw[zm rfl];exact hpiv j
  ·rw[zn e,zm hi,<-tk,<-hp];simp[LP.Dic.pivot,e]
 by_cases hz:D.g s=0
 ·rw[za hz]at kz;simp only[frac,ints]at kz;have HX:HasD M nm N {D with v:=fun k=>if k=r then vr else if k<D.m then D.v k-D.a k s*vr else D.v k,a:=fun k=>if k=r then nr else if k<D.m then tkF (D.a k) nr s else D.a k,g:=tkF D.g nr s} src:=
   H.congr rfl rfl (fun _ _=>rfl) (fun j _=>by
    show tkF D.g nr s j=D.g j;rw[tkF,hz];split
    ·rename_i e;rw[e,hz];grind
    ·grind) (fun _ _=>rfl) (fun _ _=>rfl) (fun _ _ _ _=>rfl)
  simp only[hd,m0,m3,ga,hs',hs0,ja6,Int.toNat_natCast,F2,K2,G2,go_sem];refine ja1 kz ?_;simp only[hd,go_sem];have o1:=HX.ho hm0;have f1:=HX.hf hn0;have c0:=HX.hd;dsimp only at o1 f1 c0;have og:=oget (o:=D.own) hr;have fg:=oget (o:=D.free) hs;have F5:=bF HX.blk;have G5:=bN HX.blk;obtain⟨Y,hY,HY⟩:∃Y,Y=M.map (fun q=>if q.1=Abs.hp nm.o then(q.1,1,(tab D.m fun i=>oc (D.own i)).set r [.int (D.free s:Int)])else q)/\HasD Y nm N {D with v:=fun k=>if k=r then vr else if k<D.m then D.v k-D.a k s*vr else D.v k,a:=fun k=>if k=r then nr else if k<D.m then tkF (D.a k) nr s else D.a k,g:=tkF D.g nr s,own:=fun i=>if i=r then D.free s else D.own i} src:=
   ⟨_,rfl,HX.withO (jb8 HX.blk) ((jae o1).trans (by rw[oset])) fun k hk=>jan hk⟩
  have f2:=HY.hf hn0;dsimp only at f2;have F6:=bF HY.blk;have G6:=bN HY.blk;obtain⟨Z,hZ,HZ⟩:∃Z,Z=Y.map (fun q=>if q.1=Abs.hp nm.f then(q.1,1,(tab D.n fun i=>oc (D.free i)).set s [.int (D.own r:Int)])else q)/\HasD Z nm N {D with v:=fun k=>if k=r then vr else if k<D.m then D.v k-D.a k s*vr else D.v k,a:=fun k=>if k=r then nr else if k<D.m then tkF (D.a k) nr s else D.a k,g:=tkF D.g nr s,own:=fun i=>if i=r then D.free s else D.own i,free:=fun i=>if i=s then D.own r else D.free i} src:=
   ⟨_,rfl,HY.withF (jb8 HY.blk) ((jae f2).trans (by rw[oset])) fun k hk=>jan hk⟩
  have e1:=hY.symm;have e2:=hZ.symm;refine jaf ?_;simp only[c0,o1,f1,og,fg,f2,hr',hr0,hs',hs0,jao hm0,jao hn0,ja6,Int.toNat_natCast,F5,G5,e1,F6,G6,e2,go_sem];refine jbh Z HZ.blk (SubR.of_eq rfl) ?_;simp only[go_sem];exact HZ.congr rfl rfl (fun i hi=>by rw[pv i hi]) (fun j hj=>by rw[pg j hj]) (fun i hi=>rfl) (fun j hj=>rfl) (fun i j hi hj=>by rw[pa i j hi hj])
 ·rw[zq hz]at kz;simp only[frac,ints]at kz;have m4:Abs.look M (Abs.hp (nm.a r))=some (4,tab D.n fun k=>qc (nr k)):=(H.ha r hr).trans (by dsimp only;rw[zm rfl]);have kt:=x_take M nm.g (nm.a r) D.n s D.g nr H.blk m3 m4 (H.ap.ga r hr) hs hn (fun k hk=>(sm.g k hk).mono (by omega)) hnrF;simp only[hd,m0,m3,ga,hs',hs0,ja6,Int.toNat_natCast,F2,K2,G2,go_sem];refine ja1 kz ?_;simp only[hd,go_sem];refine jac 9 ?_;simp only[m0,m2,m1,hr',hr0,hs',hs0,jao hm0,ja6,Int.toNat_natCast,F2,K2,G2,go_sem];refine jaj kt (by decide) rfl H.blk (SubR.of_eq rfl) ?_;rintro _ X ⟨rfl,t1,t2,t3⟩ hfr;refine⟨X,jbn,?_⟩;have HX:=H.withG t1 t2 t3;have F4:=bF t1;simp only[F4,go_sem];have o1:=HX.ho hm0;have f1:=HX.hf hn0;have c0:=HX.hd;dsimp only at o1 f1 c0;have og:=oget (o:=D.own) hr;have fg:=oget (o:=D.free) hs;have F5:=bF HX.blk;have G5:=bN HX.blk;obtain⟨Y,hY,HY⟩:∃Y,Y=X.map (fun q=>if q.1=Abs.hp nm.o then(q.1,1,(tab D.m fun i=>oc (D.own i)).set r [.int (D.free s:Int)])else q)/\HasD Y nm N {D with v:=fun k=>if k=r then vr else if k<D.m then D.v k-D.a k s*vr else D.v k,a:=fun k=>if k=r then nr else if k<D.m then tkF (D.a k) nr s else D.a k,g:=tkF D.g nr s,own:=fun i=>if i=r then D.free s else D.own i} src:=
   ⟨_,rfl,HX.withO (jb8 HX.blk) ((jae o1).trans (by rw[oset])) fun k hk=>jan hk⟩
  have f2:=HY.hf hn0;dsimp only at f2;have F6:=bF HY.blk;have G6:=bN HY.blk;obtain⟨Z,hZ,HZ⟩:∃Z,Z=Y.map (fun q=>if q.1=Abs.hp nm.f then(q.1,1,(tab D.n fun i=>oc (D.free i)).set s [.int (D.own r:Int)])else q)/\HasD Z nm N {D with v:=fun k=>if k=r then vr else if k<D.m then D.v k-D.a k s*vr else D.v k,a:=fun k=>if k=r then nr else if k<D.m then tkF (D.a k) nr s else D.a k,g:=tkF D.g nr s,own:=fun i=>if i=r then D.free s else D.own i,free:=fun i=>if i=s then D.own r else D.free i} src:=
   ⟨_,rfl,HY.withF (jb8 HY.blk) ((jae f2).trans (by rw[oset])) fun k hk=>jan hk⟩
  have e1:=hY.symm;have e2:=hZ.symm;refine jaf ?_;simp only[c0,o1,f1,og,fg,f2,hr',hr0,hs',hs0,jao hm0,jao hn0,ja6,Int.toNat_natCast,F5,G5,e1,F6,G6,e2,go_sem];refine jbh Z HZ.blk (SubR.of_eq rfl) ?_;simp only[go_sem];exact HZ.congr rfl rfl (fun i hi=>by rw[pv i hi]) (fun j hj=>by rw[pg j hj]) (fun i hi=>rfl) (fun j hj=>rfl) (fun i j hi hj=>by rw[pa i j hi hj])
