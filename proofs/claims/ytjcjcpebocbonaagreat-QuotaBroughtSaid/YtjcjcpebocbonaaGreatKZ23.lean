/- A part of the proof. No further condition. -/
import Derived.Test.YtjcjcpebocbonaaGreatKZ22
set_option linter.all false
set_option maxRecDepth 10000000
set_option maxHeartbeats 16000000
namespace Go.Proofs.YtjcjcpebocbonaaGreat
section
set_option maxRecDepth 1000000
open Go.Abs
open Go.LP (Dic)
attribute [local go_sem] ints ic big frac fc
theorem HasD.congr{L:Abs.Rows}{nm:DN}{N:Nat}{D E:Dic}{src:Nat->Int×Bool}(h:HasD L nm N D src)(hm:E.m=D.m)(hn:E.n=D.n)(hv:∀i,i<D.m->E.v i=D.v i)(hg:∀j,j<D.n->E.g j=D.g j)
  (ho:∀i,i<D.m->E.own i=D.own i) (hf:∀j,j<D.n->E.free j=D.free j) (ha:∀i j,i<D.m->j<D.n->E.a i j=D.a i j):HasD L nm N E src:=by
 refine⟨h.blk,by rw[hm];exact h.nd,by rw[hm,hn];exact h.hd,?_,fun h0=> ?_,fun h0=> ?_,fun h0=> ?_,fun h0=> ?_,fun i hi=> ?_⟩
 ·rw[hn,h.hg];congr 2;exact jan fun k hk=>by rw[hg k hk]
 ·rw[hm,hn,h.hr (by omega)];congr 2;exact jan fun k hk=>by rw[hv k hk]
 ·rw[hm,h.ho (by omega)];congr 2;exact jan fun k hk=>by rw[ho k hk]
 ·rw[hn,h.hf (by omega)];congr 2;exact jan fun k hk=>by rw[hf k hk]
 ·rw[hm];exact h.hs (by omega)
 ·rw[hn,h.ha i (by omega)];congr 2;exact jan fun k hk=>by rw[ha i k (by omega) hk]
structure SmD(D:Dic):Prop where
 v:∀i,i<D.m->FL 100000000 (D.v i)
 g:∀j,j<D.n->FL 100000000 (D.g j)
 a:∀i j,i<D.m->j<D.n->FL 100000000 (D.a i j)
theorem lset{m r n:Nat}{v:Nat->Rat}{A:Nat->Nat}{x:Rat}:(tab m fun i=>lineC (v i) (A i) n).set r (fc x++[.ref (A r) 48 4 n])=tab m fun i=>lineC (if i=r then x else v i) (A i) n:=by
 rw[jo2];refine jan fun k _=> ?_;by_cases e:k=r
 ·subst e;rw[zh rfl,zh rfl];rfl
 ·rw[zl e,zl e]
theorem oset{m r x:Nat}{o:Nat->Nat}:(tab m fun i=>oc (o i)).set r [.int (x:Int)]=tab m fun i=>oc (if i=r then x else o i):=by
 rw[jo2];refine jan fun k _=> ?_;by_cases e:k=r
 ·subst e;rw[zh rfl,zh rfl];rfl
 ·rw[zl e,zl e]
section
variable{L:Abs.Rows}{nm:DN}{N:Nat}{D:Dic}{src:Nat->Int×Bool}
theorem jho(h:HasD L nm N D src){r s:Nat}(hr:r<D.m)(hs:s<D.n)(c8:D.a r s≠0)(hm:D.m<=100000)(hn:D.n<=100000)(sm:SmD D)(sp:SmD (D.pivot r s)):
  CtrH G.P 178 [.im (.pr nm.d 6 0 0),.im (.int r),.im (.int s)] L (fun x L'=>x= .im (.tup [])/\HasD L' nm N (D.pivot r s) src):=by
 have a1:D.m≠0:=by omega
 have b2:D.n≠0:=by omega
 have hb:=h.blk;have F1:=bB hb;have h1:=h.hd;have h2:=h.hr a1;have h3:=h.ha r hr;have b6:(0:Int)<=r:=by omega
 have a7:(0:Int)<=s:=by omega
 have b7:(r:Int)<D.m:=by omega
 have a8:(s:Int)<D.n:=by omega
 have g1:=lget (v:=D.v) (A:=nm.a) (n:=D.n) hr;have g2:=qget (f:=D.a r) hs;have ko:=x_over c8 (sm.v r hr |>.mono (by omega)) (sm.a r s hr hs |>.mono (by omega));generalize hp:D.a r s=p at*;generalize e3:D.v r/p=vr at*;simp only[frac,ints]at ko;obtain⟨M1,hM1,H1⟩:∃M1,M1=L.map (fun q=>if q.1=Abs.hp nm.r then(q.1,5,(tab D.m fun i=>lineC (D.v i) (nm.a i) D.n).set r (fc vr++[.ref (nm.a r) 48 4 D.n]))else q)/\
   HasD M1 nm N {D with v:=fun i=>if i=r then vr else D.v i} src:=
  ⟨_,rfl,h.withV (jb7 hb) ((jag h2).trans (by rw[lset])) fun k hk=>jak hk⟩
 refine jap [] [] [] Tryz.func178 ?_;simp only[h1,h2,h3,g1,g2,b7,a8,b6,a7,jal a1,jal b2,jad,Int.toNat_natCast,F1,go_sem];refine jah ?_;simp only[h1,h2,h3,g1,g2,b7,a8,b6,a7,jal a1,jal b2,jad,Int.toNat_natCast,F1,go_sem];refine ja3 ko (by decide) ?_;have e1:=hM1.symm;simp only[fc,List.cons_append,List.nil_append]at e1;have F2:=bB H1.blk;have i2:=H1.hr a1;have j1:=lget (v:=fun i=>if i=r then vr else D.v i) (A:=nm.a) (n:=D.n) hr;dsimp only at i2;simp only[h1,h2,h3,g1,g2,b7,a8,b6,a7,jal a1,jal b2,jad,Int.toNat_natCast,F1,e1,F2,i2,j1,go_sem];clear e1 hM1 F1 h1 h2 h3 hb;refine jar [0,1,2,6,7,37,38] (fun g:Nat×Abs.Rows=>⟨[(0,.im (.pr nm.d 6 0 0)),(1,.im (.int r)),(2,.im (.int s)),(6,.loc (Abs.hp nm.r) 5 r 0),(7,.loc 7 4 0 0),(37,.im (.int D.n)),(38,.im (.int g.1))],(7,4,[fc p])::g.2,[]⟩)
  (fun g=>g.1<=D.n/\HasD g.2 nm N {D with v:=fun i=>if i=r then vr else D.v i,a:=fun i=>if i=r then(fun k=>if k<g.1/\k≠s then D.a r k/p else D.a r k)else D.a i} src) (fun g=>D.n-g.1) (0,M1) ?_ ?_ rfl
  ⟨zG _,H1.congr rfl rfl (fun _ _=>rfl) (fun _ _=>rfl) (fun _ _=>rfl) (fun _ _=>rfl) (fun i j _ _=>by by_cases e:i=r<;>simp[e])⟩ ?_
 ·simp only[Int.natCast_zero,go_sem]
 ·exact ja5
 clear i2 j1 F2 H1 M1;intro⟨j,M⟩ ⟨hj,H⟩;dsimp only at hj H;have F2:=bB H.blk;have m2:=H.hr a1;have m3:Abs.look M (Abs.hp (nm.a r))=some (4,tab D.n fun k=>qc (if k<j/\k≠s then D.a r k/p else D.a r k)):=(H.ha r hr).trans (by dsimp only;rw[zh rfl]);have m1:=lget (v:=fun i=>if i=r then vr else D.v i) (A:=nm.a) (n:=D.n) hr;dsimp only at m2;by_cases a6:j<D.n
 ·have hd:decide ((j:Int)<D.n)=true:=dTo;have b4:(j:Int)<D.n:=by omega
  have b8:(0:Int)<=j:=by omega
  have w1:=ja8 ((j:Int)+1);have ga:(tab D.n fun k=>qc (if k<j/\k≠s then D.a r k/p else D.a r k))[j]? =some (fc (D.a r j)):=by
   rw[qget a6,iNo]
  by_cases e4:j=s
  ·have b0:decide ((j:Int)=s)=true:=dTo;simp only[hd,b0,F2,go_sem];refine jac (j+1,M) ?_ ja5 rfl (by show D.n-(j+1)<D.n-j;omega) ⟨a6,H.congr rfl rfl (fun _ _=>rfl) (fun _ _=>rfl) (fun _ _=>rfl) (fun _ _=>rfl) (fun i k _ _=> ?_)⟩
   ·simp only[w1,Int.natCast_add,go_sem]
   ·dsimp only;have e:(k<j+1/\k≠s)↔(k<j/\k≠s):=by omega
    by_cases hi:i=r
    ·rw[zh hi,zh hi];simp only[e]
    ·rw[zl hi,zl hi]
  ·have b0:decide ((j:Int)=s)=false:=dFo;have kz:=jpj (D.a r j);by_cases hz:D.a r j=0
   ·rw[zp hz]at kz;simp only[frac,ints]at kz;simp only[hd,b0,m2,m3,m1,ga,b4,b8,jad,Int.toNat_natCast,F2,go_sem];refine ja0 kz ?_;simp only[hd,b0,m2,m3,m1,ga,b4,b8,jad,Int.toNat_natCast,F2,go_sem];refine jac (j+1,M) ?_ ja5 rfl (by show D.n-(j+1)<D.n-j;omega) ⟨a6,H.congr rfl rfl (fun _ _=>rfl) (fun _ _=>rfl) (fun _ _=>rfl) (fun _ _=>rfl) (fun i k _ _=> ?_)⟩
    ·simp only[w1,Int.natCast_add,go_sem]
    ·dsimp only;by_cases hi:i=r
     ·rw[zh hi,zh hi];by_cases hk:k=j
      ·subst hk;rw[zh ⟨by omega,e4⟩,iNo,hz,Rat.div_def];grind
      ·have e:(k<j+1/\k≠s)↔(k<j/\k≠s):=by omega
       simp only[e]
     ·rw[zl hi,zl hi]
   ·rw[ze hz]at kz;have c9:=x_over c8 (sm.a r j hr a6 |>.mono (by omega)) (b:=p) (by rw[<-hp];exact sm.a r s hr hs |>.mono (by omega));generalize hx:D.a r j/p=x at*;simp only[frac,ints]at kz c9;obtain⟨M',hM',H'⟩:∃M',M'=M.map (fun q=>if q.1=Abs.hp (nm.a r)then(q.1,4,(tab D.n fun k=>qc (if k<j/\k≠s then D.a r k/p else D.a r k)).set j (fc x))else q)/\
      HasD M' nm N {D with v:=fun i=>if i=r then vr else D.v i,a:=fun i=>if i=r then(fun k=>if k<j+1/\k≠s then D.a r k/p else D.a r k)else D.a i} src:=by
     refine⟨_,rfl,(H.withA (jb7 H.blk) hr ((jag m3).trans (by rw[qset])) fun k hk=>jak hk).congr rfl rfl (fun _ _=>rfl) (fun _ _=>rfl) (fun _ _=>rfl) (fun _ _=>rfl) (fun i k _ _=> ?_)⟩;dsimp only;by_cases hi:i=r
     ·rw[zh hi,zh hi];by_cases hk:k=j
      ·subst hk;rw[zh ⟨by omega,e4⟩,zh rfl,hx]
      ·have e:(k<j+1/\k≠s)↔(k<j/\k≠s):=by omega
       rw[zl hk];simp only[e]
     ·rw[zl hi,zl hi,zl hi]
    simp only[hd,b0,m2,m3,m1,ga,b4,b8,jad,Int.toNat_natCast,F2,go_sem];refine ja0 kz ?_;simp only[hd,b0,m2,m3,m1,ga,b4,b8,jad,Int.toNat_natCast,F2,go_sem];refine jah ?_;simp only[hd,b0,m2,m3,m1,ga,b4,b8,jad,Int.toNat_natCast,F2,go_sem];refine ja3 c9 (by decide) ?_;simp only[hd,b0,m2,m3,m1,ga,b4,b8,jad,Int.toNat_natCast,F2,go_sem];refine jac (j+1,M') ?_ ?_ rfl (by show D.n-(j+1)<D.n-j;omega) ⟨a6,H'⟩
    ·simp only[w1,Int.natCast_add,go_sem]
    ·exact SubR.of_eq (by rw[hM'];rfl)
 have hd:decide ((j:Int)<D.n)=false:=dFo;have b4:j=D.n:=by omega
 subst b4;have o1:=jcj 1 (by omega);have c7:=x_over c8 (a:=((1:Int):Rat)) ((jbn (by omega)).mono (by omega)) (b:=p) (by rw[<-hp];exact sm.a r s hr hs |>.mono (by omega));have c5:((1:Int):Rat)/p=1/p:=rfl;generalize ((1:Int):Rat)=one at*;generalize hx:one/p=x at*;simp only[frac,ints]at o1 c7;obtain⟨M',hM',H'⟩:∃M',M'=M.map (fun q=>if q.1=Abs.hp (nm.a r)then(q.1,4,(tab D.n fun k=>qc (if k<D.n/\k≠s then D.a r k/p else D.a r k)).set s (fc x))else q)/\
   HasD M' nm N {D with v:=fun i=>if i=r then vr else D.v i,a:=fun i=>if i=r then(fun k=>if k=s then 1/p else D.a r k/p)else D.a i} src:=by
  refine⟨_,rfl,(H.withA (jb7 H.blk) hr ((jag m3).trans (by rw[qset])) fun k hk=>jak hk).congr rfl rfl (fun _ _=>rfl) (fun _ _=>rfl) (fun _ _=>rfl) (fun _ _=>rfl) (fun i k _ hk=> ?_)⟩;dsimp only;by_cases hi:i=r
  ·rw[zh hi,zh hi];by_cases b9:k=s
   ·rw[zh b9,zh b9,c5]
   ·rw[zl b9,zl b9,zh ⟨hk,b9⟩]
  ·rw[zl hi,zl hi,zl hi]
 simp only[hd,go_sem];refine jah ?_;simp only[m2,m3,m1,a8,a7,jad,Int.toNat_natCast,F2,go_sem];refine ja3 o1 (by decide) ?_;simp only[m2,m3,m1,a8,a7,jad,Int.toNat_natCast,F2,go_sem];refine ja3 c7 (by decide) ?_;have e1:=hM'.symm;simp only[fc]at e1;have ga:(tab D.n fun k=>qc (if k<D.n/\k≠s then D.a r k/p else D.a r k))[s]? =some (fc p):=by
  rw[qget hs,iNo,hp]
 have F3:=fun(d:Nat) (h:d<100000)=>jec (L:=M') (d:=d) H'.blk h;have K3:=fun(d s:Nat) (es:List (List IV)) (h:d<100000)=>jp6 (L:=M') (d:=d) (s:=s) (es:=es) H'.blk h;have G3:=fun(d:Nat) (h:d<100000)=>jax (L:=M') (d:=d) H'.blk h;have n1:=H'.hd;dsimp only at n1;simp only[m2,m3,m1,ga,a8,a7,jad,Int.toNat_natCast,F2,e1,n1,jal a1,F3,K3,G3,go_sem];clear e1 ga F2 m1 m2 m3 o1 c7 F3 K3 G3 n1 ko;obtain⟨nr,hnr⟩:∃nr:Nat->Rat,nr=fun k=>if k=s then 1/p else D.a r k/p:=⟨_,rfl⟩
 rw[<-hnr]at H';have c4:∀k,(D.pivot r s).a r k=nr k:=fun k=>by rw[hnr,<-hp];simp[LP.Dic.pivot]
 have c6:∀k,k<D.n->FL 1000000000 (nr k):=fun k hk=>by rw[<-c4];exact(sp.a r k hr hk).mono (by omega)
 have e0:FL 1000000000 vr:=by
  have:=sp.v r hr;simp only[LP.Dic.pivot,qA]at this;rw[hp,e3]at this;exact this.mono (by omega)
 refine jar [0,1,2,6,84,85] (fun g:Nat×Abs.Rows=>⟨[(0,.im (.pr nm.d 6 0 0)),(1,.im (.int r)),(2,.im (.int s)),(6,.loc (Abs.hp nm.r) 5 r 0),(84,.im (.int D.m)),(85,.im (.int g.1))],g.2,[]⟩)
  (fun g=>g.1<=D.m/\HasD g.2 nm N {D with v:=fun k=>if k=r then vr else if k<g.1 then D.v k-D.a k s*vr else D.v k,a:=fun k=>if k=r then nr else if k<g.1 then tkF (D.a k) nr s else D.a k} src) (fun g=>D.m-g.1) (0,M') ?_ ?_ rfl
  ⟨zG _,H'.congr rfl rfl (fun i _=>by simp) (fun _ _=>rfl) (fun _ _=>rfl) (fun _ _=>rfl) (fun i j _ _=>by by_cases e:i=r<;>simp[e])⟩ ?_
 ·simp only[Int.natCast_zero,go_sem]
 ·exact ja6 (by decide) H'.blk ja5
 clear H' hM' M' H hx c5 x one M;intro⟨i,M⟩ ⟨hi,H⟩;dsimp only at hi H;have F2:=bB H.blk;have m0:=H.hd;have m2:=H.hr a1;have m1:=lget (v:=fun k=>if k=r then vr else if k<i then D.v k-D.a k s*vr else D.v k) (A:=nm.a) (n:=D.n) hr;rw[zh rfl]at m1;dsimp only at m0 m2;by_cases a6:i<D.m
 ·have hd:decide ((i:Int)<D.m)=true:=dTo;have b1:(i:Int)<D.m:=by omega
  have b5:(0:Int)<=i:=by omega
  have w1:=ja8 ((i:Int)+1);by_cases c3:i=r
  ·have b0:decide ((i:Int)=r)=true:=dTo;simp only[hd,b0,m0,m2,m1,b1,b5,jal a1,jad,Int.toNat_natCast,F2,go_sem];refine jac (i+1,M) ?_ ja5 rfl (by show D.m-(i+1)<D.m-i;omega) ⟨a6,H.congr rfl rfl (fun k _=> ?_) (fun _ _=>rfl) (fun _ _=>rfl) (fun _ _=>rfl) (fun k j _ _=> ?_)⟩
   ·simp only[w1,Int.natCast_add,go_sem]
   ·dsimp only;by_cases hk:k=r
    ·rw[zh hk,zh hk]
    ·have e:(k<i+1)↔(k<i):=by omega
     simp only[hk,e]
   ·dsimp only;by_cases hk:k=r
    ·rw[zh hk,zh hk]
    ·have e:(k<i+1)↔(k<i):=by omega
     simp only[hk,e]
  ·have b0:decide ((i:Int)=r)=false:=dFo;have mi:=lget (v:=fun k=>if k=r then vr else if k<i then D.v k-D.a k s*vr else D.v k) (A:=nm.a) (n:=D.n) a6;rw[zl c3,zl (q8 _)]at mi;have m3:Abs.look M (Abs.hp (nm.a i))=some (4,tab D.n fun k=>qc (D.a i k)):=(H.ha i a6).trans (by dsimp only;rw[zl c3,zl (q8 _)]);have ga:=qget (f:=D.a i) hs;have kz:=jpj (D.a i s);by_cases hz:D.a i s=0
   ·rw[zp hz]at kz;simp only[frac,ints]at kz;simp only[hd,b0,m0,m2,m1,mi,m3,ga,b1,b5,a8,a7,jal a1,jad,Int.toNat_natCast,F2,go_sem];refine ja0 kz ?_;simp only[hd,b0,m0,m2,m1,b1,b5,jal a1,jad,Int.toNat_natCast,F2,go_sem];refine jac (i+1,M) ?_ ja5 rfl (by show D.m-(i+1)<D.m-i;omega) ⟨a6,H.congr rfl rfl (fun k _=> ?_) (fun _ _=>rfl) (fun _ _=>rfl) (fun _ _=>rfl) (fun k j _ _=> ?_)⟩
    ·simp only[w1,Int.natCast_add,go_sem]
    ·dsimp only;by_cases hk:k=r
     ·rw[zh hk,zh hk]
     ·by_cases b3:k=i
      ·subst b3;rw[zl hk,zl hk,iPo,iNo,hz];grind
      ·have e:(k<i+1)↔(k<i):=by omega
       simp only[hk,e]
    ·dsimp only;by_cases hk:k=r
     ·rw[zh hk,zh hk]
     ·by_cases b3:k=i
      ·subst b3;rw[zl hk,zl hk,iPo,iNo,tkF,hz];split
       ·rename_i e;rw[e,hz];grind
       ·grind
      ·have e:(k<i+1)↔(k<i):=by omega
       simp only[hk,e]
   ·rw[ze hz]at kz;have kl:=x_less (sm.v i a6 |>.mono (by omega)) (sm.a i s a6 hs |>.mono (by omega)) (e0.mono (by omega));generalize hx:D.v i-D.a i s*vr=x at*;simp only[frac,ints]at kz kl;obtain⟨M',hM',H'⟩:∃M',M'=M.map (fun q=>if q.1=Abs.hp nm.r then(q.1,5,(tab D.m fun k=>lineC (if k=r then vr else if k<i then D.v k-D.a k s*vr else D.v k) (nm.a k) D.n).set i (fc x++[.ref (nm.a i) 48 4 D.n]))else q)/\
      HasD M' nm N {D with v:=fun k=>if k=r then vr else if k<i+1 then D.v k-D.a k s*vr else D.v k,a:=fun k=>if k=r then nr else if k<i then tkF (D.a k) nr s else D.a k} src:=by
     refine⟨_,rfl,(H.withV (v:=fun k=>if k=i then x else if k=r then vr else if k<i then D.v k-D.a k s*vr else D.v k) (jb7 H.blk) ((jag m2).trans (by rw[lset])) fun k hk=>jak hk).congr rfl rfl (fun k _=> ?_) (fun _ _=>rfl) (fun _ _=>rfl) (fun _ _=>rfl) (fun _ _ _ _=>rfl)⟩;dsimp only;by_cases hk:k=r
     ·rw[zh hk,zh hk];rw[iNo]
     ·by_cases b3:k=i
      ·subst b3;rw[zl hk,iPo,zh rfl,hx]
      ·have e:(k<i+1)↔(k<i):=by omega
       simp only[hk,b3,e,qp]
    simp only[hd,b0,m0,m2,m1,mi,m3,ga,b1,b5,a8,a7,jal a1,jad,Int.toNat_natCast,F2,go_sem];refine ja0 kz ?_;simp only[hd,b0,m0,m2,m1,mi,m3,ga,b1,b5,a8,a7,jal a1,jad,Int.toNat_natCast,F2,go_sem];refine jah ?_;simp only[hd,b0,m0,m2,m1,mi,m3,ga,b1,b5,a8,a7,jal a1,jad,Int.toNat_natCast,F2,go_sem];refine ja3 kl (by decide) ?_;have e1:=hM'.symm;simp only[fc,List.cons_append,List.nil_append]at e1;have F3:=fun(d:Nat) (h:d<100000)=>jec (L:=M') (d:=d) H'.blk h;have K3:=fun(d s:Nat) (es:List (List IV)) (h:d<100000)=>jp6 (L:=M') (d:=d) (s:=s) (es:=es) H'.blk h;have G3:=fun(d:Nat) (h:d<100000)=>jax (L:=M') (d:=d) H'.blk h;simp only[hd,b0,m0,m2,m1,mi,m3,ga,b1,b5,a8,a7,jal a1,jad,Int.toNat_natCast,F2,e1,F3,K3,G3,go_sem];have p2:=H'.hr a1;have p1:=lget (v:=fun k=>if k=r then vr else if k<i+1 then D.v k-D.a k s*vr else D.v k) (A:=nm.a) (n:=D.n) hr;have pi:=lget (v:=fun k=>if k=r then vr else if k<i+1 then D.v k-D.a k s*vr else D.v k) (A:=nm.a) (n:=D.n) a6;dsimp only at p2;have q1:Abs.look M' (Abs.hp (nm.a i))=some (4,tab D.n fun k=>qc (D.a i k)):=(H'.ha i a6).trans (by dsimp only;rw[zl c3,zl (q8 _)]);have q2:Abs.look M' (Abs.hp (nm.a r))=some (4,tab D.n fun k=>qc (nr k)):=(H'.ha r hr).trans (by dsimp only;rw[zh rfl])
    have kt:=x_take M' (nm.a i) (nm.a r) D.n s (D.a i) nr H'.blk q1 q2 (fun e=>c3 (H'.ap.aa i r a6 hr e)) hs hn (fun k hk=>(sm.a i k a6 hk).mono (by omega)) c6;refine jaf 9 ?_;simp only[p2,p1,pi,b7,b6,b1,b5,a8,a7,jal a1,jad,Int.toNat_natCast,F3,K3,G3,go_sem];refine jaj kt (by decide) rfl H'.blk ja5 ?_;rintro _ L2 ⟨rfl,t1,t2,t3⟩ hfr;refine⟨L2,jb9,?_⟩;have F4:=bF t1;have H2:=(H'.withA t1 a6 t2 t3).congr (E:={D with v:=fun k=>if k=r then vr else if k<i+1 then D.v k-D.a k s*vr else D.v k,a:=fun k=>if k=r then nr else if k<i+1 then tkF (D.a k) nr s else D.a k}) rfl rfl (fun _ _=>rfl) (fun _ _=>rfl) (fun _ _=>rfl) (fun _ _=>rfl) (fun k j _ _=>by
     dsimp only;by_cases hk:k=r
     ·rw[zh hk,zh hk,iNo]
     ·by_cases b3:k=i
      ·subst b3;rw[zl hk,iPo,zh rfl]
      ·have e:(k<i+1)↔(k<i):=by omega
       simp only[hk,b3,e,qp])
    simp only[F4,go_sem];refine jac (i+1,L2) ?_ ja5 rfl (by show D.m-(i+1)<D.m-i;omega) ⟨a6,H2⟩;simp only[w1,Int.natCast_add,go_sem]
 have hd:decide ((i:Int)<D.m)=false:=dFo;have b1:i=D.m:=by omega
 subst b1;have m3:Abs.look M (Abs.hp nm.g)=some (4,tab D.n fun j=>qc (D.g j)):=H.hg;have ga:=qget (f:=D.g) hs;have kz:=jpj (D.g s);have pv:∀i,i<D.m->(D.pivot r s).v i=(if i=r then vr else if i<D.m then D.v i-D.a i s*vr else D.v i):=fun i hi=>by
  rw[<-e3,<-hp];simp only[LP.Dic.pivot,hi,qA]
 have tk:∀(c:Nat->Rat) (j:Nat),LP.exch p (D.a r) s c j=tkF c nr s j:=fun c j=>by
  rw[tkF,LP.exch,hnr];by_cases e:j=s
  ·rw[zh e,zh e];dsimp only;rw[zh rfl]
  ·rw[zl e,zl e];dsimp only;rw[zl e]
 have pg:∀j,j<D.n->(D.pivot r s).g j=tkF D.g nr s j:=fun j hj=>by rw[<-tk,<-hp];rfl
 have pa:∀i j,i<D.m->j<D.n->(D.pivot r s).a i j=(if i=r then nr else if i<D.m then tkF (D.a i) nr s else D.a i) j:=fun i j hi hj=>by
  by_cases e:i=r
  ·subst e;rw[zh rfl];exact c4 j
  ·rw[zl e,zh hi,<-tk,<-hp];simp[LP.Dic.pivot,e]
 by_cases hz:D.g s=0
 ·rw[zp hz]at kz;simp only[frac,ints]at kz;have HX:HasD M nm N {D with v:=fun k=>if k=r then vr else if k<D.m then D.v k-D.a k s*vr else D.v k,a:=fun k=>if k=r then nr else if k<D.m then tkF (D.a k) nr s else D.a k,g:=tkF D.g nr s} src:=
   H.congr rfl rfl (fun _ _=>rfl) (fun j _=>by
    show tkF D.g nr s j=D.g j;rw[tkF,hz];split
    ·rename_i e;rw[e,hz];grind
    ·grind) (fun _ _=>rfl) (fun _ _=>rfl) (fun _ _ _ _=>rfl)
  simp only[hd,m0,m3,ga,a8,a7,jad,Int.toNat_natCast,F2,go_sem];refine ja0 kz ?_;simp only[hd,go_sem];have o1:=HX.ho a1;have f1:=HX.hf b2;have c0:=HX.hd;dsimp only at o1 f1 c0;have og:=oget (o:=D.own) hr;have fg:=oget (o:=D.free) hs;have F5:=bF HX.blk;have G5:=bN HX.blk;obtain⟨Y,hY,HY⟩:∃Y,Y=M.map (fun q=>if q.1=Abs.hp nm.o then(q.1,1,(tab D.m fun i=>oc (D.own i)).set r [.int (D.free s:Int)])else q)/\HasD Y nm N {D with v:=fun k=>if k=r then vr else if k<D.m then D.v k-D.a k s*vr else D.v k,a:=fun k=>if k=r then nr else if k<D.m then tkF (D.a k) nr s else D.a k,g:=tkF D.g nr s,own:=fun i=>if i=r then D.free s else D.own i} src:=
   ⟨_,rfl,HX.withO (jb7 HX.blk) ((jag o1).trans (by rw[oset])) fun k hk=>jak hk⟩
  have f2:=HY.hf b2;dsimp only at f2;have F6:=bF HY.blk;have G6:=bN HY.blk;obtain⟨Z,hZ,HZ⟩:∃Z,Z=Y.map (fun q=>if q.1=Abs.hp nm.f then(q.1,1,(tab D.n fun i=>oc (D.free i)).set s [.int (D.own r:Int)])else q)/\HasD Z nm N {D with v:=fun k=>if k=r then vr else if k<D.m then D.v k-D.a k s*vr else D.v k,a:=fun k=>if k=r then nr else if k<D.m then tkF (D.a k) nr s else D.a k,g:=tkF D.g nr s,own:=fun i=>if i=r then D.free s else D.own i,free:=fun i=>if i=s then D.own r else D.free i} src:=
   ⟨_,rfl,HY.withF (jb7 HY.blk) ((jag f2).trans (by rw[oset])) fun k hk=>jak hk⟩
  have e1:=hY.symm;have e2:=hZ.symm;refine jah ?_;simp only[c0,o1,f1,og,fg,f2,b7,b6,a8,a7,jal a1,jal b2,jad,Int.toNat_natCast,F5,G5,e1,F6,G6,e2,go_sem];refine jb1 Z HZ.blk ja5 ?_;simp only[go_sem];exact HZ.congr rfl rfl (fun i hi=>by rw[pv i hi]) (fun j hj=>by rw[pg j hj]) (fun i hi=>rfl) (fun j hj=>rfl) (fun i j hi hj=>by rw[pa i j hi hj])
 ·rw[ze hz]at kz;simp only[frac,ints]at kz;have m4:Abs.look M (Abs.hp (nm.a r))=some (4,tab D.n fun k=>qc (nr k)):=(H.ha r hr).trans (by dsimp only;rw[zh rfl]);have kt:=x_take M nm.g (nm.a r) D.n s D.g nr H.blk m3 m4 (H.ap.ga r hr) hs hn (fun k hk=>(sm.g k hk).mono (by omega)) c6;simp only[hd,m0,m3,ga,a8,a7,jad,Int.toNat_natCast,F2,go_sem];refine ja0 kz ?_;simp only[hd,go_sem];refine jaf 9 ?_;simp only[m0,m2,m1,b7,b6,a8,a7,jal a1,jad,Int.toNat_natCast,F2,go_sem];refine jaj kt (by decide) rfl H.blk ja5 ?_;rintro _ X ⟨rfl,t1,t2,t3⟩ hfr;refine⟨X,jb9,?_⟩;have HX:=H.withG t1 t2 t3;have F4:=bF t1;simp only[F4,go_sem];have o1:=HX.ho a1;have f1:=HX.hf b2;have c0:=HX.hd;dsimp only at o1 f1 c0;have og:=oget (o:=D.own) hr;have fg:=oget (o:=D.free) hs;have F5:=bF HX.blk;have G5:=bN HX.blk;obtain⟨Y,hY,HY⟩:∃Y,Y=X.map (fun q=>if q.1=Abs.hp nm.o then(q.1,1,(tab D.m fun i=>oc (D.own i)).set r [.int (D.free s:Int)])else q)/\HasD Y nm N {D with v:=fun k=>if k=r then vr else if k<D.m then D.v k-D.a k s*vr else D.v k,a:=fun k=>if k=r then nr else if k<D.m then tkF (D.a k) nr s else D.a k,g:=tkF D.g nr s,own:=fun i=>if i=r then D.free s else D.own i} src:=
   ⟨_,rfl,HX.withO (jb7 HX.blk) ((jag o1).trans (by rw[oset])) fun k hk=>jak hk⟩
  have f2:=HY.hf b2;dsimp only at f2;have F6:=bF HY.blk;have G6:=bN HY.blk;obtain⟨Z,hZ,HZ⟩:∃Z,Z=Y.map (fun q=>if q.1=Abs.hp nm.f then(q.1,1,(tab D.n fun i=>oc (D.free i)).set s [.int (D.own r:Int)])else q)/\HasD Z nm N {D with v:=fun k=>if k=r then vr else if k<D.m then D.v k-D.a k s*vr else D.v k,a:=fun k=>if k=r then nr else if k<D.m then tkF (D.a k) nr s else D.a k,g:=tkF D.g nr s,own:=fun i=>if i=r then D.free s else D.own i,free:=fun i=>if i=s then D.own r else D.free i} src:=
   ⟨_,rfl,HY.withF (jb7 HY.blk) ((jag f2).trans (by rw[oset])) fun k hk=>jak hk⟩
  have e1:=hY.symm;have e2:=hZ.symm;refine jah ?_;simp only[c0,o1,f1,og,fg,f2,b7,b6,a8,a7,jal a1,jal b2,jad,Int.toNat_natCast,F5,G5,e1,F6,G6,e2,go_sem];refine jb1 Z HZ.blk ja5 ?_;simp only[go_sem];exact HZ.congr rfl rfl (fun i hi=>by rw[pv i hi]) (fun j hj=>by rw[pg j hj]) (fun i hi=>rfl) (fun j hj=>rfl) (fun i j hi hj=>by rw[pa i j hi hj])
