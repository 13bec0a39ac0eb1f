/- A part of the proof. No further condition. -/
import Derived.Test.YtjcjcpebocbonaaGreatKZ21
set_option linter.all false
set_option maxRecDepth 10000000
set_option maxHeartbeats 16000000
namespace Go.Proofs.YtjcjcpebocbonaaGreat
section
set_option maxRecDepth 1000000
open Go.Abs
attribute [local go_sem] ints ic big frac fc
def tkF(a row:Nat->Rat)(s j:Nat):Rat:=if j=s then 0-a s*row s else a j-a s*row j
theorem x_take(L:Abs.Rows)(A B n s:Nat)(a row:Nat->Rat)(hL:blks L)(hA:Abs.look L (hp A)=some (4,tab n fun j=>qc (a j)))(hB:Abs.look L (hp B)=some (4,tab n fun j=>qc (row j)))(b7:A≠B)(hs:s<n)(hn:n<=100000)
  (ka:∀j,j<n->FL 1000000000 (a j)) (kr:∀j,j<n->FL 1000000000 (row j)):
  CtrH G.P 193 [.im (.ref A 48 4 n),.im (.ref B 48 4 n),.im (.int s)] L
   (fun r L'=>r= .im (.tup [])/\blks L'/\Abs.look L' (hp A)=some (4,tab n fun j=>qc (tkF a row s j))/\∀k,k≠hp A->Abs.look L' k=Abs.look L k):=by
 have b3:(s:Int)<n:=by omega
 have h0:(0:Int)<=s:=by omega
 have b6:=qget (f:=a) hs;have F1:=bF hL;have K1:=bK hL;refine jap [] [] [] Tryz.func193 ?_;simp only[hA,b3,h0,b6,Int.toNat_natCast,jad,F1,K1,go_sem];refine jar [0,1,2,6,13,14] (fun g:Nat×Abs.Rows=>⟨[(0,.im (.ref A 48 4 n)),(1,.im (.ref B 48 4 n)),(2,.im (.int s)),(6,.loc 6 4 0 0),(13,.im (.int n)),(14,.im (.int g.1))],(6,4,[fc (a s)])::g.2,[]⟩)
  (fun g=>g.1<=n/\blks g.2/\Abs.look g.2 (hp A)=some (4,tab n fun j=>qc (if j<g.1/\j≠s then a j-a s*row j else a j))/\∀k,k≠hp A->Abs.look g.2 k=Abs.look L k) (fun g=>n-g.1) (0,L) ?_ ?_ rfl ⟨zG _,hL,by simpa using hA,fun _ _=>rfl⟩ ?_
 ·simp only[Int.natCast_zero,go_sem]
 ·exact ja5
 ·intro⟨j,M⟩ ⟨hj,hM,a1,b0⟩;dsimp only at hj hM a1 b0;have F2:=bB hM;have b2:Abs.look M (hp B)=some (4,tab n fun j=>qc (row j)):=(b0 _ (fun e=>b7 (hp_inj.1 e).symm)).trans hB;by_cases a6:j<n
  ·have hd:decide ((j:Int)<n)=true:=dTo;have b1:(j:Int)<n:=by omega
   have h1:=ja8 ((j:Int)+1);have a8:(tab n fun k=>qc (if k<j/\k≠s then a k-a s*row k else a k))[j]? =some (fc (a j)):=by
    rw[qget a6,iNo]
   have a7:=qget (f:=row) a6;by_cases b5:j=s
   ·have b4:decide ((j:Int)=s)=true:=dTo;simp only[hd,b4,Int.toNat_natCast,F2,go_sem];refine jac (j+1,M) ?_ ?_ rfl (by show n-(j+1)<n-j;omega) ⟨a6,hM,a1.trans ?_,b0⟩
    ·simp only[h1,Int.natCast_add,go_sem]
    ·exact ja5
    ·congr 2;refine jan fun k _=> ?_;have e:(k<j/\k≠s)↔(k<(j+1,M).1/\k≠s):=by dsimp only;omega
     simp only[e]
   ·have b4:decide ((j:Int)=s)=false:=dFo;have kl:=x_less (ka j a6 |>.mono (by omega)) (ka s hs |>.mono (by omega)) (kr j a6 |>.mono (by omega));generalize hx:a j-a s*row j=x at*;simp only[frac,ints]at kl;simp only[hd,b4,Int.toNat_natCast,F2,go_sem];refine jah ?_;simp only[a1,b2,a8,a7,b1,jad,Int.toNat_natCast,F2,go_sem];refine ja3 kl (by decide) ?_;simp only[a1,b2,a8,a7,b1,jad,Int.toNat_natCast,F2,go_sem];refine jac (j+1,M.map (fun p=>if p.1=hp A then(p.1,4,(tab n fun k=>qc (if k<j/\k≠s then a k-a s*row k else a k)).set j (fc x))else p)) ?_ ?_ rfl (by show n-(j+1)<n-j;omega)
     ⟨a6,jb7 hM,(jag a1).trans ?_,fun k hk=>(jak hk).trans (b0 k hk)⟩
    ·simp only[h1,Int.natCast_add,go_sem]
    ·exact ja5
    ·rw[qset];congr 2;refine jan fun k _=>zS qc ?_;by_cases e:k=j
     ·subst e;rw[zh rfl,zh ⟨by show k<k+1;omega,b5⟩,hx]
     ·have e':(k<j/\k≠s)↔(k<j+1/\k≠s):=by omega
      rw[zl e];simp only[e']
  ·have hd:decide ((j:Int)<n)=false:=dFo;have b1:j=n:=by omega
   subst b1;have o1:=jcj 0 (by omega);have a8:(tab j fun k=>qc (if k<j/\k≠s then a k-a s*row k else a k))[s]? =some (fc (a s)):=by
    rw[qget hs,iNo]
   have a7:=qget (f:=row) hs;have kl:=x_less (a:=((0:Int):Rat)) ((jbn (by omega)).mono (by omega)) (ka s hs |>.mono (by omega)) (kr s hs |>.mono (by omega));generalize hz:((0:Int):Rat)=z at*;generalize hx:z-a s*row s=x at*;simp only[frac,ints]at kl o1;simp only[hd,go_sem];refine jah ?_;simp only[F2,go_sem];refine ja3 o1 (by decide) ?_;simp only[a1,b2,a8,a7,b3,h0,jad,Int.toNat_natCast,F2,go_sem];refine ja3 kl (by decide) ?_;simp only[a1,b2,a8,a7,b3,h0,jad,Int.toNat_natCast,F2,go_sem];obtain⟨M',hM',hb,hl,ho⟩:∃M',M'=M.map (fun p=>if p.1=hp A then(p.1,4,(tab j fun k=>qc (if k<j/\k≠s then a k-a s*row k else a k)).set s (fc x))else p)/\blks M'/\
     Abs.look M' (hp A)=some (4,tab j fun j=>qc (tkF a row s j))/\∀k,k≠hp A->Abs.look M' k=Abs.look L k:=by
    refine⟨_,rfl,jb7 hM,(jag a1).trans ?_,fun k hk=>(jak hk).trans (b0 k hk)⟩;rw[qset];congr 2;refine jan fun k hk=>zS qc ?_;unfold tkF;by_cases e:k=s
    ·rw[zh e,zh e,<-hx,<-hz];rfl
    ·rw[zl e,zl e,zh ⟨hk,e⟩]
   refine jb1 M' hb (ja6 (by decide) hb (SubR.of_eq hM')) ?_;simp only[go_sem];exact⟨hb,hl,ho⟩
end
section
set_option maxRecDepth 1000000
open Go.Abs
attribute [local go_sem] ints ic big frac fc
def x4:List IV:=[.int 0,.emp,.int 0,.emp]
theorem jjg(n:Nat)(hn:n<=100000):
  CtrH G.P 171 [.im (.int n)] []
   (fun r L'=>∃b,r= .im (.ref b 48 4 n)/\blks L'/\Abs.look L' (hp b)=some (4,tab n fun _=>qc 0)/\∀k,k≠hp b->Abs.look L' k=none):=by
 have o1:=jcj 0 (by omega);rw[show((0:Int):Rat)=0 from rfl]at o1;simp only[frac,ints]at o1;refine jap [6] [] [.tmp 2] Tryz.func171 ?_;simp only[go_sem];refine⟨by omega,jgu (fun b hb=> ?_)⟩;clear hb;simp only[zQ,go_sem];refine jar [3,8,9] (fun g:Nat×Abs.Rows=>⟨[(3,.im (.ref b 48 4 n)),(8,.im (.int n)),(9,.im (.int g.1))],g.2,[]⟩)
  (fun g=>g.1<=n/\blks g.2/\Abs.look g.2 (hp b)=some (4,tab n fun k=>if k<g.1 then qc 0 else x4)/\∀k,k≠hp b->Abs.look g.2 k=none) (fun g=>n-g.1) (0,[(hp b,4,tab n fun _=>x4)]) ?_ ?_ rfl
  ⟨zG _,jao jb5,by rw[ja2];simp,fun k hk=>by rw[ja1 _ _ hk];rfl⟩ ?_
 ·simp only[Int.natCast_zero,go_sem]
 ·exact SubR.of_eq (by rw[<-tab_replicate];rfl)
 ·intro⟨j,M⟩ ⟨hj,hM,a1,a7⟩;dsimp only at hj hM a1 a7;have F2:=bB hM;by_cases a8:j<n
  ·have hd:decide ((j:Int)<n)=true:=dTo;have a6:(j:Int)<n:=by omega
   have h1:=ja8 ((j:Int)+1);have b0:(tab n fun k=>if k<j then qc 0 else x4)[j]? =some [.int 0,.emp,.int 0,.emp]:=by rw[jgg a8,iNo];rfl
   simp only[hd,F2,go_sem];refine ja0 o1 ?_;simp only[a1,b0,a6,jad,Int.toNat_natCast,F2,go_sem];refine jac (j+1,M.map (fun p=>if p.1=hp b then(p.1,4,(tab n fun k=>if k<j then qc 0 else x4).set j (fc 0))else p)) ?_ ?_ rfl (by show n-(j+1)<n-j;omega)
    ⟨a8,jb7 hM,(jag a1).trans ?_,fun k hk=>(jak hk).trans (a7 k hk)⟩
   ·simp only[h1,Int.natCast_add,go_sem]
   ·exact ja5
   ·rw[jo2];congr 2;refine jan fun k _=> ?_;by_cases e:k=j
    ·subst e;rw[zh rfl,zh (by show k<k+1;omega)];rfl
    ·have e':(k<j)↔(k<j+1):=by omega
     rw[zl e];simp only[e']
  ·have hd:decide ((j:Int)<n)=false:=dFo;have a6:j=n:=by omega
   subst a6;have hl:Abs.look M (hp b)=some (4,tab j fun _=>qc 0):=a1.trans (by congr 2;exact jan fun k hk=>zh hk);simp only[hd,go_sem];refine jb1 M hM ja5 ?_;simp only[go_sem];exact⟨b,rfl,hM,hl,a7⟩
end
section
set_option maxRecDepth 1000000
open Go.Abs
open Go.LP (Dic)
structure DN where
 (d r g o f s:Nat)
 a:Nat->Nat
def sl0(b e s k:Nat):IV:=if k=0 then .emp else .ref b e s k
def oc(k:Nat):List IV:=[.int (k:Int)]
def lineC(v:Rat)(b n:Nat):List IV:=fc v++[.ref b 48 4 n]
def srcC(s:Int×Bool):List IV:=[.int s.1,.bool s.2]
theorem jal{b e s k:Nat}(h:k≠0):sl0 b e s k= .ref b e s k:=zl h
theorem jbc{b e s:Nat}:sl0 b e s 0= .emp:=rfl
structure HasD(L:Abs.Rows)(nm:DN)(N:Nat)(D:Dic)(src:Nat->Int×Bool):Prop where
 blk:blks L
 nd:(nm.d::nm.r::nm.g::nm.o::nm.f::nm.s::tab D.m nm.a).Nodup
 hd:Abs.look L (hp nm.d)=some (6,[[.int N,sl0 nm.r 241 5 D.m,.ref nm.g 48 4 D.n,sl0 nm.o 3 1 D.m,sl0 nm.f 3 1 D.n,sl0 nm.s 254 2 D.m]])
 hg:Abs.look L (hp nm.g)=some (4,tab D.n fun j=>qc (D.g j))
 hr:D.m≠0->Abs.look L (hp nm.r)=some (5,tab D.m fun i=>lineC (D.v i) (nm.a i) D.n)
 ho:D.m≠0->Abs.look L (hp nm.o)=some (1,tab D.m fun i=>oc (D.own i))
 hf:D.n≠0->Abs.look L (hp nm.f)=some (1,tab D.n fun j=>oc (D.free j))
 hs:D.m≠0->Abs.look L (hp nm.s)=some (2,tab D.m fun i=>srcC (src i))
 ha:∀i,i<D.m->Abs.look L (hp (nm.a i))=some (4,tab D.n fun j=>qc (D.a i j))
section
variable{L L':Abs.Rows}{nm:DN}{N:Nat}{D:Dic}{src:Nat->Int×Bool}
structure DN.Ap(nm:DN)(m:Nat):Prop where
 dr:nm.d≠nm.r
 dg:nm.d≠nm.g
 d_o:nm.d≠nm.o
 df:nm.d≠nm.f
 ds:nm.d≠nm.s
 rg:nm.r≠nm.g
 ro:nm.r≠nm.o
 rf:nm.r≠nm.f
 rs:nm.r≠nm.s
 go:nm.g≠nm.o
 gf:nm.g≠nm.f
 gs:nm.g≠nm.s
 of':nm.o≠nm.f
 os:nm.o≠nm.s
 fs:nm.f≠nm.s
 da:∀i,i<m->nm.d≠nm.a i
 ra:∀i,i<m->nm.r≠nm.a i
 ga:∀i,i<m->nm.g≠nm.a i
 oa:∀i,i<m->nm.o≠nm.a i
 fa:∀i,i<m->nm.f≠nm.a i
 sa:∀i,i<m->nm.s≠nm.a i
 aa:∀i j,i<m->j<m->nm.a i=nm.a j->i=j
theorem ap_of{m:Nat}(h:(nm.d::nm.r::nm.g::nm.o::nm.f::nm.s::tab m nm.a).Nodup):nm.Ap m:=by
 simp only[qJ,zL,wb]at h;obtain⟨⟨h1,h2,h3,h4,h5,h6⟩,⟨g1,g2,g3,g4,g5⟩,⟨k1,k2,k3,k4⟩,⟨l1,l2,l3⟩,⟨m1,m2⟩,n1,o1⟩:=h;have no:∀{x:Nat},x∉tab m nm.a->∀i,i<m->x≠nm.a i:=fun hx i hi e=>hx (e▸mem_tab hi);exact⟨h1,h2,h3,h4,h5,g1,g2,g3,g4,k1,k2,k3,l1,l2,m1,no h6,no g5,no k4,no l3,no m2,no n1,fun i j hi hj e=>tab_nodup o1 hi hj e⟩
theorem HasD.ap(h:HasD L nm N D src):nm.Ap D.m:=ap_of h.nd
theorem hpne{a b:Nat}(h:a≠b):hp a≠hp b:=fun e=>h (hp_inj.1 e)
theorem HasD.withA(h:HasD L nm N D src)(hb:blks L'){i:Nat}(hi:i<D.m){f:Nat->Rat}(hl:Abs.look L' (hp (nm.a i))=some (4,tab D.n fun j=>qc (f j)))(ho:∀k,k≠hp (nm.a i)->Abs.look L' k=Abs.look L k):
  HasD L' nm N {D with a:=fun i'=>if i'=i then f else D.a i'} src:=by
 have ap:=h.ap;refine⟨hb,h.nd,?_,?_,fun hm=> ?_,fun hm=> ?_,fun hm=> ?_,fun hm=> ?_,fun i' a1=> ?_⟩
 ·rw[ho _ (hpne (ap.da i hi))];exact h.hd
 ·rw[ho _ (hpne (ap.ga i hi))];exact h.hg
 ·rw[ho _ (hpne (ap.ra i hi))];exact h.hr hm
 ·rw[ho _ (hpne (ap.oa i hi))];exact h.ho hm
 ·rw[ho _ (hpne (ap.fa i hi))];exact h.hf hm
 ·rw[ho _ (hpne (ap.sa i hi))];exact h.hs hm
 ·by_cases e:i'=i
  ·subst e;dsimp only;rw[zh rfl];exact hl
  ·dsimp only;rw[zl e,ho _ (hpne fun e'=>e (ap.aa i' i a1 hi e'))];exact h.ha i' a1
theorem HasD.withV(h:HasD L nm N D src)(hb:blks L'){v:Nat->Rat}(hl:Abs.look L' (hp nm.r)=some (5,tab D.m fun i=>lineC (v i) (nm.a i) D.n))(ho:∀k,k≠hp nm.r->Abs.look L' k=Abs.look L k):
  HasD L' nm N {D with v:=v} src:=by
 have ap:=h.ap;refine⟨hb,h.nd,?_,?_,fun hm=> ?_,fun hm=> ?_,fun hm=> ?_,fun hm=> ?_,fun i' a1=> ?_⟩
 ·rw[ho _ (hpne ap.dr)];exact h.hd
 ·rw[ho _ (hpne ap.rg.symm)];exact h.hg
 ·exact hl
 ·rw[ho _ (hpne ap.ro.symm)];exact h.ho hm
 ·rw[ho _ (hpne ap.rf.symm)];exact h.hf hm
 ·rw[ho _ (hpne ap.rs.symm)];exact h.hs hm
 ·rw[ho _ (hpne (ap.ra i' a1).symm)];exact h.ha i' a1
theorem HasD.withG(h:HasD L nm N D src)(hb:blks L'){g:Nat->Rat}(hl:Abs.look L' (hp nm.g)=some (4,tab D.n fun j=>qc (g j)))(ho:∀k,k≠hp nm.g->Abs.look L' k=Abs.look L k):
  HasD L' nm N {D with g:=g} src:=by
 have ap:=h.ap;refine⟨hb,h.nd,?_,?_,fun hm=> ?_,fun hm=> ?_,fun hm=> ?_,fun hm=> ?_,fun i' a1=> ?_⟩
 ·rw[ho _ (hpne ap.dg)];exact h.hd
 ·exact hl
 ·rw[ho _ (hpne ap.rg)];exact h.hr hm
 ·rw[ho _ (hpne ap.go.symm)];exact h.ho hm
 ·rw[ho _ (hpne ap.gf.symm)];exact h.hf hm
 ·rw[ho _ (hpne ap.gs.symm)];exact h.hs hm
 ·rw[ho _ (hpne (ap.ga i' a1).symm)];exact h.ha i' a1
theorem HasD.withO(h:HasD L nm N D src)(hb:blks L'){o:Nat->Nat}(hl:Abs.look L' (hp nm.o)=some (1,tab D.m fun i=>oc (o i)))(ho:∀k,k≠hp nm.o->Abs.look L' k=Abs.look L k):
  HasD L' nm N {D with own:=o} src:=by
 have ap:=h.ap;refine⟨hb,h.nd,?_,?_,fun hm=> ?_,fun hm=> ?_,fun hm=> ?_,fun hm=> ?_,fun i' a1=> ?_⟩
 ·rw[ho _ (hpne ap.d_o)];exact h.hd
 ·rw[ho _ (hpne ap.go)];exact h.hg
 ·rw[ho _ (hpne ap.ro)];exact h.hr hm
 ·exact hl
 ·rw[ho _ (hpne ap.of'.symm)];exact h.hf hm
 ·rw[ho _ (hpne ap.os.symm)];exact h.hs hm
 ·rw[ho _ (hpne (ap.oa i' a1).symm)];exact h.ha i' a1
theorem HasD.withF(h:HasD L nm N D src)(hb:blks L'){f:Nat->Nat}(hl:Abs.look L' (hp nm.f)=some (1,tab D.n fun i=>oc (f i)))(ho:∀k,k≠hp nm.f->Abs.look L' k=Abs.look L k):
  HasD L' nm N {D with free:=f} src:=by
 have ap:=h.ap;refine⟨hb,h.nd,?_,?_,fun hm=> ?_,fun hm=> ?_,fun hm=> ?_,fun hm=> ?_,fun i' a1=> ?_⟩
 ·rw[ho _ (hpne ap.df)];exact h.hd
 ·rw[ho _ (hpne ap.gf)];exact h.hg
 ·rw[ho _ (hpne ap.rf)];exact h.hr hm
 ·rw[ho _ (hpne ap.of')];exact h.ho hm
 ·exact hl
 ·rw[ho _ (hpne ap.fs.symm)];exact h.hs hm
 ·rw[ho _ (hpne (ap.fa i' a1).symm)];exact h.ha i' a1
theorem HasD.sub(h:HasD L nm N D src)(hb:blks L')(hs:SubR L L'):HasD L' nm N D src:=
 ⟨hb,h.nd,hs _ _ h.hd,hs _ _ h.hg,fun hm=>hs _ _ (h.hr hm),fun hm=>hs _ _ (h.ho hm),fun hm=>hs _ _ (h.hf hm),fun hm=>hs _ _ (h.hs hm),fun i hi=>hs _ _ (h.ha i hi)⟩
theorem lget{i m:Nat}{v:Nat->Rat}{A:Nat->Nat}{n:Nat}(h:i<m):(tab m fun i=>lineC (v i) (A i) n)[i]? =some [.int (v i).num.sign,.sl ((dig (v i).num.natAbs).map ic),.int ((v i).den:Int).sign,.sl ((dig ((v i).den:Int).natAbs).map ic),.ref (A i) 48 4 n]:=jgg h
theorem oget{i m:Nat}{o:Nat->Nat}(h:i<m):(tab m fun i=>oc (o i))[i]? =some [.int (o i:Int)]:=jgg h
theorem sget{i m:Nat}{o:Nat->Int×Bool}(h:i<m):(tab m fun i=>srcC (o i))[i]? =some [.int (o i).1,.bool (o i).2]:=jgg h
end
end
section
set_option maxRecDepth 1000000
open Go.Abs
open Go.LP (Dic)
attribute [local go_sem] ints ic big frac fc
def jbv(vars:Nat->Nat)(ch:Nat->Bool):Nat->Int
 | 0=> -1
 | k+1=>if(ch k&&(decide (jbv vars ch k<0) || decide (vars k<vars (jbv vars ch k).toNat)))=true then(k:Int)else jbv vars ch k
theorem jdq(vars:Nat->Nat)(ch:Nat->Bool):∀k,-1<=jbv vars ch k/\jbv vars ch k<k
 | 0=>by simp[jbv]
 | k+1=>by
  have:=jdq vars ch k;rw[jbv];split<;>omega
theorem jd4{vars:Nat->Nat}{ch:Nat->Bool}:∀{k},jbv vars ch k<0->∀i,i<k->ch i=false
 | k+1,h,i,hi=>by
  rw[jbv]at h;split at h
  ·omega
  ·rename_i hc;rcases vR (vZ hi)with h1 | h1
   ·exact jd4 h i h1
   ·subst h1;rw[zp h,vt,Bool.and_true]at hc
    simpa using hc
theorem jdk{vars:Nat->Nat}{ch:Nat->Bool}:∀{k},0<=jbv vars ch k->ch (jbv vars ch k).toNat=true/\∀i,i<k->ch i=true->vars (jbv vars ch k).toNat<=vars i
 | 0,h=>by simp[jbv]at h
 | k+1,h=>by
  have hl:=jdq vars ch k;rw[jbv]at h⊢;split at h
  ·rename_i hc;rw[zh hc,Int.toNat_natCast];rw[zn,qt,zO,zO]at hc;refine⟨hc.1,fun i hi a1=> ?_⟩;rcases vR (vZ hi)with h1 | h1
   ·rcases hc.2 with h2 | h2
    ·rw[jd4 h2 i h1]at a1;cases a1
    ·by_cases h0:0<=jbv vars ch k
     ·have:=(jdk h0).2 i h1 a1;omega
     ·rw[jd4 (vars:=vars) (ch:=ch) (k:=k) (by omega) i h1]at a1;cases a1
   ·subst h1;exact zu _
  ·rename_i hc;rw[zl hc];obtain⟨h1,h2⟩:=jdk h;refine⟨h1,fun i hi a1=> ?_⟩;rcases vR (vZ hi)with h3 | h3
   ·exact h2 i h3 a1
   ·subst h3;rw[a1,qu,qt,zO,zO]at hc;omega
theorem caps_toH(caps:List IV):(caps.map AV.im).map AV.toH=caps.map AV.im:=by simp[AV.toH,Function.comp_def]
theorem jge(L:Abs.Rows)(O m:Nat)(vars:Nat->Nat)(ch:Nat->Bool)(g:Nat)(caps:List IV)(hg:3<=g/\g<G.fns)(hL:blks L)(hO:m≠0->Abs.look L (hp O)=some (1,tab m fun i=>oc (vars i)))(hm:m<=100000)(hv:∀i,i<m->vars i<=1000000)
  (hc:∀i,i<m->CtrH G.P g (.im (.int (i:Int))::caps.map .im) L (fun r L'=>r= .im (.bool (ch i))/\L'=L)):
  CtrH G.P 173 [.im (sl0 O 3 1 m),.im (.clo g caps)] L (fun r L'=>r= .im (.int (jbv vars ch m))/\L'=L):=by
 have F1:=bB hL;rcases yM m with h0 | h0
 ·subst h0;rw[jbc];refine jap [] [] [.tmp 4] Tryz.func173 ?_;simp only[F1,go_sem];refine jar [5,10,9] (fun g:Unit=>⟨[(5,.im (.int (-1))),(10,.im (.int 0)),(9,.im (.int 0))],L,[]⟩) (fun _=>True) (fun _=>0) () ?_ ?_ rfl trivial ?_
  ·simp only[go_sem]
  ·exact ja5
  ·intro _ _;simp only[go_sem];refine jb1 L hL ja5 ?_;simp only[jbv,go_sem]
 ·rw[jal (by omega)];have hO:=hO (by omega);refine jap [] [] [.tmp 4] Tryz.func173 ?_;simp only[F1,go_sem];refine jar [0,1,5,8,9,10] (fun k:Nat=>⟨[(0,.im (.ref O 3 1 m)),(1,.im (.clo g caps)),(5,.im (.int (jbv vars ch k))),(8,.im (.ref O 3 1 m)),(9,.im (.int m)),(10,.im (.int k))],L,[]⟩)
   (fun k=>k<=m) (fun k=>m-k) 0 ?_ ?_ rfl (zG _) ?_
  ·simp only[Int.natCast_zero,jbv,go_sem]
  ·exact ja5
  ·intro k hk;by_cases a6:k<m
   ·have hd:decide ((k:Int)<m)=true:=dTo;have a7:(k:Int)<m:=by omega
    have h1:=ja8 ((k:Int)+1);have b9:=jdq vars ch k;have b0:=oget (o:=vars) a6;have b7:=hc k a6;have a1:jbv vars ch (k+1)=if(ch k&&(decide (jbv vars ch k<0) || decide (vars k<vars (jbv vars ch k).toNat)))=true then(k:Int)else jbv vars ch k:=rfl
    generalize b8:jbv vars ch k=r0 at*;have b1:0<=r0->(tab m fun i=>oc (vars i))[r0.toNat]? =some [.int (vars r0.toNat:Int)]:=fun h=>oget (by omega);have hv1:=hv k a6;generalize ch k=c at*;have hw: -9223372036854775808<=(k:Int)+1:=by omega
    simp only[hd,hO,b0,a7,jad,Int.toNat_natCast,F1,go_sem];refine jcw b7 hg (by rw[qv,caps_toH];rfl) hL ja5 ?_;rintro r L' ⟨rfl,rfl⟩ hfr;refine⟨L',jb9,?_⟩;cases c
    ·rw[qZ,zl yx]at a1;simp only[hd,hO,b0,a7,jad,Int.toNat_natCast,F1,go_sem];refine jac (k+1) ?_ ja5 rfl (by omega) a6;simp only[h1,a1,Int.natCast_add,go_sem]
    ·rw[qu]at a1;by_cases b2:r0<0
     ·have a8:decide (r0<0)=true:=zp b2;rw[a8,vt,zh rfl]at a1;simp only[hd,a8,hO,b0,a7,jad,Int.toNat_natCast,F1,go_sem];refine jac (k+1) ?_ ja5 rfl (by omega) a6;simp only[h1,a1,Int.natCast_add,go_sem]
     ·have a8:decide (r0<0)=false:=ze b2;have b1:=b1 (by omega);have b6:0<=r0:=by omega
      have b5:r0<m:=by omega
      rw[a8,yn]at a1;by_cases b3:vars k<vars r0.toNat
      ·have b4:decide ((vars k:Int)<vars r0.toNat)=true:=dTo;rw[zp b3,zh rfl]at a1;simp only[hd,a8,b4,hO,b0,b1,b6,b5,a7,jad,Int.toNat_natCast,F1,go_sem];refine jac (k+1) ?_ ja5 rfl (by omega) a6;simp only[h1,a1,Int.natCast_add,go_sem]
      ·have b4:decide ((vars k:Int)<vars r0.toNat)=false:=dFo;rw[ze b3,zl yx]at a1;simp only[hd,a8,b4,hO,b0,b1,b6,b5,a7,jad,Int.toNat_natCast,F1,go_sem];refine jac (k+1) ?_ ja5 rfl (by omega) a6;simp only[h1,a1,Int.natCast_add,go_sem]
   ·have hd:decide ((k:Int)<m)=false:=dFo;have a7:k=m:=by omega
    subst a7;simp only[hd,go_sem];refine jb1 L hL ja5 ?_;simp only[go_sem]
end
section
set_option maxRecDepth 1000000
open Go.Abs
open Go.LP (Dic)
attribute [local go_sem] ints ic big frac fc
section
variable{L:Abs.Rows}{nm:DN}{N:Nat}{D:Dic}{src:Nat->Int×Bool}
theorem x_c1(h:HasD L nm N D src){i:Nat}(hi:i<D.m):
  CtrH G.P 174 [.im (.int i),.im (.ip [.pr nm.d 6 0 0] 0)] L (fun r L'=>r= .im (.bool (decide (D.v i<0)))/\L'=L):=by
 have hb:=h.blk;have F1:=bF hb;have G1:=bN hb;have h1:=h.hd;have h2:=h.hr (by omega);have a1:D.m≠0:=by omega
 have a6:(i:Int)<D.m:=by omega
 have hg:=lget (v:=D.v) (A:=nm.a) (n:=D.n) hi;have e:decide (D.v i<0)=decide ((D.v i).num.sign<0):=yC.2 sign_neg.symm;rw[e];refine jap [] [] [.tmp 3] Tryz.func174 ?_;simp only[h1,h2,hg,a6,jal a1,jad,Int.toNat_natCast,F1,G1,go_sem];refine jb1 L hb ja5 ?_;simp only[go_sem]
theorem x_c2(h:HasD L nm N D src){j:Nat}(hj:j<D.n):
  CtrH G.P 175 [.im (.int j),.im (.ip [.pr nm.d 6 0 0] 0)] L (fun r L'=>r= .im (.bool (decide (0<D.g j)))/\L'=L):=by
 have hb:=h.blk;have F1:=bF hb;have G1:=bN hb;have h1:=h.hd;have h2:=h.hg;have a1:(j:Int)<D.n:=by omega
 have hg:=qget (f:=D.g) hj;have e:decide (0<D.g j)=decide (0<(D.g j).num.sign):=yC.2 sign_pos.symm;rw[e];refine jap [] [] [.tmp 3] Tryz.func175 ?_;simp only[h1,h2,hg,a1,jad,Int.toNat_natCast,F1,G1,go_sem];refine jb1 L hb ja5 ?_;simp only[go_sem]
theorem x_c3(h:HasD L nm N D src){r:Nat}(hr:r<D.m){j:Nat}(hj:j<D.n):
  CtrH G.P 176 [.im (.int j),.im (.ip [.pr nm.d 6 0 0] 0),.im (.ip [.int (r:Int)] 0)] L (fun x L'=>x= .im (.bool (decide (D.a r j<0)))/\L'=L):=by
 have hb:=h.blk;have F1:=bF hb;have G1:=bN hb;have h1:=h.hd;have h2:=h.hr (by omega);have h3:=h.ha r hr;have a6:D.m≠0:=by omega
 have a1:(r:Int)<D.m:=by omega
 have a7:(j:Int)<D.n:=by omega
 have hg:=lget (v:=D.v) (A:=nm.a) (n:=D.n) hr;have a8:=qget (f:=D.a r) hj;have e:decide (D.a r j<0)=decide ((D.a r j).num.sign<0):=yC.2 sign_neg.symm;rw[e];refine jap [] [] [.tmp 4] Tryz.func176 ?_;simp only[F1,go_sem];refine jaf 15 ?_;simp only[h1,h2,h3,hg,a8,a1,a7,jal a6,jad,Int.toNat_natCast,F1,G1,go_sem];refine jb1 L hb ja5 ?_;simp only[go_sem]
theorem x_c4(h:HasD L nm N D src){s:Nat}(hs:s<D.n){i:Nat}(hi:i<D.m):
  CtrH G.P 177 [.im (.int i),.im (.ip [.pr nm.d 6 0 0] 0),.im (.ip [.int (s:Int)] 0)] L (fun x L'=>x= .im (.bool (decide (0<D.a i s)))/\L'=L):=by
 have hb:=h.blk;have F1:=bF hb;have G1:=bN hb;have h1:=h.hd;have h2:=h.hr (by omega);have h3:=h.ha i hi;have a6:D.m≠0:=by omega
 have a7:(i:Int)<D.m:=by omega
 have a1:(s:Int)<D.n:=by omega
 have hg:=lget (v:=D.v) (A:=nm.a) (n:=D.n) hi;have a8:=qget (f:=D.a i) hs;have e:decide (0<D.a i s)=decide (0<(D.a i s).num.sign):=yC.2 sign_pos.symm;rw[e];refine jap [] [] [.tmp 4] Tryz.func177 ?_;simp only[F1,go_sem];refine jaf 15 ?_;simp only[h1,h2,h3,hg,a8,a7,a1,jal a6,jad,Int.toNat_natCast,F1,G1,go_sem];refine jb1 L hb ja5 ?_;simp only[go_sem]
