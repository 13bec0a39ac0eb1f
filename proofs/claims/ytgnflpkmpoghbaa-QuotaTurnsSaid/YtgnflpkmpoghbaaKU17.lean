/- A part of the proof. No further condition. -/
import Derived.Test.YtgnflpkmpoghbaaKU16
set_option linter.all false
set_option maxRecDepth 10000000
set_option maxHeartbeats 16000000
namespace Go.Proofs.Ytgnflpkmpoghbaa
section
open Go.Abs Go.LQ
attribute [local go_sem] ints ic qC rtC kC xC
section
variable{p e:Int}{k:Nat}{n:Int}{C:List Int}{H U:List (List IV)}{ac:List IV}{R2:Rts×Int×Int}
def ST4(lx:IV)(p:Int)(k:Nat)(rc ac:List IV)(e:Int)(xc yc:List IV):St:=⟨[(1,.im lx),(3,.im (.int p)),(4,.loc 4 4 0 0),(9,.im (.bool true)),(10,.im (.int k)),(11,.loc 11 4 0 0),(12,.im (.int e)),(17,.loc 17 5 0 0),(18,.loc 18 5 0 0)],[(18,5,[yc]),(17,5,[xc]),(11,4,[ac]),(4,4,[rc])],[]⟩
def ST5(lx:IV)(p:Int)(k:Nat)(rc ac:List IV)(e:Int)(B:Nat)(cc:List IV)(g:Int):St:=⟨[(1,.im lx),(3,.im (.int p)),(4,.loc 4 4 0 0),(9,.im (.bool true)),(10,.im (.int k)),(11,.loc 11 4 0 0),(12,.im (.int e)),(19,.loc (hp B) 4 0 0),(20,.im (.int g))],[(hp B,4,[cc]),(11,4,[ac]),(4,4,[rc])],[]⟩
def inT:Code->Code
 | .cond _ x _=>x
 | c=>c
theorem jkm(o:Operand)(x y:Code):inT (.cond o x y)=x:=rfl
attribute [local go_sem] jkm
def qDiv(c:Code):Code:=inT (inR (inL (tailN 8 c)))
theorem qu_G00{l:List Trn}{x y:Trn}{x0:List IV}{xr:List (List IV)}{z0:List IV}{zr:List (List IV)}(hxs:(l.take k).map xC=(x0::xr))(hys:(l.drop (k+1)).map xC=(z0::zr))(hk:k<l.length)(hl:l.length<=20)
  (kt:Ctr G.P 7 [.agg [.int n,ints C,.sl H,.sl U],.sl (((x0::xr)++(z0::zr))++[xC x,xC y])] (· =tR R2)) {Q:Exit->St->Prop} (hQ:∀B s,St.Le s (ST5 (.sl (l.map xC)) p k [.int n,ints C,.sl H,.sl U] ac e B (rtC R2.1) R2.2.1)->Q .normal s):
  awp (GH [19,135,140,144] []) (putN 1 (tailN 3 (qDiv (jas Try.f3))) .skip) Q (ST4 (.sl (l.map xC)) p k [.int n,ints C,.sl H,.sl U] ac e (xC x) (xC y)):=by
 unfold ST4;unfold ST5 at hQ;have hkl:((k:Int)<=l.length)=True:=eq_true (by omega);have hkl2:((0:Int)<=k)=True:=eq_true (by omega);have hk1:(((k:Int)+1)<=l.length)=True:=eq_true (by omega);have hk2:((0:Int)<=(k:Int)+1)=True:=eq_true (by omega);have hkw:=jb2 (n:=(k:Int)+1) (by omega);have hkt:((k:Int)+1).toNat=k+1:=by omega
 have h5a:((l.map xC).all fun c=>c.length==5)=true:=by
  rw[List.all_eq_true];intro c hc;obtain⟨z,_,rfl⟩:=List.mem_map.1 hc;rfl
 have hle1:((l.length:Int)<=l.length)=True:=eq_true (Int.le_refl _);have hdt:List.take (l.length-(k+1)) (List.drop (k+1) (l.map xC))=(l.drop (k+1)).map xC:=by
  rw[List.take_of_length_le (by rw[List.length_drop,List.length_map];exact Nat.le_refl _),List.map_drop]
 have hdt2:List.take (k-0) (l.map xC)=(l.take k).map xC:=by rw[List.map_take];rfl
 have h5s:∀c∈(l.take k).map xC,c.length=5:=fun c hc=>by obtain⟨z,_,rfl⟩:=List.mem_map.1 hc;rfl
 have h5t:∀c∈(l.drop (k+1)).map xC,c.length=5:=fun c hc=>by obtain⟨z,_,rfl⟩:=List.mem_map.1 hc;rfl
 have h5xy:∀c∈[xC x,xC y],c.length=5:=fun c hc=>by
  simp only[List.mem_cons,List.not_mem_nil,or_false]at hc;rcases hc with rfl | rfl<;>rfl
 have hls:((l.take k).map xC).length<=20:=by rw[List.length_map,List.length_take];omega
 have hlt:((l.drop (k+1)).map xC).length<=20:=by rw[List.length_map,List.length_drop];omega
 rw[hxs]at*;rw[hys]at*;simp only[List.length_cons,List.length_nil]at hls hlt;unfold xC at h5xy;refine jel qDiv rfl ?_;unfold qDiv;simp only[go_sem];refine je0 [.fr,.fr,.fr,.fr,.fr,.mk,.fr,.fr,.fr,.fr,.mk,.fr,.fr,.fr,.mk,.pr (.im (tR R2)),.fr,.fr,.fr,.fr,.mk,.mk,.fr] (.alt 5 (.alt 10 (.alt 14 (.alt 15 (.alt 20 (.alt 21 .fin .none) .none) (.alt 20 (.alt 15 (.alt 21 .fin .none) .none) .none)) (.alt 20 (.alt 14 (.alt 15 (.alt 21 .fin .none) .none) .none) .none)) (.alt 20 (.alt 10 (.alt 14 (.alt 15 (.alt 21 .fin .none) .none) .none) .none) .none)) (.alt 20 (.alt 5 (.alt 10 (.alt 14 (.alt 15 (.alt 21 .fin .none) .none) .none) .none) .none) .none)) [(18,5,[xC y]),(17,5,[xC x]),(4,4,[[.int n,ints C,.sl H,.sl U]])] (by kernel_rfl) (ja0 (by simp only[go_sem]) (ja0 (by simp only[go_sem]) (ja0 (by simp only[go_sem]) ja1))) ?_;simp only[List.cons_append,List.nil_append]at kt;unfold tR rtC at*;unfold ints at*;have htx:List.take xr.length xr=xr:=List.take_length;have htz:List.take (xr.length+1+(zr.length+1)) (x0::(xr++z0::zr))=x0::(xr++z0::zr):=List.take_of_length_le (by rw[List.length_cons,List.length_append,List.length_cons];omega);simp only[List.length_map,hkl,hkl2,hk1,hk2,hkw,hkt,h5a,hle1,hdt,hdt2,go_sem];refine And.intro ?_ ?_
 ·refine And.intro h5s (And.intro (by omega) (jcb (fun X hX=> ?_)));have hX4:∀q:Nat,q<100000->(q !=hp X)=true:=fun q hq=>by simp only[bne_iff_ne,ne_eq];exact hp_ne hq
  refine And.intro (ja0 (by simp only[*,go_sem]) (ja0 (by simp only[*,go_sem]) (ja0 (by simp only[*,go_sem]) ja1))) ?_;simp only[*,go_sem];refine And.intro ?_ ?_
  ·refine And.intro h5t (And.intro (by first | omega | (simp only[List.length_append,List.length_cons,List.length_nil];omega)) (And.intro (by first | omega | (simp only[List.length_append,List.length_cons,List.length_nil];omega)) (jat (fun Y hY=> ?_))));have hY4:∀q:Nat,q<100000->(q !=hp Y)=true:=fun q hq=>by simp only[bne_iff_ne,ne_eq];exact hp_ne hq
   refine And.intro (ja0 (by simp only[*,go_sem]) (ja0 (by simp only[*,go_sem]) (ja0 (by simp only[*,go_sem]) ja1))) ?_;simp only[*,go_sem];refine And.intro ?_ ?_
   ·refine And.intro h5xy (And.intro (by first | omega | (simp only[List.length_append,List.length_cons,List.length_nil];omega)) (And.intro (by first | omega | (simp only[List.length_append,List.length_cons,List.length_nil];omega)) (jat (fun Z hZ=> ?_))));have hZ4:∀q:Nat,q<100000->(q !=hp Z)=true:=fun q hq=>by simp only[bne_iff_ne,ne_eq];exact hp_ne hq
    refine And.intro (ja0 (by simp only[*,go_sem]) (ja0 (by simp only[*,go_sem]) (ja0 (by simp only[*,go_sem]) ja1))) ?_;simp only[*,go_sem];refine And.intro ?_ ?_
    ·refine jad (jay (Y:=Z) kt (n:=xr.length+1+(zr.length+1)+2) (by simp only[List.length_append,List.length_cons,List.length_nil];try omega)) (by decide) rfl (jac jai) (ja0 (by simp only[*,go_sem]) ja1) ?_;rintro _ _ ⟨rfl,rfl⟩ _;refine⟨_,jbk,?_⟩;simp only[*,go_sem];refine And.intro (ja0 (by simp only[*,go_sem]) (ja0 (by simp only[*,go_sem]) (ja0 (by simp only[*,go_sem]) ja1))) ?_;refine jaz (fun B hB=> ?_);have hB4:∀q:Nat,q<100000->(q !=hp B)=true:=fun q hq=>by simp only[bne_iff_ne,ne_eq];exact hp_ne hq
     refine And.intro (ja0 (by simp only[*,go_sem]) (ja0 (by simp only[*,go_sem]) (ja0 (by simp only[*,go_sem]) ja1))) ?_;simp only[*,go_sem];refine And.intro (ja0 (by simp only[*,go_sem]) (ja0 (by simp only[*,go_sem]) (ja0 (by simp only[*,go_sem]) ja1))) ?_;refine hQ B _ (jb3 [1,3,4,9,10,11,12,19,20] ?_ ?_ rfl)
     ·simp only[*,go_sem]
     ·exact ja0 (by rw[ja8]) (ja0 (by rw[ja3 _ _ (hp_ne (by decide))];rfl) (ja0 (by rw[ja3 _ _ (hp_ne (by decide))];rfl) ja1))
    ·refine jaz (fun B hB=> ?_);have hB4:∀q:Nat,q<100000->(q !=hp B)=true:=fun q hq=>by simp only[bne_iff_ne,ne_eq];exact hp_ne hq
     have nBZ:¬B=Z:=jaw hB (by simp);have mZB:¬Z=B:=fun e=>nBZ e.symm;have bZ:(B !=Z)=true:=by simp only[bne_iff_ne,ne_eq];exact nBZ
     refine And.intro (ja0 (by simp only[*,go_sem]) (ja0 (by simp only[*,go_sem]) (ja0 (by simp only[*,go_sem]) ja1))) ?_;simp only[*,go_sem];refine jad (jay (Y:=Z) kt (n:=xr.length+1+(zr.length+1)+2) (by simp only[List.length_append,List.length_cons,List.length_nil];try omega)) (by decide) rfl (jac jai) (ja0 (by simp only[*,go_sem]) ja1) ?_;rintro _ _ ⟨rfl,rfl⟩ _;refine⟨_,jbk,?_⟩;simp only[*,go_sem];refine And.intro (ja0 (by simp only[*,go_sem]) (ja0 (by simp only[*,go_sem]) (ja0 (by simp only[*,go_sem]) ja1))) ?_;refine And.intro (ja0 (by simp only[*,go_sem]) (ja0 (by simp only[*,go_sem]) (ja0 (by simp only[*,go_sem]) ja1))) ?_;refine hQ B _ (jb3 [1,3,4,9,10,11,12,19,20] ?_ ?_ rfl)
     ·simp only[*,go_sem]
     ·exact ja0 (by rw[ja8]) (ja0 (by rw[ja3 _ _ (hp_ne (by decide))];rfl) (ja0 (by rw[ja3 _ _ (hp_ne (by decide))];rfl) ja1))
   ·refine jaz (fun B hB=> ?_);have hB4:∀q:Nat,q<100000->(q !=hp B)=true:=fun q hq=>by simp only[bne_iff_ne,ne_eq];exact hp_ne hq
    have nBY:¬B=Y:=jaw hB (by simp);have mYB:¬Y=B:=fun e=>nBY e.symm;have bY:(B !=Y)=true:=by simp only[bne_iff_ne,ne_eq];exact nBY
    refine And.intro (ja0 (by simp only[*,go_sem]) (ja0 (by simp only[*,go_sem]) (ja0 (by simp only[*,go_sem]) ja1))) ?_;simp only[*,go_sem];refine And.intro h5xy (And.intro (by first | omega | (simp only[List.length_append,List.length_cons,List.length_nil];omega)) (And.intro (by first | omega | (simp only[List.length_append,List.length_cons,List.length_nil];omega)) (jat (fun Z hZ=> ?_))));have hZ4:∀q:Nat,q<100000->(q !=hp Z)=true:=fun q hq=>by simp only[bne_iff_ne,ne_eq];exact hp_ne hq
    have nBZ:¬B=Z:=fun e=>jaw hZ (X:=B) (by simp[del,hp_inj,nBY]) e.symm;have mZB:¬Z=B:=fun e=>nBZ e.symm;have bZ:(B !=Z)=true:=by simp only[bne_iff_ne,ne_eq];exact nBZ
    refine And.intro (ja0 (by simp only[*,go_sem]) (ja0 (by simp only[*,go_sem]) (ja0 (by simp only[*,go_sem]) ja1))) ?_;simp only[*,go_sem];refine jad (jay (Y:=Z) kt (n:=xr.length+1+(zr.length+1)+2) (by simp only[List.length_append,List.length_cons,List.length_nil];try omega)) (by decide) rfl (jac jai) (ja0 (by simp only[*,go_sem]) ja1) ?_;rintro _ _ ⟨rfl,rfl⟩ _;refine⟨_,jbk,?_⟩;simp only[*,go_sem];refine And.intro (ja0 (by simp only[*,go_sem]) (ja0 (by simp only[*,go_sem]) (ja0 (by simp only[*,go_sem]) ja1))) ?_;refine And.intro (ja0 (by simp only[*,go_sem]) (ja0 (by simp only[*,go_sem]) (ja0 (by simp only[*,go_sem]) ja1))) ?_;refine hQ B _ (jb3 [1,3,4,9,10,11,12,19,20] ?_ ?_ rfl)
    ·simp only[*,go_sem]
    ·exact ja0 (by rw[ja8]) (ja0 (by rw[ja3 _ _ (hp_ne (by decide))];rfl) (ja0 (by rw[ja3 _ _ (hp_ne (by decide))];rfl) ja1))
  ·refine jaz (fun B hB=> ?_);have hB4:∀q:Nat,q<100000->(q !=hp B)=true:=fun q hq=>by simp only[bne_iff_ne,ne_eq];exact hp_ne hq
   have nBX:¬B=X:=jaw hB (by simp);have mXB:¬X=B:=fun e=>nBX e.symm;have bX:(B !=X)=true:=by simp only[bne_iff_ne,ne_eq];exact nBX
   refine And.intro (ja0 (by simp only[*,go_sem]) (ja0 (by simp only[*,go_sem]) (ja0 (by simp only[*,go_sem]) ja1))) ?_;simp only[*,go_sem];refine And.intro h5t (And.intro (by first | omega | (simp only[List.length_append,List.length_cons,List.length_nil];omega)) (And.intro (by first | omega | (simp only[List.length_append,List.length_cons,List.length_nil];omega)) (jat (fun Y hY=> ?_))));have hY4:∀q:Nat,q<100000->(q !=hp Y)=true:=fun q hq=>by simp only[bne_iff_ne,ne_eq];exact hp_ne hq
   have nBY:¬B=Y:=fun e=>jaw hY (X:=B) (by simp[del,hp_inj,nBX]) e.symm;have mYB:¬Y=B:=fun e=>nBY e.symm;have bY:(B !=Y)=true:=by simp only[bne_iff_ne,ne_eq];exact nBY
   refine And.intro (ja0 (by simp only[*,go_sem]) (ja0 (by simp only[*,go_sem]) (ja0 (by simp only[*,go_sem]) ja1))) ?_;simp only[*,go_sem];refine And.intro h5xy (And.intro (by first | omega | (simp only[List.length_append,List.length_cons,List.length_nil];omega)) (And.intro (by first | omega | (simp only[List.length_append,List.length_cons,List.length_nil];omega)) (jat (fun Z hZ=> ?_))));have hZ4:∀q:Nat,q<100000->(q !=hp Z)=true:=fun q hq=>by simp only[bne_iff_ne,ne_eq];exact hp_ne hq
   have nBZ:¬B=Z:=fun e=>jaw hZ (X:=B) (by simp[del,hp_inj,nBY]) e.symm;have mZB:¬Z=B:=fun e=>nBZ e.symm;have bZ:(B !=Z)=true:=by simp only[bne_iff_ne,ne_eq];exact nBZ
   refine And.intro (ja0 (by simp only[*,go_sem]) (ja0 (by simp only[*,go_sem]) (ja0 (by simp only[*,go_sem]) ja1))) ?_;simp only[*,go_sem];refine jad (jay (Y:=Z) kt (n:=xr.length+1+(zr.length+1)+2) (by simp only[List.length_append,List.length_cons,List.length_nil];try omega)) (by decide) rfl (jac jai) (ja0 (by simp only[*,go_sem]) ja1) ?_;rintro _ _ ⟨rfl,rfl⟩ _;refine⟨_,jbk,?_⟩;simp only[*,go_sem];refine And.intro (ja0 (by simp only[*,go_sem]) (ja0 (by simp only[*,go_sem]) (ja0 (by simp only[*,go_sem]) ja1))) ?_;refine And.intro (ja0 (by simp only[*,go_sem]) (ja0 (by simp only[*,go_sem]) (ja0 (by simp only[*,go_sem]) ja1))) ?_;refine hQ B _ (jb3 [1,3,4,9,10,11,12,19,20] ?_ ?_ rfl)
   ·simp only[*,go_sem]
   ·exact ja0 (by rw[ja8]) (ja0 (by rw[ja3 _ _ (hp_ne (by decide))];rfl) (ja0 (by rw[ja3 _ _ (hp_ne (by decide))];rfl) ja1))
 ·refine jaz (fun B hB=> ?_);have hB4:∀q:Nat,q<100000->(q !=hp B)=true:=fun q hq=>by simp only[bne_iff_ne,ne_eq];exact hp_ne hq
  refine And.intro (ja0 (by simp only[*,go_sem]) (ja0 (by simp only[*,go_sem]) (ja0 (by simp only[*,go_sem]) ja1))) ?_;simp only[*,go_sem];refine And.intro h5s (And.intro (by omega) (jcb (fun X hX=> ?_)));have hX4:∀q:Nat,q<100000->(q !=hp X)=true:=fun q hq=>by simp only[bne_iff_ne,ne_eq];exact hp_ne hq
  have nBX:¬B=X:=fun e=>jaw hX (X:=B) (by simp) e.symm;have mXB:¬X=B:=fun e=>nBX e.symm;have bX:(B !=X)=true:=by simp only[bne_iff_ne,ne_eq];exact nBX
  refine And.intro (ja0 (by simp only[*,go_sem]) (ja0 (by simp only[*,go_sem]) (ja0 (by simp only[*,go_sem]) ja1))) ?_;simp only[*,go_sem];refine And.intro h5t (And.intro (by first | omega | (simp only[List.length_append,List.length_cons,List.length_nil];omega)) (And.intro (by first | omega | (simp only[List.length_append,List.length_cons,List.length_nil];omega)) (jat (fun Y hY=> ?_))));have hY4:∀q:Nat,q<100000->(q !=hp Y)=true:=fun q hq=>by simp only[bne_iff_ne,ne_eq];exact hp_ne hq
  have nBY:¬B=Y:=fun e=>jaw hY (X:=B) (by simp[del,hp_inj,nBX]) e.symm;have mYB:¬Y=B:=fun e=>nBY e.symm;have bY:(B !=Y)=true:=by simp only[bne_iff_ne,ne_eq];exact nBY
  refine And.intro (ja0 (by simp only[*,go_sem]) (ja0 (by simp only[*,go_sem]) (ja0 (by simp only[*,go_sem]) ja1))) ?_;simp only[*,go_sem];refine And.intro h5xy (And.intro (by first | omega | (simp only[List.length_append,List.length_cons,List.length_nil];omega)) (And.intro (by first | omega | (simp only[List.length_append,List.length_cons,List.length_nil];omega)) (jat (fun Z hZ=> ?_))));have hZ4:∀q:Nat,q<100000->(q !=hp Z)=true:=fun q hq=>by simp only[bne_iff_ne,ne_eq];exact hp_ne hq
  have nBZ:¬B=Z:=fun e=>jaw hZ (X:=B) (by simp[del,hp_inj,nBY]) e.symm;have mZB:¬Z=B:=fun e=>nBZ e.symm;have bZ:(B !=Z)=true:=by simp only[bne_iff_ne,ne_eq];exact nBZ
  refine And.intro (ja0 (by simp only[*,go_sem]) (ja0 (by simp only[*,go_sem]) (ja0 (by simp only[*,go_sem]) ja1))) ?_;simp only[*,go_sem];refine jad (jay (Y:=Z) kt (n:=xr.length+1+(zr.length+1)+2) (by simp only[List.length_append,List.length_cons,List.length_nil];try omega)) (by decide) rfl (jac jai) (ja0 (by simp only[*,go_sem]) ja1) ?_;rintro _ _ ⟨rfl,rfl⟩ _;refine⟨_,jbk,?_⟩;simp only[*,go_sem];refine And.intro (ja0 (by simp only[*,go_sem]) (ja0 (by simp only[*,go_sem]) (ja0 (by simp only[*,go_sem]) ja1))) ?_;refine And.intro (ja0 (by simp only[*,go_sem]) (ja0 (by simp only[*,go_sem]) (ja0 (by simp only[*,go_sem]) ja1))) ?_;refine hQ B _ (jb3 [1,3,4,9,10,11,12,19,20] ?_ ?_ rfl)
  ·simp only[*,go_sem]
  ·exact ja0 (by rw[ja8]) (ja0 (by rw[ja3 _ _ (hp_ne (by decide))];rfl) (ja0 (by rw[ja3 _ _ (hp_ne (by decide))];rfl) ja1))
theorem qu_G01{l:List Trn}{x y:Trn}{x0:List IV}{xr:List (List IV)}(hxs:(l.take k).map xC=(x0::xr))(hys:(l.drop (k+1)).map xC=[])(hk:k<l.length)(hl:l.length<=20)
  (kt:Ctr G.P 7 [.agg [.int n,ints C,.sl H,.sl U],.sl (((x0::xr)++[])++[xC x,xC y])] (· =tR R2)) {Q:Exit->St->Prop} (hQ:∀B s,St.Le s (ST5 (.sl (l.map xC)) p k [.int n,ints C,.sl H,.sl U] ac e B (rtC R2.1) R2.2.1)->Q .normal s):
  awp (GH [19,135,140,144] []) (putN 1 (tailN 3 (qDiv (jas Try.f3))) .skip) Q (ST4 (.sl (l.map xC)) p k [.int n,ints C,.sl H,.sl U] ac e (xC x) (xC y)):=by
 unfold ST4;unfold ST5 at hQ;have hkl:((k:Int)<=l.length)=True:=eq_true (by omega);have hkl2:((0:Int)<=k)=True:=eq_true (by omega);have hk1:(((k:Int)+1)<=l.length)=True:=eq_true (by omega);have hk2:((0:Int)<=(k:Int)+1)=True:=eq_true (by omega);have hkw:=jb2 (n:=(k:Int)+1) (by omega);have hkt:((k:Int)+1).toNat=k+1:=by omega
 have h5a:((l.map xC).all fun c=>c.length==5)=true:=by
  rw[List.all_eq_true];intro c hc;obtain⟨z,_,rfl⟩:=List.mem_map.1 hc;rfl
 have hle1:((l.length:Int)<=l.length)=True:=eq_true (Int.le_refl _);have hdt:List.take (l.length-(k+1)) (List.drop (k+1) (l.map xC))=(l.drop (k+1)).map xC:=by
  rw[List.take_of_length_le (by rw[List.length_drop,List.length_map];exact Nat.le_refl _),List.map_drop]
 have hdt2:List.take (k-0) (l.map xC)=(l.take k).map xC:=by rw[List.map_take];rfl
 have h5s:∀c∈(l.take k).map xC,c.length=5:=fun c hc=>by obtain⟨z,_,rfl⟩:=List.mem_map.1 hc;rfl
 have h5t:∀c∈(l.drop (k+1)).map xC,c.length=5:=fun c hc=>by obtain⟨z,_,rfl⟩:=List.mem_map.1 hc;rfl
 have h5xy:∀c∈[xC x,xC y],c.length=5:=fun c hc=>by
  simp only[List.mem_cons,List.not_mem_nil,or_false]at hc;rcases hc with rfl | rfl<;>rfl
 have hls:((l.take k).map xC).length<=20:=by rw[List.length_map,List.length_take];omega
 have hlt:((l.drop (k+1)).map xC).length<=20:=by rw[List.length_map,List.length_drop];omega
 rw[hxs]at*;rw[hys]at*;simp only[List.length_cons,List.length_nil]at hls hlt;unfold xC at h5xy;refine jel qDiv rfl ?_;unfold qDiv;simp only[go_sem];refine je0 [.fr,.fr,.fr,.fr,.fr,.mk,.fr,.fr,.fr,.fr,.mk,.fr,.fr,.fr,.mk,.pr (.im (tR R2)),.fr,.fr,.fr,.fr,.mk,.mk,.fr] (.alt 5 (.alt 10 (.alt 14 (.alt 15 (.alt 20 (.alt 21 .fin .none) .none) (.alt 20 (.alt 15 (.alt 21 .fin .none) .none) .none)) (.alt 20 (.alt 14 (.alt 15 (.alt 21 .fin .none) .none) .none) .none)) (.alt 20 (.alt 10 (.alt 14 (.alt 15 (.alt 21 .fin .none) .none) .none) .none) .none)) (.alt 20 (.alt 5 (.alt 10 (.alt 14 (.alt 15 (.alt 21 .fin .none) .none) .none) .none) .none) .none)) [(18,5,[xC y]),(17,5,[xC x]),(4,4,[[.int n,ints C,.sl H,.sl U]])] (by kernel_rfl) (ja0 (by simp only[go_sem]) (ja0 (by simp only[go_sem]) (ja0 (by simp only[go_sem]) ja1))) ?_;simp only[List.cons_append,List.nil_append]at kt;unfold tR rtC at*;unfold ints at*;have htx:List.take xr.length xr=xr:=List.take_length;simp only[List.length_map,hkl,hkl2,hk1,hk2,hkw,hkt,h5a,hle1,hdt,hdt2,go_sem];refine And.intro ?_ ?_
 ·refine And.intro h5s (And.intro (by omega) (jcb (fun X hX=> ?_)));have hX4:∀q:Nat,q<100000->(q !=hp X)=true:=fun q hq=>by simp only[bne_iff_ne,ne_eq];exact hp_ne hq
  refine And.intro (ja0 (by simp only[*,go_sem]) (ja0 (by simp only[*,go_sem]) (ja0 (by simp only[*,go_sem]) ja1))) ?_;simp only[*,go_sem];refine And.intro ?_ ?_
  ·refine And.intro h5t (And.intro (by first | omega | (simp only[List.length_append,List.length_cons,List.length_nil];omega)) (And.intro (by first | omega | (simp only[List.length_append,List.length_cons,List.length_nil];omega)) (jat (fun Y hY=> ?_))));have hY4:∀q:Nat,q<100000->(q !=hp Y)=true:=fun q hq=>by simp only[bne_iff_ne,ne_eq];exact hp_ne hq
   refine And.intro (ja0 (by simp only[*,go_sem]) (ja0 (by simp only[*,go_sem]) (ja0 (by simp only[*,go_sem]) ja1))) ?_;simp only[*,go_sem];refine And.intro ?_ ?_
   ·refine And.intro h5xy (And.intro (by first | omega | (simp only[List.length_append,List.length_cons,List.length_nil];omega)) (And.intro (by first | omega | (simp only[List.length_append,List.length_cons,List.length_nil];omega)) (jat (fun Z hZ=> ?_))));have hZ4:∀q:Nat,q<100000->(q !=hp Z)=true:=fun q hq=>by simp only[bne_iff_ne,ne_eq];exact hp_ne hq
    refine And.intro (ja0 (by simp only[*,go_sem]) (ja0 (by simp only[*,go_sem]) (ja0 (by simp only[*,go_sem]) ja1))) ?_;simp only[*,go_sem];refine And.intro ?_ ?_
    ·refine jad (jay (Y:=Z) kt (n:=xr.length+1+0+2) (by simp only[List.length_append,List.length_cons,List.length_nil];try omega)) (by decide) rfl (jac jai) (ja0 (by simp only[*,go_sem]) ja1) ?_;rintro _ _ ⟨rfl,rfl⟩ _;refine⟨_,jbk,?_⟩;simp only[*,go_sem];refine And.intro (ja0 (by simp only[*,go_sem]) (ja0 (by simp only[*,go_sem]) (ja0 (by simp only[*,go_sem]) ja1))) ?_;refine jaz (fun B hB=> ?_);have hB4:∀q:Nat,q<100000->(q !=hp B)=true:=fun q hq=>by simp only[bne_iff_ne,ne_eq];exact hp_ne hq
     refine And.intro (ja0 (by simp only[*,go_sem]) (ja0 (by simp only[*,go_sem]) (ja0 (by simp only[*,go_sem]) ja1))) ?_;simp only[*,go_sem];refine And.intro (ja0 (by simp only[*,go_sem]) (ja0 (by simp only[*,go_sem]) (ja0 (by simp only[*,go_sem]) ja1))) ?_;refine hQ B _ (jb3 [1,3,4,9,10,11,12,19,20] ?_ ?_ rfl)
     ·simp only[*,go_sem]
     ·exact ja0 (by rw[ja8]) (ja0 (by rw[ja3 _ _ (hp_ne (by decide))];rfl) (ja0 (by rw[ja3 _ _ (hp_ne (by decide))];rfl) ja1))
    ·refine jaz (fun B hB=> ?_);have hB4:∀q:Nat,q<100000->(q !=hp B)=true:=fun q hq=>by simp only[bne_iff_ne,ne_eq];exact hp_ne hq
     have nBZ:¬B=Z:=jaw hB (by simp);have mZB:¬Z=B:=fun e=>nBZ e.symm;have bZ:(B !=Z)=true:=by simp only[bne_iff_ne,ne_eq];exact nBZ
     refine And.intro (ja0 (by simp only[*,go_sem]) (ja0 (by simp only[*,go_sem]) (ja0 (by simp only[*,go_sem]) ja1))) ?_;simp only[*,go_sem];refine jad (jay (Y:=Z) kt (n:=xr.length+1+0+2) (by simp only[List.length_append,List.length_cons,List.length_nil];try omega)) (by decide) rfl (jac jai) (ja0 (by simp only[*,go_sem]) ja1) ?_;rintro _ _ ⟨rfl,rfl⟩ _;refine⟨_,jbk,?_⟩;simp only[*,go_sem];refine And.intro (ja0 (by simp only[*,go_sem]) (ja0 (by simp only[*,go_sem]) (ja0 (by simp only[*,go_sem]) ja1))) ?_;refine And.intro (ja0 (by simp only[*,go_sem]) (ja0 (by simp only[*,go_sem]) (ja0 (by simp only[*,go_sem]) ja1))) ?_;refine hQ B _ (jb3 [1,3,4,9,10,11,12,19,20] ?_ ?_ rfl)
     ·simp only[*,go_sem]
     ·exact ja0 (by rw[ja8]) (ja0 (by rw[ja3 _ _ (hp_ne (by decide))];rfl) (ja0 (by rw[ja3 _ _ (hp_ne (by decide))];rfl) ja1))
   ·refine jaz (fun B hB=> ?_);have hB4:∀q:Nat,q<100000->(q !=hp B)=true:=fun q hq=>by simp only[bne_iff_ne,ne_eq];exact hp_ne hq
    have nBY:¬B=Y:=jaw hB (by simp);have mYB:¬Y=B:=fun e=>nBY e.symm;have bY:(B !=Y)=true:=by simp only[bne_iff_ne,ne_eq];exact nBY
    refine And.intro (ja0 (by simp only[*,go_sem]) (ja0 (by simp only[*,go_sem]) (ja0 (by simp only[*,go_sem]) ja1))) ?_;simp only[*,go_sem];refine And.intro h5xy (And.intro (by first | omega | (simp only[List.length_append,List.length_cons,List.length_nil];omega)) (And.intro (by first | omega | (simp only[List.length_append,List.length_cons,List.length_nil];omega)) (jat (fun Z hZ=> ?_))));have hZ4:∀q:Nat,q<100000->(q !=hp Z)=true:=fun q hq=>by simp only[bne_iff_ne,ne_eq];exact hp_ne hq
    have nBZ:¬B=Z:=fun e=>jaw hZ (X:=B) (by simp[del,hp_inj,nBY]) e.symm;have mZB:¬Z=B:=fun e=>nBZ e.symm;have bZ:(B !=Z)=true:=by simp only[bne_iff_ne,ne_eq];exact nBZ
    refine And.intro (ja0 (by simp only[*,go_sem]) (ja0 (by simp only[*,go_sem]) (ja0 (by simp only[*,go_sem]) ja1))) ?_;simp only[*,go_sem];refine jad (jay (Y:=Z) kt (n:=xr.length+1+0+2) (by simp only[List.length_append,List.length_cons,List.length_nil];try omega)) (by decide) rfl (jac jai) (ja0 (by simp only[*,go_sem]) ja1) ?_;rintro _ _ ⟨rfl,rfl⟩ _;refine⟨_,jbk,?_⟩;simp only[*,go_sem];refine And.intro (ja0 (by simp only[*,go_sem]) (ja0 (by simp only[*,go_sem]) (ja0 (by simp only[*,go_sem]) ja1))) ?_;refine And.intro (ja0 (by simp only[*,go_sem]) (ja0 (by simp only[*,go_sem]) (ja0 (by simp only[*,go_sem]) ja1))) ?_;refine hQ B _ (jb3 [1,3,4,9,10,11,12,19,20] ?_ ?_ rfl)
    ·simp only[*,go_sem]
    ·exact ja0 (by rw[ja8]) (ja0 (by rw[ja3 _ _ (hp_ne (by decide))];rfl) (ja0 (by rw[ja3 _ _ (hp_ne (by decide))];rfl) ja1))
  ·refine jaz (fun B hB=> ?_);have hB4:∀q:Nat,q<100000->(q !=hp B)=true:=fun q hq=>by simp only[bne_iff_ne,ne_eq];exact hp_ne hq
   have nBX:¬B=X:=jaw hB (by simp);have mXB:¬X=B:=fun e=>nBX e.symm;have bX:(B !=X)=true:=by simp only[bne_iff_ne,ne_eq];exact nBX
   refine And.intro (ja0 (by simp only[*,go_sem]) (ja0 (by simp only[*,go_sem]) (ja0 (by simp only[*,go_sem]) ja1))) ?_;simp only[*,go_sem];refine And.intro h5t (And.intro (by first | omega | (simp only[List.length_append,List.length_cons,List.length_nil];omega)) (And.intro (by first | omega | (simp only[List.length_append,List.length_cons,List.length_nil];omega)) (jat (fun Y hY=> ?_))));have hY4:∀q:Nat,q<100000->(q !=hp Y)=true:=fun q hq=>by simp only[bne_iff_ne,ne_eq];exact hp_ne hq
   have nBY:¬B=Y:=fun e=>jaw hY (X:=B) (by simp[del,hp_inj,nBX]) e.symm;have mYB:¬Y=B:=fun e=>nBY e.symm;have bY:(B !=Y)=true:=by simp only[bne_iff_ne,ne_eq];exact nBY
   refine And.intro (ja0 (by simp only[*,go_sem]) (ja0 (by simp only[*,go_sem]) (ja0 (by simp only[*,go_sem]) ja1))) ?_;simp only[*,go_sem];refine And.intro h5xy (And.intro (by first | omega | (simp only[List.length_append,List.length_cons,List.length_nil];omega)) (And.intro (by first | omega | (simp only[List.length_append,List.length_cons,List.length_nil];omega)) (jat (fun Z hZ=> ?_))));have hZ4:∀q:Nat,q<100000->(q !=hp Z)=true:=fun q hq=>by simp only[bne_iff_ne,ne_eq];exact hp_ne hq
   have nBZ:¬B=Z:=fun e=>jaw hZ (X:=B) (by simp[del,hp_inj,nBY]) e.symm;have mZB:¬Z=B:=fun e=>nBZ e.symm;have bZ:(B !=Z)=true:=by simp only[bne_iff_ne,ne_eq];exact nBZ
   refine And.intro (ja0 (by simp only[*,go_sem]) (ja0 (by simp only[*,go_sem]) (ja0 (by simp only[*,go_sem]) ja1))) ?_;simp only[*,go_sem];refine jad (jay (Y:=Z) kt (n:=xr.length+1+0+2) (by simp only[List.length_append,List.length_cons,List.length_nil];try omega)) (by decide) rfl (jac jai) (ja0 (by simp only[*,go_sem]) ja1) ?_;rintro _ _ ⟨rfl,rfl⟩ _;refine⟨_,jbk,?_⟩;simp only[*,go_sem];refine And.intro (ja0 (by simp only[*,go_sem]) (ja0 (by simp only[*,go_sem]) (ja0 (by simp only[*,go_sem]) ja1))) ?_;refine And.intro (ja0 (by simp only[*,go_sem]) (ja0 (by simp only[*,go_sem]) (ja0 (by simp only[*,go_sem]) ja1))) ?_;refine hQ B _ (jb3 [1,3,4,9,10,11,12,19,20] ?_ ?_ rfl)
   ·simp only[*,go_sem]
   ·exact ja0 (by rw[ja8]) (ja0 (by rw[ja3 _ _ (hp_ne (by decide))];rfl) (ja0 (by rw[ja3 _ _ (hp_ne (by decide))];rfl) ja1))
 ·refine jaz (fun B hB=> ?_);have hB4:∀q:Nat,q<100000->(q !=hp B)=true:=fun q hq=>by simp only[bne_iff_ne,ne_eq];exact hp_ne hq
  refine And.intro (ja0 (by simp only[*,go_sem]) (ja0 (by simp only[*,go_sem]) (ja0 (by simp only[*,go_sem]) ja1))) ?_;simp only[*,go_sem];refine And.intro h5s (And.intro (by omega) (jcb (fun X hX=> ?_)));have hX4:∀q:Nat,q<100000->(q !=hp X)=true:=fun q hq=>by simp only[bne_iff_ne,ne_eq];exact hp_ne hq
  have nBX:¬B=X:=fun e=>jaw hX (X:=B) (by simp) e.symm;have mXB:¬X=B:=fun e=>nBX e.symm;have bX:(B !=X)=true:=by simp only[bne_iff_ne,ne_eq];exact nBX
  refine And.intro (ja0 (by simp only[*,go_sem]) (ja0 (by simp only[*,go_sem]) (ja0 (by simp only[*,go_sem]) ja1))) ?_;simp only[*,go_sem];refine And.intro h5t (And.intro (by first | omega | (simp only[List.length_append,List.length_cons,List.length_nil];omega)) (And.intro (by first | omega | (simp only[List.length_append,List.length_cons,List.length_nil];omega)) (jat (fun Y hY=> ?_))));have hY4:∀q:Nat,q<100000->(q !=hp Y)=true:=fun q hq=>by simp only[bne_iff_ne,ne_eq];exact hp_ne hq
  have nBY:¬B=Y:=fun e=>jaw hY (X:=B) (by simp[del,hp_inj,nBX]) e.symm;have mYB:¬Y=B:=fun e=>nBY e.symm;have bY:(B !=Y)=true:=by simp only[bne_iff_ne,ne_eq];exact nBY
  refine And.intro (ja0 (by simp only[*,go_sem]) (ja0 (by simp only[*,go_sem]) (ja0 (by simp only[*,go_sem]) ja1))) ?_;simp only[*,go_sem];refine And.intro h5xy (And.intro (by first | omega | (simp only[List.length_append,List.length_cons,List.length_nil];omega)) (And.intro (by first | omega | (simp only[List.length_append,List.length_cons,List.length_nil];omega)) (jat (fun Z hZ=> ?_))));have hZ4:∀q:Nat,q<100000->(q !=hp Z)=true:=fun q hq=>by simp only[bne_iff_ne,ne_eq];exact hp_ne hq
  have nBZ:¬B=Z:=fun e=>jaw hZ (X:=B) (by simp[del,hp_inj,nBY]) e.symm;have mZB:¬Z=B:=fun e=>nBZ e.symm;have bZ:(B !=Z)=true:=by simp only[bne_iff_ne,ne_eq];exact nBZ
  refine And.intro (ja0 (by simp only[*,go_sem]) (ja0 (by simp only[*,go_sem]) (ja0 (by simp only[*,go_sem]) ja1))) ?_;simp only[*,go_sem];refine jad (jay (Y:=Z) kt (n:=xr.length+1+0+2) (by simp only[List.length_append,List.length_cons,List.length_nil];try omega)) (by decide) rfl (jac jai) (ja0 (by simp only[*,go_sem]) ja1) ?_;rintro _ _ ⟨rfl,rfl⟩ _;refine⟨_,jbk,?_⟩;simp only[*,go_sem];refine And.intro (ja0 (by simp only[*,go_sem]) (ja0 (by simp only[*,go_sem]) (ja0 (by simp only[*,go_sem]) ja1))) ?_;refine And.intro (ja0 (by simp only[*,go_sem]) (ja0 (by simp only[*,go_sem]) (ja0 (by simp only[*,go_sem]) ja1))) ?_;refine hQ B _ (jb3 [1,3,4,9,10,11,12,19,20] ?_ ?_ rfl)
  ·simp only[*,go_sem]
  ·exact ja0 (by rw[ja8]) (ja0 (by rw[ja3 _ _ (hp_ne (by decide))];rfl) (ja0 (by rw[ja3 _ _ (hp_ne (by decide))];rfl) ja1))
theorem qu_G10{l:List Trn}{x y:Trn}{z0:List IV}{zr:List (List IV)}(hxs:(l.take k).map xC=[])(hys:(l.drop (k+1)).map xC=(z0::zr))(hk:k<l.length)(hl:l.length<=20)
  (kt:Ctr G.P 7 [.agg [.int n,ints C,.sl H,.sl U],.sl (([]++(z0::zr))++[xC x,xC y])] (· =tR R2)) {Q:Exit->St->Prop} (hQ:∀B s,St.Le s (ST5 (.sl (l.map xC)) p k [.int n,ints C,.sl H,.sl U] ac e B (rtC R2.1) R2.2.1)->Q .normal s):
  awp (GH [19,135,140,144] []) (putN 1 (tailN 3 (qDiv (jas Try.f3))) .skip) Q (ST4 (.sl (l.map xC)) p k [.int n,ints C,.sl H,.sl U] ac e (xC x) (xC y)):=by
 unfold ST4;unfold ST5 at hQ;have hkl:((k:Int)<=l.length)=True:=eq_true (by omega);have hkl2:((0:Int)<=k)=True:=eq_true (by omega);have hk1:(((k:Int)+1)<=l.length)=True:=eq_true (by omega);have hk2:((0:Int)<=(k:Int)+1)=True:=eq_true (by omega);have hkw:=jb2 (n:=(k:Int)+1) (by omega);have hkt:((k:Int)+1).toNat=k+1:=by omega
 have h5a:((l.map xC).all fun c=>c.length==5)=true:=by
  rw[List.all_eq_true];intro c hc;obtain⟨z,_,rfl⟩:=List.mem_map.1 hc;rfl
 have hle1:((l.length:Int)<=l.length)=True:=eq_true (Int.le_refl _);have hdt:List.take (l.length-(k+1)) (List.drop (k+1) (l.map xC))=(l.drop (k+1)).map xC:=by
  rw[List.take_of_length_le (by rw[List.length_drop,List.length_map];exact Nat.le_refl _),List.map_drop]
 have hdt2:List.take (k-0) (l.map xC)=(l.take k).map xC:=by rw[List.map_take];rfl
 have h5s:∀c∈(l.take k).map xC,c.length=5:=fun c hc=>by obtain⟨z,_,rfl⟩:=List.mem_map.1 hc;rfl
 have h5t:∀c∈(l.drop (k+1)).map xC,c.length=5:=fun c hc=>by obtain⟨z,_,rfl⟩:=List.mem_map.1 hc;rfl
 have h5xy:∀c∈[xC x,xC y],c.length=5:=fun c hc=>by
  simp only[List.mem_cons,List.not_mem_nil,or_false]at hc;rcases hc with rfl | rfl<;>rfl
 have hls:((l.take k).map xC).length<=20:=by rw[List.length_map,List.length_take];omega
 have hlt:((l.drop (k+1)).map xC).length<=20:=by rw[List.length_map,List.length_drop];omega
 rw[hxs]at*;rw[hys]at*;simp only[List.length_cons,List.length_nil]at hls hlt;unfold xC at h5xy;refine jel qDiv rfl ?_;unfold qDiv;simp only[go_sem];refine je0 [.fr,.fr,.fr,.fr,.fr,.mk,.fr,.fr,.fr,.fr,.mk,.fr,.fr,.fr,.mk,.pr (.im (tR R2)),.fr,.fr,.fr,.fr,.mk,.mk,.fr] (.alt 5 (.alt 10 (.alt 14 (.alt 15 (.alt 20 (.alt 21 .fin .none) .none) (.alt 20 (.alt 15 (.alt 21 .fin .none) .none) .none)) (.alt 20 (.alt 14 (.alt 15 (.alt 21 .fin .none) .none) .none) .none)) (.alt 20 (.alt 10 (.alt 14 (.alt 15 (.alt 21 .fin .none) .none) .none) .none) .none)) (.alt 20 (.alt 5 (.alt 10 (.alt 14 (.alt 15 (.alt 21 .fin .none) .none) .none) .none) .none) .none)) [(18,5,[xC y]),(17,5,[xC x]),(4,4,[[.int n,ints C,.sl H,.sl U]])] (by kernel_rfl) (ja0 (by simp only[go_sem]) (ja0 (by simp only[go_sem]) (ja0 (by simp only[go_sem]) ja1))) ?_;simp only[List.cons_append,List.nil_append]at kt;unfold tR rtC at*;unfold ints at*;have htz:List.take zr.length zr=zr:=List.take_length;simp only[List.length_map,hkl,hkl2,hk1,hk2,hkw,hkt,h5a,hle1,hdt,hdt2,go_sem];refine And.intro ?_ ?_
 ·refine And.intro (ja0 (by simp only[*,go_sem]) (ja0 (by simp only[*,go_sem]) (ja0 (by simp only[*,go_sem]) ja1))) ?_
  try simp only[*,go_sem]
  refine And.intro ?_ ?_
  ·refine And.intro h5t (And.intro (by omega) (jcb (fun Y hY=> ?_)));have hY4:∀q:Nat,q<100000->(q !=hp Y)=true:=fun q hq=>by simp only[bne_iff_ne,ne_eq];exact hp_ne hq
   refine And.intro (ja0 (by simp only[*,go_sem]) (ja0 (by simp only[*,go_sem]) (ja0 (by simp only[*,go_sem]) ja1))) ?_;simp only[*,go_sem];refine And.intro ?_ ?_
   ·refine And.intro h5xy (And.intro (by first | omega | (simp only[List.length_append,List.length_cons,List.length_nil];omega)) (And.intro (by first | omega | (simp only[List.length_append,List.length_cons,List.length_nil];omega)) (jat (fun Z hZ=> ?_))));have hZ4:∀q:Nat,q<100000->(q !=hp Z)=true:=fun q hq=>by simp only[bne_iff_ne,ne_eq];exact hp_ne hq
    refine And.intro (ja0 (by simp only[*,go_sem]) (ja0 (by simp only[*,go_sem]) (ja0 (by simp only[*,go_sem]) ja1))) ?_;simp only[*,go_sem];refine And.intro ?_ ?_
    ·refine jad (jay (Y:=Z) kt (n:=zr.length+1+2) (by simp only[List.length_append,List.length_cons,List.length_nil];try omega)) (by decide) rfl (jac jai) (ja0 (by simp only[*,go_sem]) ja1) ?_;rintro _ _ ⟨rfl,rfl⟩ _;refine⟨_,jbk,?_⟩;simp only[*,go_sem];refine And.intro (ja0 (by simp only[*,go_sem]) (ja0 (by simp only[*,go_sem]) (ja0 (by simp only[*,go_sem]) ja1))) ?_;refine jaz (fun B hB=> ?_);have hB4:∀q:Nat,q<100000->(q !=hp B)=true:=fun q hq=>by simp only[bne_iff_ne,ne_eq];exact hp_ne hq
     refine And.intro (ja0 (by simp only[*,go_sem]) (ja0 (by simp only[*,go_sem]) (ja0 (by simp only[*,go_sem]) ja1))) ?_;simp only[*,go_sem];refine And.intro (ja0 (by simp only[*,go_sem]) (ja0 (by simp only[*,go_sem]) (ja0 (by simp only[*,go_sem]) ja1))) ?_;refine hQ B _ (jb3 [1,3,4,9,10,11,12,19,20] ?_ ?_ rfl)
     ·simp only[*,go_sem]
     ·exact ja0 (by rw[ja8]) (ja0 (by rw[ja3 _ _ (hp_ne (by decide))];rfl) (ja0 (by rw[ja3 _ _ (hp_ne (by decide))];rfl) ja1))
    ·refine jaz (fun B hB=> ?_);have hB4:∀q:Nat,q<100000->(q !=hp B)=true:=fun q hq=>by simp only[bne_iff_ne,ne_eq];exact hp_ne hq
     have nBZ:¬B=Z:=jaw hB (by simp);have mZB:¬Z=B:=fun e=>nBZ e.symm;have bZ:(B !=Z)=true:=by simp only[bne_iff_ne,ne_eq];exact nBZ
     refine And.intro (ja0 (by simp only[*,go_sem]) (ja0 (by simp only[*,go_sem]) (ja0 (by simp only[*,go_sem]) ja1))) ?_;simp only[*,go_sem];refine jad (jay (Y:=Z) kt (n:=zr.length+1+2) (by simp only[List.length_append,List.length_cons,List.length_nil];try omega)) (by decide) rfl (jac jai) (ja0 (by simp only[*,go_sem]) ja1) ?_;rintro _ _ ⟨rfl,rfl⟩ _;refine⟨_,jbk,?_⟩;simp only[*,go_sem];refine And.intro (ja0 (by simp only[*,go_sem]) (ja0 (by simp only[*,go_sem]) (ja0 (by simp only[*,go_sem]) ja1))) ?_;refine And.intro (ja0 (by simp only[*,go_sem]) (ja0 (by simp only[*,go_sem]) (ja0 (by simp only[*,go_sem]) ja1))) ?_;refine hQ B _ (jb3 [1,3,4,9,10,11,12,19,20] ?_ ?_ rfl)
     ·simp only[*,go_sem]
     ·exact ja0 (by rw[ja8]) (ja0 (by rw[ja3 _ _ (hp_ne (by decide))];rfl) (ja0 (by rw[ja3 _ _ (hp_ne (by decide))];rfl) ja1))
   ·refine jaz (fun B hB=> ?_);have hB4:∀q:Nat,q<100000->(q !=hp B)=true:=fun q hq=>by simp only[bne_iff_ne,ne_eq];exact hp_ne hq
    have nBY:¬B=Y:=jaw hB (by simp);have mYB:¬Y=B:=fun e=>nBY e.symm;have bY:(B !=Y)=true:=by simp only[bne_iff_ne,ne_eq];exact nBY
    refine And.intro (ja0 (by simp only[*,go_sem]) (ja0 (by simp only[*,go_sem]) (ja0 (by simp only[*,go_sem]) ja1))) ?_;simp only[*,go_sem];refine And.intro h5xy (And.intro (by first | omega | (simp only[List.length_append,List.length_cons,List.length_nil];omega)) (And.intro (by first | omega | (simp only[List.length_append,List.length_cons,List.length_nil];omega)) (jat (fun Z hZ=> ?_))));have hZ4:∀q:Nat,q<100000->(q !=hp Z)=true:=fun q hq=>by simp only[bne_iff_ne,ne_eq];exact hp_ne hq
    have nBZ:¬B=Z:=fun e=>jaw hZ (X:=B) (by simp[del,hp_inj,nBY]) e.symm;have mZB:¬Z=B:=fun e=>nBZ e.symm;have bZ:(B !=Z)=true:=by simp only[bne_iff_ne,ne_eq];exact nBZ
    refine And.intro (ja0 (by simp only[*,go_sem]) (ja0 (by simp only[*,go_sem]) (ja0 (by simp only[*,go_sem]) ja1))) ?_;simp only[*,go_sem];refine jad (jay (Y:=Z) kt (n:=zr.length+1+2) (by simp only[List.length_append,List.length_cons,List.length_nil];try omega)) (by decide) rfl (jac jai) (ja0 (by simp only[*,go_sem]) ja1) ?_;rintro _ _ ⟨rfl,rfl⟩ _;refine⟨_,jbk,?_⟩;simp only[*,go_sem];refine And.intro (ja0 (by simp only[*,go_sem]) (ja0 (by simp only[*,go_sem]) (ja0 (by simp only[*,go_sem]) ja1))) ?_;refine And.intro (ja0 (by simp only[*,go_sem]) (ja0 (by simp only[*,go_sem]) (ja0 (by simp only[*,go_sem]) ja1))) ?_;refine hQ B _ (jb3 [1,3,4,9,10,11,12,19,20] ?_ ?_ rfl)
    ·simp only[*,go_sem]
    ·exact ja0 (by rw[ja8]) (ja0 (by rw[ja3 _ _ (hp_ne (by decide))];rfl) (ja0 (by rw[ja3 _ _ (hp_ne (by decide))];rfl) ja1))
  ·refine jaz (fun B hB=> ?_);have hB4:∀q:Nat,q<100000->(q !=hp B)=true:=fun q hq=>by simp only[bne_iff_ne,ne_eq];exact hp_ne hq
   refine And.intro (ja0 (by simp only[*,go_sem]) (ja0 (by simp only[*,go_sem]) (ja0 (by simp only[*,go_sem]) ja1))) ?_;simp only[*,go_sem];refine And.intro h5t (And.intro (by omega) (jcb (fun Y hY=> ?_)));have hY4:∀q:Nat,q<100000->(q !=hp Y)=true:=fun q hq=>by simp only[bne_iff_ne,ne_eq];exact hp_ne hq
   have nBY:¬B=Y:=fun e=>jaw hY (X:=B) (by simp) e.symm;have mYB:¬Y=B:=fun e=>nBY e.symm;have bY:(B !=Y)=true:=by simp only[bne_iff_ne,ne_eq];exact nBY
   refine And.intro (ja0 (by simp only[*,go_sem]) (ja0 (by simp only[*,go_sem]) (ja0 (by simp only[*,go_sem]) ja1))) ?_;simp only[*,go_sem];refine And.intro h5xy (And.intro (by first | omega | (simp only[List.length_append,List.length_cons,List.length_nil];omega)) (And.intro (by first | omega | (simp only[List.length_append,List.length_cons,List.length_nil];omega)) (jat (fun Z hZ=> ?_))));have hZ4:∀q:Nat,q<100000->(q !=hp Z)=true:=fun q hq=>by simp only[bne_iff_ne,ne_eq];exact hp_ne hq
   have nBZ:¬B=Z:=fun e=>jaw hZ (X:=B) (by simp[del,hp_inj,nBY]) e.symm;have mZB:¬Z=B:=fun e=>nBZ e.symm;have bZ:(B !=Z)=true:=by simp only[bne_iff_ne,ne_eq];exact nBZ
   refine And.intro (ja0 (by simp only[*,go_sem]) (ja0 (by simp only[*,go_sem]) (ja0 (by simp only[*,go_sem]) ja1))) ?_;simp only[*,go_sem];refine jad (jay (Y:=Z) kt (n:=zr.length+1+2) (by simp only[List.length_append,List.length_cons,List.length_nil];try omega)) (by decide) rfl (jac jai) (ja0 (by simp only[*,go_sem]) ja1) ?_;rintro _ _ ⟨rfl,rfl⟩ _;refine⟨_,jbk,?_⟩;simp only[*,go_sem];refine And.intro (ja0 (by simp only[*,go_sem]) (ja0 (by simp only[*,go_sem]) (ja0 (by simp only[*,go_sem]) ja1))) ?_;refine And.intro (ja0 (by simp only[*,go_sem]) (ja0 (by simp only[*,go_sem]) (ja0 (by simp only[*,go_sem]) ja1))) ?_;refine hQ B _ (jb3 [1,3,4,9,10,11,12,19,20] ?_ ?_ rfl)
   ·simp only[*,go_sem]
   ·exact ja0 (by rw[ja8]) (ja0 (by rw[ja3 _ _ (hp_ne (by decide))];rfl) (ja0 (by rw[ja3 _ _ (hp_ne (by decide))];rfl) ja1))
 ·refine jaz (fun B hB=> ?_);have hB4:∀q:Nat,q<100000->(q !=hp B)=true:=fun q hq=>by simp only[bne_iff_ne,ne_eq];exact hp_ne hq
  refine And.intro (ja0 (by simp only[*,go_sem]) (ja0 (by simp only[*,go_sem]) (ja0 (by simp only[*,go_sem]) ja1))) ?_;simp only[*,go_sem];refine And.intro (ja0 (by simp only[*,go_sem]) (ja0 (by simp only[*,go_sem]) (ja0 (by simp only[*,go_sem]) ja1))) ?_
  try simp only[*,go_sem]
  refine And.intro h5t (And.intro (by omega) (jcb (fun Y hY=> ?_)));have hY4:∀q:Nat,q<100000->(q !=hp Y)=true:=fun q hq=>by simp only[bne_iff_ne,ne_eq];exact hp_ne hq
  have nBY:¬B=Y:=fun e=>jaw hY (X:=B) (by simp) e.symm;have mYB:¬Y=B:=fun e=>nBY e.symm;have bY:(B !=Y)=true:=by simp only[bne_iff_ne,ne_eq];exact nBY
  refine And.intro (ja0 (by simp only[*,go_sem]) (ja0 (by simp only[*,go_sem]) (ja0 (by simp only[*,go_sem]) ja1))) ?_;simp only[*,go_sem];refine And.intro h5xy (And.intro (by first | omega | (simp only[List.length_append,List.length_cons,List.length_nil];omega)) (And.intro (by first | omega | (simp only[List.length_append,List.length_cons,List.length_nil];omega)) (jat (fun Z hZ=> ?_))));have hZ4:∀q:Nat,q<100000->(q !=hp Z)=true:=fun q hq=>by simp only[bne_iff_ne,ne_eq];exact hp_ne hq
  have nBZ:¬B=Z:=fun e=>jaw hZ (X:=B) (by simp[del,hp_inj,nBY]) e.symm;have mZB:¬Z=B:=fun e=>nBZ e.symm;have bZ:(B !=Z)=true:=by simp only[bne_iff_ne,ne_eq];exact nBZ
  refine And.intro (ja0 (by simp only[*,go_sem]) (ja0 (by simp only[*,go_sem]) (ja0 (by simp only[*,go_sem]) ja1))) ?_;simp only[*,go_sem];refine jad (jay (Y:=Z) kt (n:=zr.length+1+2) (by simp only[List.length_append,List.length_cons,List.length_nil];try omega)) (by decide) rfl (jac jai) (ja0 (by simp only[*,go_sem]) ja1) ?_;rintro _ _ ⟨rfl,rfl⟩ _;refine⟨_,jbk,?_⟩;simp only[*,go_sem];refine And.intro (ja0 (by simp only[*,go_sem]) (ja0 (by simp only[*,go_sem]) (ja0 (by simp only[*,go_sem]) ja1))) ?_;refine And.intro (ja0 (by simp only[*,go_sem]) (ja0 (by simp only[*,go_sem]) (ja0 (by simp only[*,go_sem]) ja1))) ?_;refine hQ B _ (jb3 [1,3,4,9,10,11,12,19,20] ?_ ?_ rfl)
  ·simp only[*,go_sem]
  ·exact ja0 (by rw[ja8]) (ja0 (by rw[ja3 _ _ (hp_ne (by decide))];rfl) (ja0 (by rw[ja3 _ _ (hp_ne (by decide))];rfl) ja1))
theorem qu_G11{l:List Trn}{x y:Trn}(hxs:(l.take k).map xC=[])(hys:(l.drop (k+1)).map xC=[])(hk:k<l.length)(hl:l.length<=20)
  (kt:Ctr G.P 7 [.agg [.int n,ints C,.sl H,.sl U],.sl (([]++[])++[xC x,xC y])] (· =tR R2)) {Q:Exit->St->Prop} (hQ:∀B s,St.Le s (ST5 (.sl (l.map xC)) p k [.int n,ints C,.sl H,.sl U] ac e B (rtC R2.1) R2.2.1)->Q .normal s):
  awp (GH [19,135,140,144] []) (putN 1 (tailN 3 (qDiv (jas Try.f3))) .skip) Q (ST4 (.sl (l.map xC)) p k [.int n,ints C,.sl H,.sl U] ac e (xC x) (xC y)):=by
 unfold ST4;unfold ST5 at hQ;have hkl:((k:Int)<=l.length)=True:=eq_true (by omega);have hkl2:((0:Int)<=k)=True:=eq_true (by omega);have hk1:(((k:Int)+1)<=l.length)=True:=eq_true (by omega);have hk2:((0:Int)<=(k:Int)+1)=True:=eq_true (by omega);have hkw:=jb2 (n:=(k:Int)+1) (by omega);have hkt:((k:Int)+1).toNat=k+1:=by omega
 have h5a:((l.map xC).all fun c=>c.length==5)=true:=by
  rw[List.all_eq_true];intro c hc;obtain⟨z,_,rfl⟩:=List.mem_map.1 hc;rfl
 have hle1:((l.length:Int)<=l.length)=True:=eq_true (Int.le_refl _);have hdt:List.take (l.length-(k+1)) (List.drop (k+1) (l.map xC))=(l.drop (k+1)).map xC:=by
  rw[List.take_of_length_le (by rw[List.length_drop,List.length_map];exact Nat.le_refl _),List.map_drop]
 have hdt2:List.take (k-0) (l.map xC)=(l.take k).map xC:=by rw[List.map_take];rfl
 have h5s:∀c∈(l.take k).map xC,c.length=5:=fun c hc=>by obtain⟨z,_,rfl⟩:=List.mem_map.1 hc;rfl
 have h5t:∀c∈(l.drop (k+1)).map xC,c.length=5:=fun c hc=>by obtain⟨z,_,rfl⟩:=List.mem_map.1 hc;rfl
 have h5xy:∀c∈[xC x,xC y],c.length=5:=fun c hc=>by
  simp only[List.mem_cons,List.not_mem_nil,or_false]at hc;rcases hc with rfl | rfl<;>rfl
 have hls:((l.take k).map xC).length<=20:=by rw[List.length_map,List.length_take];omega
 have hlt:((l.drop (k+1)).map xC).length<=20:=by rw[List.length_map,List.length_drop];omega
 rw[hxs]at*;rw[hys]at*;simp only[List.length_cons,List.length_nil]at hls hlt;unfold xC at h5xy;refine jel qDiv rfl ?_;unfold qDiv;simp only[go_sem];refine je0 [.fr,.fr,.fr,.fr,.fr,.mk,.fr,.fr,.fr,.fr,.mk,.fr,.fr,.fr,.mk,.pr (.im (tR R2)),.fr,.fr,.fr,.fr,.mk,.mk,.fr] (.alt 5 (.alt 10 (.alt 14 (.alt 15 (.alt 20 (.alt 21 .fin .none) .none) (.alt 20 (.alt 15 (.alt 21 .fin .none) .none) .none)) (.alt 20 (.alt 14 (.alt 15 (.alt 21 .fin .none) .none) .none) .none)) (.alt 20 (.alt 10 (.alt 14 (.alt 15 (.alt 21 .fin .none) .none) .none) .none) .none)) (.alt 20 (.alt 5 (.alt 10 (.alt 14 (.alt 15 (.alt 21 .fin .none) .none) .none) .none) .none) .none)) [(18,5,[xC y]),(17,5,[xC x]),(4,4,[[.int n,ints C,.sl H,.sl U]])] (by kernel_rfl) (ja0 (by simp only[go_sem]) (ja0 (by simp only[go_sem]) (ja0 (by simp only[go_sem]) ja1))) ?_;simp only[List.cons_append,List.nil_append]at kt;unfold tR rtC at*;unfold ints at*;simp only[List.length_map,hkl,hkl2,hk1,hk2,hkw,hkt,h5a,hle1,hdt,hdt2,go_sem];refine And.intro ?_ ?_
 ·refine And.intro (ja0 (by simp only[*,go_sem]) (ja0 (by simp only[*,go_sem]) (ja0 (by simp only[*,go_sem]) ja1))) ?_
  try simp only[*,go_sem]
  refine And.intro ?_ ?_
  ·refine And.intro (ja0 (by simp only[*,go_sem]) (ja0 (by simp only[*,go_sem]) (ja0 (by simp only[*,go_sem]) ja1))) ?_
   try simp only[*,go_sem]
   refine And.intro ?_ ?_
   ·refine And.intro h5xy (jcb (fun Z hZ=> ?_));have hZ4:∀q:Nat,q<100000->(q !=hp Z)=true:=fun q hq=>by simp only[bne_iff_ne,ne_eq];exact hp_ne hq
    refine And.intro (ja0 (by simp only[*,go_sem]) (ja0 (by simp only[*,go_sem]) (ja0 (by simp only[*,go_sem]) ja1))) ?_;simp only[*,go_sem];refine And.intro ?_ ?_
    ·refine jad (jay (Y:=Z) kt (n:=2) (by simp only[List.length_append,List.length_cons,List.length_nil];try omega)) (by decide) rfl (jac jai) (ja0 (by simp only[*,go_sem]) ja1) ?_;rintro _ _ ⟨rfl,rfl⟩ _;refine⟨_,jbk,?_⟩;simp only[*,go_sem];refine And.intro (ja0 (by simp only[*,go_sem]) (ja0 (by simp only[*,go_sem]) (ja0 (by simp only[*,go_sem]) ja1))) ?_;refine jaz (fun B hB=> ?_);have hB4:∀q:Nat,q<100000->(q !=hp B)=true:=fun q hq=>by simp only[bne_iff_ne,ne_eq];exact hp_ne hq
     refine And.intro (ja0 (by simp only[*,go_sem]) (ja0 (by simp only[*,go_sem]) (ja0 (by simp only[*,go_sem]) ja1))) ?_;simp only[*,go_sem];refine And.intro (ja0 (by simp only[*,go_sem]) (ja0 (by simp only[*,go_sem]) (ja0 (by simp only[*,go_sem]) ja1))) ?_;refine hQ B _ (jb3 [1,3,4,9,10,11,12,19,20] ?_ ?_ rfl)
     ·simp only[*,go_sem]
     ·exact ja0 (by rw[ja8]) (ja0 (by rw[ja3 _ _ (hp_ne (by decide))];rfl) (ja0 (by rw[ja3 _ _ (hp_ne (by decide))];rfl) ja1))
    ·refine jaz (fun B hB=> ?_);have hB4:∀q:Nat,q<100000->(q !=hp B)=true:=fun q hq=>by simp only[bne_iff_ne,ne_eq];exact hp_ne hq
     have nBZ:¬B=Z:=jaw hB (by simp);have mZB:¬Z=B:=fun e=>nBZ e.symm;have bZ:(B !=Z)=true:=by simp only[bne_iff_ne,ne_eq];exact nBZ
     refine And.intro (ja0 (by simp only[*,go_sem]) (ja0 (by simp only[*,go_sem]) (ja0 (by simp only[*,go_sem]) ja1))) ?_;simp only[*,go_sem];refine jad (jay (Y:=Z) kt (n:=2) (by simp only[List.length_append,List.length_cons,List.length_nil];try omega)) (by decide) rfl (jac jai) (ja0 (by simp only[*,go_sem]) ja1) ?_;rintro _ _ ⟨rfl,rfl⟩ _;refine⟨_,jbk,?_⟩;simp only[*,go_sem];refine And.intro (ja0 (by simp only[*,go_sem]) (ja0 (by simp only[*,go_sem]) (ja0 (by simp only[*,go_sem]) ja1))) ?_;refine And.intro (ja0 (by simp only[*,go_sem]) (ja0 (by simp only[*,go_sem]) (ja0 (by simp only[*,go_sem]) ja1))) ?_;refine hQ B _ (jb3 [1,3,4,9,10,11,12,19,20] ?_ ?_ rfl)
     ·simp only[*,go_sem]
     ·exact ja0 (by rw[ja8]) (ja0 (by rw[ja3 _ _ (hp_ne (by decide))];rfl) (ja0 (by rw[ja3 _ _ (hp_ne (by decide))];rfl) ja1))
   ·refine jaz (fun B hB=> ?_);have hB4:∀q:Nat,q<100000->(q !=hp B)=true:=fun q hq=>by simp only[bne_iff_ne,ne_eq];exact hp_ne hq
    refine And.intro (ja0 (by simp only[*,go_sem]) (ja0 (by simp only[*,go_sem]) (ja0 (by simp only[*,go_sem]) ja1))) ?_;simp only[*,go_sem];refine And.intro h5xy (jcb (fun Z hZ=> ?_));have hZ4:∀q:Nat,q<100000->(q !=hp Z)=true:=fun q hq=>by simp only[bne_iff_ne,ne_eq];exact hp_ne hq
    have nBZ:¬B=Z:=fun e=>jaw hZ (X:=B) (by simp) e.symm;have mZB:¬Z=B:=fun e=>nBZ e.symm;have bZ:(B !=Z)=true:=by simp only[bne_iff_ne,ne_eq];exact nBZ
    refine And.intro (ja0 (by simp only[*,go_sem]) (ja0 (by simp only[*,go_sem]) (ja0 (by simp only[*,go_sem]) ja1))) ?_;simp only[*,go_sem];refine jad (jay (Y:=Z) kt (n:=2) (by simp only[List.length_append,List.length_cons,List.length_nil];try omega)) (by decide) rfl (jac jai) (ja0 (by simp only[*,go_sem]) ja1) ?_;rintro _ _ ⟨rfl,rfl⟩ _;refine⟨_,jbk,?_⟩;simp only[*,go_sem];refine And.intro (ja0 (by simp only[*,go_sem]) (ja0 (by simp only[*,go_sem]) (ja0 (by simp only[*,go_sem]) ja1))) ?_;refine And.intro (ja0 (by simp only[*,go_sem]) (ja0 (by simp only[*,go_sem]) (ja0 (by simp only[*,go_sem]) ja1))) ?_;refine hQ B _ (jb3 [1,3,4,9,10,11,12,19,20] ?_ ?_ rfl)
    ·simp only[*,go_sem]
    ·exact ja0 (by rw[ja8]) (ja0 (by rw[ja3 _ _ (hp_ne (by decide))];rfl) (ja0 (by rw[ja3 _ _ (hp_ne (by decide))];rfl) ja1))
  ·refine jaz (fun B hB=> ?_);have hB4:∀q:Nat,q<100000->(q !=hp B)=true:=fun q hq=>by simp only[bne_iff_ne,ne_eq];exact hp_ne hq
   refine And.intro (ja0 (by simp only[*,go_sem]) (ja0 (by simp only[*,go_sem]) (ja0 (by simp only[*,go_sem]) ja1))) ?_;simp only[*,go_sem];refine And.intro (ja0 (by simp only[*,go_sem]) (ja0 (by simp only[*,go_sem]) (ja0 (by simp only[*,go_sem]) ja1))) ?_
   try simp only[*,go_sem]
   refine And.intro h5xy (jcb (fun Z hZ=> ?_));have hZ4:∀q:Nat,q<100000->(q !=hp Z)=true:=fun q hq=>by simp only[bne_iff_ne,ne_eq];exact hp_ne hq
   have nBZ:¬B=Z:=fun e=>jaw hZ (X:=B) (by simp) e.symm;have mZB:¬Z=B:=fun e=>nBZ e.symm;have bZ:(B !=Z)=true:=by simp only[bne_iff_ne,ne_eq];exact nBZ
   refine And.intro (ja0 (by simp only[*,go_sem]) (ja0 (by simp only[*,go_sem]) (ja0 (by simp only[*,go_sem]) ja1))) ?_;simp only[*,go_sem];refine jad (jay (Y:=Z) kt (n:=2) (by simp only[List.length_append,List.length_cons,List.length_nil];try omega)) (by decide) rfl (jac jai) (ja0 (by simp only[*,go_sem]) ja1) ?_;rintro _ _ ⟨rfl,rfl⟩ _;refine⟨_,jbk,?_⟩;simp only[*,go_sem];refine And.intro (ja0 (by simp only[*,go_sem]) (ja0 (by simp only[*,go_sem]) (ja0 (by simp only[*,go_sem]) ja1))) ?_;refine And.intro (ja0 (by simp only[*,go_sem]) (ja0 (by simp only[*,go_sem]) (ja0 (by simp only[*,go_sem]) ja1))) ?_;refine hQ B _ (jb3 [1,3,4,9,10,11,12,19,20] ?_ ?_ rfl)
   ·simp only[*,go_sem]
   ·exact ja0 (by rw[ja8]) (ja0 (by rw[ja3 _ _ (hp_ne (by decide))];rfl) (ja0 (by rw[ja3 _ _ (hp_ne (by decide))];rfl) ja1))
 ·refine jaz (fun B hB=> ?_);have hB4:∀q:Nat,q<100000->(q !=hp B)=true:=fun q hq=>by simp only[bne_iff_ne,ne_eq];exact hp_ne hq
  refine And.intro (ja0 (by simp only[*,go_sem]) (ja0 (by simp only[*,go_sem]) (ja0 (by simp only[*,go_sem]) ja1))) ?_;simp only[*,go_sem];refine And.intro (ja0 (by simp only[*,go_sem]) (ja0 (by simp only[*,go_sem]) (ja0 (by simp only[*,go_sem]) ja1))) ?_
  try simp only[*,go_sem]
  refine And.intro (ja0 (by simp only[*,go_sem]) (ja0 (by simp only[*,go_sem]) (ja0 (by simp only[*,go_sem]) ja1))) ?_
  try simp only[*,go_sem]
  refine And.intro h5xy (jcb (fun Z hZ=> ?_));have hZ4:∀q:Nat,q<100000->(q !=hp Z)=true:=fun q hq=>by simp only[bne_iff_ne,ne_eq];exact hp_ne hq
  have nBZ:¬B=Z:=fun e=>jaw hZ (X:=B) (by simp) e.symm;have mZB:¬Z=B:=fun e=>nBZ e.symm;have bZ:(B !=Z)=true:=by simp only[bne_iff_ne,ne_eq];exact nBZ
  refine And.intro (ja0 (by simp only[*,go_sem]) (ja0 (by simp only[*,go_sem]) (ja0 (by simp only[*,go_sem]) ja1))) ?_;simp only[*,go_sem];refine jad (jay (Y:=Z) kt (n:=2) (by simp only[List.length_append,List.length_cons,List.length_nil];try omega)) (by decide) rfl (jac jai) (ja0 (by simp only[*,go_sem]) ja1) ?_;rintro _ _ ⟨rfl,rfl⟩ _;refine⟨_,jbk,?_⟩;simp only[*,go_sem];refine And.intro (ja0 (by simp only[*,go_sem]) (ja0 (by simp only[*,go_sem]) (ja0 (by simp only[*,go_sem]) ja1))) ?_;refine And.intro (ja0 (by simp only[*,go_sem]) (ja0 (by simp only[*,go_sem]) (ja0 (by simp only[*,go_sem]) ja1))) ?_;refine hQ B _ (jb3 [1,3,4,9,10,11,12,19,20] ?_ ?_ rfl)
  ·simp only[*,go_sem]
  ·exact ja0 (by rw[ja8]) (ja0 (by rw[ja3 _ _ (hp_ne (by decide))];rfl) (ja0 (by rw[ja3 _ _ (hp_ne (by decide))];rfl) ja1))
end
end
section
open Go.Abs Go.LQ
attribute [local go_sem] ints ic qC rtC kC xC
attribute [local go_sem] jkm
section
variable{l:List Trn}{x:Trn}{p e f g:Int}{k B:Nat}{n:Int}{C:List Int}{H U H2:List (List IV)}{ac cc:List IV}
def ST3b(lx:IV)(p:Int)(k:Nat)(rc ac:List IV)(e:Int)(xc:List IV)(b:Bool):St:=⟨[(1,.im lx),(3,.im (.int p)),(4,.loc 4 4 0 0),(9,.im (.bool true)),(10,.im (.int k)),(11,.loc 11 4 0 0),(12,.im (.int e)),(17,.loc 17 5 0 0),(114,.im (.bool b))],[(17,5,[xc]),(11,4,[ac]),(4,4,[rc])],[]⟩
def rPath(c:Code):Code:=inL (inL (tailN 8 c))
def divB(x:Trn)(p:Int):Bool:=decide (1<x.kg)&&(decide (x.kg<=1000000)&&decide (0<=p))
theorem qu_H{rc:List IV}{Q:Exit->St->Prop}(hQ:∀s,St.Le s (ST3b (.sl (l.map xC)) p k rc ac e (xC x) (divB x p))->Q .normal s):
  awp G (putN 1 (tailN 0 (rPath (jas Try.f3))) .skip) Q (ST3 (.sl (l.map xC)) p k rc ac e (xC x)):=by
 unfold ST3;unfold ST3b divB at hQ;refine jel rPath rfl ?_;unfold rPath;rcases d1:decide (1<x.kg)with _ | _
 ·simp only[d1,go_sem];refine hQ _ (le_of [1,3,4,9,10,11,12,17,114] [17,11,4] ?_);simp only[d1,go_sem]
 rcases d2:decide (x.kg<=1000000)with _ | _
 ·simp only[d1,d2,go_sem];refine hQ _ (le_of [1,3,4,9,10,11,12,17,114] [17,11,4] ?_);simp only[d1,d2,go_sem]
 ·simp only[d1,d2,go_sem];refine hQ _ (le_of [1,3,4,9,10,11,12,17,114] [17,11,4] ?_);simp only[d1,d2,go_sem]
def ydiv(x:Trn)(p:Int):Int:=1+p % (x.kg-1)
theorem qu_I{rc:List IV}(hb:divB x p=true)(hp:p<=9223372036854775807){b:Bool}{Q:Exit->St->Prop}(hQ:∀s,St.Le s (ST4 (.sl (l.map xC)) p k rc ac e (xC {x with kg:=x.kg-ydiv x p}) (xC {x with kg:=ydiv x p}))->Q .normal s):
  awp G (putN 3 (qDiv (jas Try.f3)) .skip) Q (ST3b (.sl (l.map xC)) p k rc ac e (xC x) b):=by
 simp only[divB,Bool.and_eq_true,decide_eq_true_eq]at hb;obtain⟨h1,h2,h3⟩:=hb;have e1:p.tmod (x.kg-1)=p % (x.kg-1):=Int.tmod_eq_emod_of_nonneg h3;have m1:=Int.emod_nonneg p (b:=x.kg-1) (by omega);have m2:=Int.emod_lt_of_pos p (b:=x.kg-1) (by omega);have w1:=jb2 (n:=x.kg-1) (by omega);have w2:=jb2 (n:=p % (x.kg-1)) (by omega);have w3:=jb2 (n:=1+p % (x.kg-1)) (by omega);have w4:=jb2 (n:=x.kg-(1+p % (x.kg-1))) (by omega);have w0:(x.kg-1=0)=False:=eq_false (by omega);unfold ST3b;unfold ST4 ydiv at hQ;refine jel (j:=0) qDiv rfl ?_;unfold qDiv;simp only[e1,w0,w1,w2,w3,w4,go_sem];refine hQ _ (le_of [1,3,4,9,10,11,12,17,18] [18,17,11,4] ?_);simp only[e1,w0,w1,w2,w3,w4,go_sem]
theorem qu_J{ra:Rts}(hs:e=0\/e=7->g=e/\cc=rtC ra/\Ctr G.P 8 [.agg (rtC ra),.agg (rtC ra)] (· = .bool true)){Q:Exit->St->Prop}(hQ:∀s,St.Le s (ST1 (.sl (l.map xC)) p k [.int n,ints C,.sl H,.sl U] (rtC ra) e)->Q .normal s):
  awp (GH [] []) (putN 2 (tailN 4 (qDiv (jas Try.f3))) .skip) Q (ST5 (.sl (l.map xC)) p k [.int n,ints C,.sl H,.sl U] (rtC ra) e B cc g):=by
 unfold ST5;unfold ST1 at hQ;refine jel qDiv rfl ?_;unfold qDiv;by_cases h:e=0\/e=7
 ·obtain⟨rfl,hb,kS⟩:=hs h;subst hb;unfold rtC ints at*;rcases h with rfl | rfl
  ·simp only[go_sem];refine ja5 kS (by decide) ?_;simp only[go_sem];refine hQ _ (jb3 [1,3,4,9,10,11,12] ?_ ?_ rfl)
   ·simp only[go_sem]
   ·simp only[go_sem];exact ja0 (by rw[ja3 _ _ (hp_ne (by decide))];rfl) (ja0 (by rw[ja3 _ _ (hp_ne (by decide))];rfl) ja1)
  ·simp only[go_sem];refine ja5 kS (by decide) ?_;simp only[go_sem];refine hQ _ (jb3 [1,3,4,9,10,11,12] ?_ ?_ rfl)
   ·simp only[go_sem]
   ·simp only[go_sem];exact ja0 (by rw[ja3 _ _ (hp_ne (by decide))];rfl) (ja0 (by rw[ja3 _ _ (hp_ne (by decide))];rfl) ja1)
 ·have h1:decide (e=0)=false:=decide_eq_false (fun h'=>h (.inl h'));have h2:decide (e=7)=false:=decide_eq_false (fun h'=>h (.inr h'));simp only[h1,h2,go_sem];refine hQ _ (jb3 [1,3,4,9,10,11,12] ?_ ?_ rfl)
  ·simp only[go_sem]
  ·simp only[go_sem];exact ja0 (by rw[ja3 _ _ (hp_ne (by decide))];rfl) (ja0 (by rw[ja3 _ _ (hp_ne (by decide))];rfl) ja1)
