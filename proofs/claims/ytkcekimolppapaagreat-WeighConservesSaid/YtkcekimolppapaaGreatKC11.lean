/- A part of the proof. No further condition. -/
import Derived.Test.YtkcekimolppapaaGreatKC10
set_option linter.all false
set_option maxRecDepth 10000000
set_option maxHeartbeats 16000000
namespace Go.Proofs.YtkcekimolppapaaGreat
section
open Go.Abs
attribute [local go_sem] ints ic mb20 pw20 fd20
def padD(n v:Nat):List Int:=dig v++List.replicate (n-(dig v).length) 0
theorem val_zeros{l:List Int}(hl:OkD l)(h:val l=0):l=List.replicate l.length 0:=by
 induction l with
 | nil=>rfl
 | cons d l ih=>
  have h1:=hl.head;have h2:=jax hl.tail;simp only[val]at h;have h3:=ih hl.tail (by omega);rw[List.length_cons,List.replicate_succ,<-h3,show d=0 by omega]
theorem pad_eq{l:List Int}(hl:OkD l):l=padD l.length (val l).toNat:=by
 have hlen:(dig (val l).toNat).length<=l.length:=by
  refine jbt ?_;rw[yf (jax hl)];exact jeb hl
 have h0:=jax hl;have hv:val (dig (val l).toNat)=val l:=by rw[jb0];omega
 have h1:=jcy l (dig (val l).toNat).length;have hlt:val l<1048576^(dig (val l).toNat).length:=by
  have:=jeb (jbu (val l).toNat);rw[hv]at this;exact this
 have h2:=jeu hl hlt;have h3:=val_zeros (hl.drop (dig (val l).toNat).length) h2;have h4:=jif hl hlt;have h5:l.take (dig (val l).toNat).length=dig (val l).toNat:=by
  have:∀(a b:List Int),OkD a->OkD b->a.length=b.length->val a=val b->a=b:=by
   intro a
   induction a with
   | nil=>intro b _ _ h _;exact(zI h.symm).symm
   | cons d a ih=>
    intro b ha hb h hv;cases b with
    | nil=>simp at h
    | cons e b=>
     have g1:=ha.head;have g2:=hb.head;simp only[val]at hv;rw[show d=e by omega,ih b ha.tail hb.tail (by simpa using h) (by omega)]
  refine this _ _ (hl.take _) (jbu _) (by rw[qh];omega) (by rw[h4,hv])
 conv=>lhs;rw[<-jy (dig (val l).toNat).length l]
 rw[h5,h3,yP];rfl
theorem jq8{a b out:List Int}{i:Nat}{c:Int}(hl:i+b.length<out.length)(ho:OkD out)(hz:∀j,i+b.length<=j->dgt out j=0)(hc:0<=c/\c<1048576)
  (hv:val out+1048576^(i+b.length)*c=val (a.take i)*val b+1048576^i*(dgt a i*val b)):
  OkD (out.set (i+b.length) c)/\(out.set (i+b.length) c).length=out.length/\val (out.set (i+b.length) c)=val (a.take (i+1))*val b/\∀j,i+1+b.length<=j->dgt (out.set (i+b.length) c) j=0:=by
 refine⟨ho.set hc,qf,?_,fun j hj=> ?_⟩
 ·rw[jfo _ _ _ hl,hz _ (zB _),jd,hv,jc9,yH,qO]
 ·have:=hz j (by omega);unfold dgt at this⊢;rw[yF (by omega)];exact this
theorem t_pmul(a b:List Int)(ha:OkD a)(hb:OkD b)(la:a.length<=100000000000)(lb:b.length<=100000000000):Ctr G.P 164 [ints a,ints b] (· =ints (dig (val a*val b).toNat)):=by
 have w0:=ja8 (n:=(a.length:Int)+b.length) (by omega);have w00:((a.length:Int)+b.length)*8<=140737488355328:=by omega
 have w01:(0:Int)<=(a.length:Int)+b.length:=by omega
 have w02:((a.length:Int)+b.length).toNat=a.length+b.length:=by omega
 refine ja5 [.tmp 4] Tryz.func164 ?_;simp only[w0,w00,w01,w02,go_sem];refine jau [1,5,18,19,20] [17] (fun g:Nat×List Int=>⟨[(1,.im (.sl (b.map ic))),(5,.gsl 17 3 1 (a.length+b.length)),(18,.im (.sl (a.map ic))),(19,.im (.int a.length)),(20,.im (.int g.1))],[(17,1,g.2.map ic)],[]⟩)
  (fun g=>g.1<=a.length/\g.2.length=a.length+b.length/\OkD g.2/\val g.2=val (a.take g.1)*val b/\∀j,g.1+b.length<=j->dgt g.2 j=0) (fun g=>a.length-g.1) (0,List.replicate (a.length+b.length) 0) ?_
  ⟨zH _,zY,OkD.replicate _,by dsimp only;rw[jdg];simp[val],fun j _=>by
   unfold dgt;rw[qR];split<;>rfl⟩ ?_
 ·simp only[Int.natCast_zero,y8,zY,go_sem]
 intro⟨i,out0⟩ ⟨hi,hl0,ho0,hv0,hz0⟩;dsimp only at hi hl0 ho0 hv0 hz0;by_cases hp:(i:Int)<a.length
 case neg=>
  have hd:decide ((i:Int)<a.length)=false:=zw hp;rw[jbw (l:=a) (i:=i) (by omega)]at hv0;have ht:=jep out0 ho0 (by omega);rw[hv0]at ht;have hall:(out0.map ic).take (a.length+b.length)=out0.map ic:=zG (by rw[za];omega);have hle:a.length+b.length<=out0.length:=by omega
  simp only[ints]at ht;simp only[hd,hle,hall,go_sem];refine ja1 ht ?_;simp only[go_sem]
 case pos=>
  have hd:decide ((i:Int)<a.length)=true:=zh hp;have hx:=jb2 hp;have h1:=ja8 (n:=(i:Int)+1) (by omega);simp only[hd,zq,hx,go_sem];refine jau [1,5,6,7,8,18,19,20,25,26,27] [17] (fun g:Nat×List Int×Int=>⟨[(1,.im (.sl (b.map ic))),(5,.gsl 17 3 1 (a.length+b.length)),(6,.im (.int i)),(7,.im (.int (dgt a i))),(8,.im (.int g.2.2)),(18,.im (.sl (a.map ic))),(19,.im (.int a.length)),(20,.im (.int i)),(25,.im (.sl (b.map ic))),(26,.im (.int b.length)),(27,.im (.int g.1))],[(17,1,g.2.1.map ic)],[]⟩)
   (fun g=>g.1<=b.length/\g.2.1.length=a.length+b.length/\OkD g.2.1/\0<=g.2.2/\g.2.2<1048576/\val g.2.1+1048576^(i+g.1)*g.2.2=val (a.take i)*val b+1048576^i*(dgt a i*val (b.take g.1))/\∀j,i+b.length<=j->dgt g.2.1 j=0)
   (fun g=>b.length-g.1) (0,out0,0) ?_ ⟨zH _,hl0,ho0,qy _,by dsimp only;omega,by dsimp only;rw[List.take_zero,hv0];simp[val],hz0⟩ ?_
  ·simp only[Int.natCast_zero,go_sem]
  intro⟨k,out,c⟩ ⟨hk,hl,ho,hc0,hc1,hv,hz⟩;dsimp only at hk hl ho hc0 hc1 hv hz;by_cases hkl:(k:Int)<b.length
  case neg=>
   have d1:decide ((k:Int)<b.length)=false:=zw hkl;have hkb:k=b.length:=by omega
   subst hkb;rw[jbw (l:=b) (zB _)]at hv;obtain⟨g1,g2,g3,g4⟩:=jq8 (a:=a) (by omega) ho hz ⟨hc0,hc1⟩ hv;have w1:=ja8 (n:=(i:Int)+b.length) (by omega);have hjn:((i:Int)+b.length).toNat=i+b.length:=by omega
   have hj0:(0:Int)<=(i:Int)+b.length:=by omega
   have hjl:(i:Int)+b.length<((a.length+b.length:Nat):Int):=by omega
   have hy:out[i+b.length]? =some (dgt out (i+b.length)):=jb2 (by omega);rw[hz _ (zB _)]at hy;have w2:=ja8 (n:=0+c) (by omega);rw[jc]at w2;simp only[d1,w1,hjn,hj0,hjl,zq,hy,w2,jc,go_sem];refine jac (i+1,out.set (i+b.length) c) ?_ ?_ ⟨?_,?_,g1,g3,g4⟩
   ·simp only[h1,Int.natCast_add,qM,go_sem]
   ·show a.length-(i+1)<a.length-i;omega
   ·show i+1<=a.length;omega
   ·show(out.set (i+b.length) c).length=_;rw[g2];exact hl
  case pos=>
   have d1:decide ((k:Int)<b.length)=true:=zh hkl;have hyb:=jb2 hkl;have hda:=ha.dgt i;have hdb:=hb.dgt k;have hdo:=ho.dgt (i+k);have hmul:=jkd hda hdb;have w1:=ja8 (n:=(i:Int)+k) (by omega);have w2:=ja8 (n:=dgt a i*dgt b k) (by omega);have w3:=ja8 (n:=dgt out (i+k)+dgt a i*dgt b k) (by omega);have w4:=ja8 (n:=dgt out (i+k)+dgt a i*dgt b k+c) (by omega);have w5:=ja8 (n:=(k:Int)+1) (by omega);have hjn:((i:Int)+k).toNat=i+k:=by omega
   have hj0:(0:Int)<=(i:Int)+k:=by omega
   have hjl:(i:Int)+k<((a.length+b.length:Nat):Int):=by omega
   have hy:out[i+k]? =some (dgt out (i+k)):=jb2 (by omega);have hs:=jlj (out:=out) (b:=b) (j:=i+k) (i:=i) (k:=k) (c:=c) (x:=dgt a i) (V:=val (a.take i)*val b) rfl (by omega) hv rfl;generalize hn:dgt out (i+k)+dgt a i*dgt b k+c=n at*;have a1:=and20 n;simp only[d1,zq,hyb,w1,w2,hjn,hj0,hjl,hy,w3,hn,w4,a1,go_sem];refine jac (k+1,out.set (i+k) (n % 1048576),n/1048576) ?_ ?_ ⟨?_,?_,ho.set (by omega),?_,?_,hs,fun j hj=> ?_⟩
   ·simp only[w5,hn,w4,Int.natCast_add,qM,go_sem]
   ·show b.length-(k+1)<b.length-k;omega
   ·show k+1<=b.length;omega
   ·show(out.set (i+k) _).length=_;rw[qf];exact hl
   ·show 0<=n/1048576;omega
   ·show n/1048576<1048576;omega
   ·have:=hz j hj;unfold dgt at this⊢;rw[yF (by omega)];exact this
theorem t_pmulO(a b:List Int)(ha:OkD a)(hb:OkD b)(la:a.length<=100000000000)(lb:b.length<=100000000000):
  CtrM G.P 164 [.im (ints a),.im (ints b)] [] (fun r Es new=>r= .gsl 901 3 1 (dig (val a*val b).toNat).length/\Es=[]/\new=some (1,(padD (a.length+b.length) (val a*val b).toNat).map ic)):=by
 have w0:=ja8 (n:=(a.length:Int)+b.length) (by omega);have w00:((a.length:Int)+b.length)*8<=140737488355328:=by omega
 have w01:(0:Int)<=(a.length:Int)+b.length:=by omega
 have w02:((a.length:Int)+b.length).toNat=a.length+b.length:=by omega
 refine jn5 good _ _ [.tmp 4] Tryz.func164 rfl rfl (by decide+kernel) rfl rfl (by simp) ?_;simp only[w0,w00,w01,w02,go_sem];refine jau [1,5,18,19,20] [17] (fun g:Nat×List Int=>⟨[(1,.im (.sl (b.map ic))),(5,.gsl 17 3 1 (a.length+b.length)),(18,.im (.sl (a.map ic))),(19,.im (.int a.length)),(20,.im (.int g.1))],[(17,1,g.2.map ic)],[]⟩)
  (fun g=>g.1<=a.length/\g.2.length=a.length+b.length/\OkD g.2/\val g.2=val (a.take g.1)*val b/\∀j,g.1+b.length<=j->dgt g.2 j=0) (fun g=>a.length-g.1) (0,List.replicate (a.length+b.length) 0) ?_
  ⟨zH _,zY,OkD.replicate _,by dsimp only;rw[jdg];simp[val],fun j _=>by
   unfold dgt;rw[qR];split<;>rfl⟩ ?_
 ·simp only[Int.natCast_zero,y8,zY,go_sem]
 intro⟨i,out0⟩ ⟨hi,hl0,ho0,hv0,hz0⟩;dsimp only at hi hl0 ho0 hv0 hz0;by_cases hp:(i:Int)<a.length
 case neg=>
  have hd:decide ((i:Int)<a.length)=false:=zw hp;rw[jbw (l:=a) (i:=i) (by omega)]at hv0;have ht:=t_ptrimO out0 ho0 (by omega);rw[hv0,hl0]at ht;have hpad:=pad_eq ho0;rw[hl0,hv0]at hpad;have hall:(out0.map ic).take (a.length+b.length)=out0.map ic:=zG (by rw[za];omega);have hle:a.length+b.length<=out0.length:=by omega
  simp only[hd,hle,hall,go_sem];refine jld [(900,17)] (ht) (by decide) (by simp) (by simp[rnm,look]) (by repeat' (first | exact trivial | refine⟨rfl,?_⟩)) rfl rfl rfl rfl ?_ rfl;simp only[hpad,jQ,go_sem]
 case pos=>
  have hd:decide ((i:Int)<a.length)=true:=zh hp;have hx:=jb2 hp;have h1:=ja8 (n:=(i:Int)+1) (by omega);simp only[hd,zq,hx,go_sem];refine jau [1,5,6,7,8,18,19,20,25,26,27] [17] (fun g:Nat×List Int×Int=>⟨[(1,.im (.sl (b.map ic))),(5,.gsl 17 3 1 (a.length+b.length)),(6,.im (.int i)),(7,.im (.int (dgt a i))),(8,.im (.int g.2.2)),(18,.im (.sl (a.map ic))),(19,.im (.int a.length)),(20,.im (.int i)),(25,.im (.sl (b.map ic))),(26,.im (.int b.length)),(27,.im (.int g.1))],[(17,1,g.2.1.map ic)],[]⟩)
   (fun g=>g.1<=b.length/\g.2.1.length=a.length+b.length/\OkD g.2.1/\0<=g.2.2/\g.2.2<1048576/\val g.2.1+1048576^(i+g.1)*g.2.2=val (a.take i)*val b+1048576^i*(dgt a i*val (b.take g.1))/\∀j,i+b.length<=j->dgt g.2.1 j=0)
   (fun g=>b.length-g.1) (0,out0,0) ?_ ⟨zH _,hl0,ho0,qy _,by dsimp only;omega,by dsimp only;rw[List.take_zero,hv0];simp[val],hz0⟩ ?_
  ·simp only[Int.natCast_zero,go_sem]
  intro⟨k,out,c⟩ ⟨hk,hl,ho,hc0,hc1,hv,hz⟩;dsimp only at hk hl ho hc0 hc1 hv hz;by_cases hkl:(k:Int)<b.length
  case neg=>
   have d1:decide ((k:Int)<b.length)=false:=zw hkl;have hkb:k=b.length:=by omega
   subst hkb;rw[jbw (l:=b) (zB _)]at hv;obtain⟨g1,g2,g3,g4⟩:=jq8 (a:=a) (by omega) ho hz ⟨hc0,hc1⟩ hv;have w1:=ja8 (n:=(i:Int)+b.length) (by omega);have hjn:((i:Int)+b.length).toNat=i+b.length:=by omega
   have hj0:(0:Int)<=(i:Int)+b.length:=by omega
   have hjl:(i:Int)+b.length<((a.length+b.length:Nat):Int):=by omega
   have hy:out[i+b.length]? =some (dgt out (i+b.length)):=jb2 (by omega);rw[hz _ (zB _)]at hy;have w2:=ja8 (n:=0+c) (by omega);rw[jc]at w2;simp only[d1,w1,hjn,hj0,hjl,zq,hy,w2,jc,go_sem];refine jac (i+1,out.set (i+b.length) c) ?_ ?_ ⟨?_,?_,g1,g3,g4⟩
   ·simp only[h1,Int.natCast_add,qM,go_sem]
   ·show a.length-(i+1)<a.length-i;omega
   ·show i+1<=a.length;omega
   ·show(out.set (i+b.length) c).length=_;rw[g2];exact hl
  case pos=>
   have d1:decide ((k:Int)<b.length)=true:=zh hkl;have hyb:=jb2 hkl;have hda:=ha.dgt i;have hdb:=hb.dgt k;have hdo:=ho.dgt (i+k);have hmul:=jkd hda hdb;have w1:=ja8 (n:=(i:Int)+k) (by omega);have w2:=ja8 (n:=dgt a i*dgt b k) (by omega);have w3:=ja8 (n:=dgt out (i+k)+dgt a i*dgt b k) (by omega);have w4:=ja8 (n:=dgt out (i+k)+dgt a i*dgt b k+c) (by omega);have w5:=ja8 (n:=(k:Int)+1) (by omega);have hjn:((i:Int)+k).toNat=i+k:=by omega
   have hj0:(0:Int)<=(i:Int)+k:=by omega
   have hjl:(i:Int)+k<((a.length+b.length:Nat):Int):=by omega
   have hy:out[i+k]? =some (dgt out (i+k)):=jb2 (by omega);have hs:=jlj (out:=out) (b:=b) (j:=i+k) (i:=i) (k:=k) (c:=c) (x:=dgt a i) (V:=val (a.take i)*val b) rfl (by omega) hv rfl;generalize hn:dgt out (i+k)+dgt a i*dgt b k+c=n at*;have a1:=and20 n;simp only[d1,zq,hyb,w1,w2,hjn,hj0,hjl,hy,w3,hn,w4,a1,go_sem];refine jac (k+1,out.set (i+k) (n % 1048576),n/1048576) ?_ ?_ ⟨?_,?_,ho.set (by omega),?_,?_,hs,fun j hj=> ?_⟩
   ·simp only[w5,hn,w4,Int.natCast_add,qM,go_sem]
   ·show b.length-(k+1)<b.length-k;omega
   ·show k+1<=b.length;omega
   ·show(out.set (i+k) _).length=_;rw[qf];exact hl
   ·show 0<=n/1048576;omega
   ·show n/1048576<1048576;omega
   ·have:=hz j hj;unfold dgt at this⊢;rw[yF (by omega)];exact this
end
section
open Go.Abs
attribute [local go_sem] ints ic
end
section
open Go.Abs
attribute [local go_sem] ints ic
end
section
open Go.Abs
attribute [local go_sem] ints ic
def okd(d:Int):Bool:= !decide (d<0)&& !decide (1048576<=d)
def je4(s:Int)(l:List Int):Bool:=
 l.all okd&&(!decide (s< -1)&&(!decide (1<s)&&((decide ((l.length:Int)=0)==decide (s=0))&&(decide ((l.length:Int)=0) || !decide (dgt l (l.length-1)=0)))))
theorem okd_iff{d:Int}:okd d=true↔0<=d/\d<1048576:=by simp[okd]
theorem all_okd{l:List Int}:l.all okd=true↔OkD l:=by
 rw[List.all_eq_true];exact⟨fun h d hd=>okd_iff.1 (h d hd),fun h d hd=>okd_iff.2 (h d hd)⟩
theorem all_okd_succ{l:List Int}{i:Nat}(h:(i:Int)<l.length):(l.take (i+1)).all okd=((l.take i).all okd&&okd (dgt l i)):=by
 have hx:=jb2 h;rw[yW,hx,List.all_append];simp
end
section
open Go.Abs
def big(z:Int):IV:= .agg [.int z.sign,ints (dig z.natAbs)]
theorem jk5(z:Int):je4 z.sign (dig z.natAbs)=true:=by
 have h1:(dig z.natAbs).all okd=true:=all_okd.2 (jbu _);have hs: -1<=z.sign/\z.sign<=1:=by
  rcases q8 z 0 with h | h | h
  ·rw[zM h];omega
  ·subst h;decide
  ·rw[zQ h];omega
 have hz:(dig z.natAbs=[])↔z.sign=0:=by
  rw[dig_nil,yr];omega
 simp only[je4,h1,qG,zC,yK,ql,yQ,qJ,zT];refine⟨by omega,by omega,?_,?_⟩
 ·rw[ym,<-hz];constructor
  ·intro h;exact y3.1 (by omega)
  ·intro h;rw[h];rfl
 ·by_cases h:dig z.natAbs=[]
  ·left;rw[h];rfl
  ·right;intro h2;have h3:=jmy z.natAbs;rw[yT]at h3;have h4:=qQ.2 h;have h5:=jb2 (l:=dig z.natAbs) (i:=(dig z.natAbs).length-1) (by omega);rw[h5,h2]at h3;exact h3 rfl
theorem jig(z:Int): -1<=z.sign/\z.sign<=1:=by
 rcases q8 z 0 with h | h | h
 ·rw[zM h];omega
 ·subst h;decide
 ·rw[zQ h];omega
attribute [local go_sem] ints ic big
theorem jkh{a b:Nat}{k m:Nat}(ha:(dig a).length<=k)(hb:(dig b).length<=m):(dig (a*b)).length<=k+m:=by
 refine jbt ?_;have h1:(a:Int)<1048576^k:=by
  have:=jeb (jbu a);rw[jb0]at this;exact vw this (by
   have h3:=jY.2 (qU (n:=1048576) (by omega) ha);rw[Int.natCast_pow,Int.natCast_pow]at h3;exact h3)
 have h2:(b:Int)<1048576^m:=by
  have:=jeb (jbu b);rw[jb0]at this;exact vw this (by
   have h3:=jY.2 (qU (n:=1048576) (by omega) hb);rw[Int.natCast_pow,Int.natCast_pow]at h3;exact h3)
 have g1:a<1048576^k:=vi.1 (by rw[Int.natCast_pow];exact h1);have g2:b<1048576^m:=vi.1 (by rw[Int.natCast_pow];exact h2);have g3:=vi.2 (Nat.mul_lt_mul'' g1 g2);rw[<-Nat.pow_add,Int.natCast_pow]at g3;exact g3
end
section
open Go.Abs
attribute [local go_sem] ints ic big
def cmpI(a b:Int):Int:=if a<b then-1 else if a=b then 0 else 1
theorem sign_lt{a b:Int}(h:a.sign<b.sign):a<b:=by
 rcases q8 a 0 with h1 | h1 | h1<;>rcases q8 b 0 with h2 | h2 | h2<;>
  simp[zM,zQ, *]at h<;>omega
end
section
open Go.Abs
attribute [local go_sem] ints ic big
theorem jgu{n k:Nat}(h:(dig n).length<=k):(n:Int)<1048576^k:=by
 have:=jeb (jbu n);rw[jb0]at this;exact vw this (by
  have h3:=jY.2 (qU (n:=1048576) (by omega) h);rw[Int.natCast_pow,Int.natCast_pow]at h3;exact h3)
theorem len_add{n a b k:Nat}(ha:(dig a).length<=k)(hb:(dig b).length<=k)(h:n<=a+b):(dig n).length<=k+1:=by
 refine jbt ?_;have h1:=jgu ha;have h2:=jgu hb;rw[jd1];omega
end
section
open Go.Abs
attribute [local go_sem] ints ic
end
section
open Go.Abs
attribute [local go_sem] ints ic big
theorem jd2{n m k:Nat}(h:n<=m)(hm:(dig m).length<=k):(dig n).length<=k:=jbt (by have:=jgu hm;omega)
end
section
open Go.Abs
attribute [local go_sem] ints ic mb20 pw20 fd20
theorem t_nan(x:Int):Ctr G.P 150 [.int x] (· = .bool false):=by
 refine ja5 [.tmp 2] Tryz.func150 ?_;simp only[jQ,go_sem]
theorem t_cmp(x y:Int):Ctr G.P 107 [.int x,.int y] (· = .int (cmpI x y)):=by
 have h1:=t_nan x;have h2:=t_nan y;refine ja5 [.tmp 4] Tryz.func107 ?_;simp only[go_sem];refine ja1 h1 ?_;simp only[go_sem];refine ja1 h2 ?_;simp only[go_sem];refine jd8 (fun d1 d1'=> ?_) (fun d1 d1'=> ?_)
 ·have:cmpI x y= -1:=zm d1';rw[this];simp only[d1,go_sem]
 ·simp only[d1,go_sem];refine jd8 (fun d2 d2'=> ?_) (fun d2 d2'=> ?_)
  ·have:cmpI x y=1:=by rw[cmpI,zn d1',zn (by omega)]
   rw[this];simp only[d1,d2,go_sem]
  ·have:cmpI x y=0:=by rw[cmpI,zn d1',zm (by omega)]
   rw[this];simp only[d1,d2,go_sem]
theorem cmp_len{n m:Nat}(h:(dig n).length≠(dig m).length):cmpI ((dig n).length:Int) ((dig m).length:Int)=cmpI (n:Int) (m:Int):=by
 rcases vy h with h1 | h1
 ·have:n<m:=by
   rcases zW n m with h2 | h2
   ·exact h2
   ·have:=jd2 h2 (zB _);omega
  rw[cmpI,cmpI,zm (by omega),zm (by omega)]
 ·have:m<n:=by
   rcases zW m n with h2 | h2
   ·exact h2
   ·have:=jd2 h2 (zB _);omega
  rw[cmpI,cmpI,zn (by omega),zn (by omega),zn (by omega),zn (by omega)]
theorem cmp_dgt{a b:List Int}(ha:OkD a)(hb:OkD b){m:Nat}(h:∀j,m<j->dgt a j=dgt b j)(hne:dgt a m≠dgt b m):cmpI (dgt a m) (dgt b m)=cmpI (val a) (val b):=by
 rcases yy hne with h1 | h1
 ·have:=lt_at ha hb m h h1;rw[cmpI,cmpI,zm h1,zm this]
 ·have:=lt_at hb ha m (fun j hj=>(h j hj).symm) h1;rw[cmpI,cmpI,zn (by omega),zn (by omega),zn (by omega),zn (by omega)]
theorem jfb(x y:Nat)(lx:(dig x).length<=1000000000000)(ly:(dig y).length<=1000000000000):Ctr G.P 128 [ints (dig x),ints (dig y)] (· = .int (cmpI (x:Int) (y:Int))):=by
 by_cases hl:(dig x).length=(dig y).length
 case neg=>
  have hc:=t_cmp ((dig x).length:Int) ((dig y).length:Int);rw[cmp_len hl]at hc;have hd:decide (((dig x).length:Int)=(dig y).length)=false:=zw (by omega);refine ja5 [.tmp 4] Tryz.func128 ?_;simp only[hd,go_sem];refine ja1 hc ?_;simp only[go_sem]
 case pos=>
  have hvx:=jb0 x;have hvy:=jb0 y;have hox:=jbu x;have hoy:=jbu y;generalize dig x=a at*;generalize dig y=b at*;rw[<-hvx,<-hvy];have hli:(a.length:Int)=b.length:=by omega
  have hw:=ja8 (n:=(b.length:Int)-1) (by omega);refine ja5 [.tmp 4] Tryz.func128 ?_;simp only[hli,jQ,hw,go_sem];refine jau [0,1,5] [] (fun n:Nat=>⟨[(0,.im (.sl (a.map ic))),(1,.im (.sl (b.map ic))),(5,.im (.int ((n:Int)-1)))],[],[]⟩) (fun n=>n<=b.length/\∀j,n<=j->dgt a j=dgt b j) (fun n=>n) b.length ?_
   ⟨zB _,fun j hj=>by rw[jeg (by omega),jeg (by omega)]⟩ ?_
  ·simp only[hw,go_sem]
  intro n ⟨hn,hz⟩;rcases n with _ | m
  ·have hd:decide ((0:Int)<=((0:Nat):Int)-1)=false:=by decide
   have hv:val a=val b:=jpx fun j=>hz j (zH _);have hv':cmpI (val a) (val b)=0:=by rw[cmpI,zn (by omega),zm hv]
   rw[hv'];simp only[hd,go_sem]
  ·have h2:((m+1:Nat):Int)-1=m:=by omega
   have hd:decide ((0:Int)<=(m:Int))=true:=zh (by omega);have h3:=ja8 (n:=(m:Int)-1) (by omega);have hx:=jb2 (l:=a) (i:=m) (by omega);have hy:=jb2 (l:=b) (i:=m) (by omega);simp only[h2,hd,go_sem];refine jab 9 ?_;simp only[h2,zq,hx,hy,go_sem];refine jd8 (fun he he'=> ?_) (fun he he'=> ?_)
   ·simp only[h2,he,go_sem];refine jac m ?_ (by omega) ⟨by omega,fun j hj=> ?_⟩
    ·simp only[h2,h3,go_sem]
    ·rcases zW m j with h | h
     ·exact hz j h
     ·rw[show j=m by omega];exact he'
   ·have hc:=t_cmp (dgt a m) (dgt b m);rw[cmp_dgt hox hoy (fun j hj=>hz j hj) he']at hc;simp only[h2,he,go_sem];refine jab 10 ?_;simp only[h2,zq,hx,hy,go_sem];refine ja4 hc (by decide) ?_;simp only[go_sem]
end
section
open Go.Abs
attribute [local go_sem] ints ic mb20 pw20 fd20
def winL(U:List Int)(i:Nat)(X:List Int):List Int:=U.take i++X++U.drop (i+X.length)
theorem jpo{U X:List Int}{i:Nat}(h:i+X.length<=U.length):(winL U i X).length=U.length:=by
 simp only[winL,zu,qh,yP];omega
theorem jpp{U X:List Int}{i k:Nat}(hi:i<=U.length)(hk:k<X.length):(winL U i X)[i+k]? =some (dgt X k):=by
 have hl:(U.take i).length=i:=by rw[qh];omega
 rw[winL,zR,zS (by omega),hl,jU,zL hk];exact jb2 (by omega)
theorem jpm{U X:List Int}{i k:Nat}{y:Int}(hi:i<=U.length)(hk:k<X.length):(winL U i X).set (i+k) y=winL U i (X.set k y):=by
 have hl:(U.take i).length=i:=by rw[qh];omega
 rw[winL,winL,qf,zR,zR,List.set_append_right _ _ (by omega),hl,jU,List.set_append_left _ _ hk]
theorem winL_self{U:List Int}{i m:Nat}(h:i+m<=U.length):winL U i ((U.drop i).take m)=U:=by
 have hl:((U.drop i).take m).length=m:=by rw[qh,yP];omega
 rw[winL,hl,zR,<-vC,jy,jy]
theorem mul_step{out v:List Int}{k:Nat}{c n g V:Int}(hi:k<out.length)(h:val out-1048576^k*c=V-g*val (v.take k))(hn:n=dgt out k-c-g*dgt v k):
  val (out.set k (n % 1048576))-1048576^(k+1)* -(n/1048576)=V-g*val (v.take (k+1)):=by
 rw[jfo _ _ _ hi,jc9,jd1];generalize (1048576:Int)^k=p at*;have e0:=qP n 1048576;have e:p*(n % 1048576-dgt out k)-p*1048576* -(n/1048576)=p*(n-dgt out k):=by
  rw[qO,<-j6];congr 1;omega
 have e2:p*(n-dgt out k)= -(p*(g*dgt v k))-p*c:=by
  rw[hn,show dgt out k-c-g*dgt v k-dgt out k= -(g*dgt v k)-c by omega,j6,y6]
 have e3:g*(val (v.take k)+p*dgt v k)=g*val (v.take k)+p*(g*dgt v k):=by rw[qF,jR]
 rw[e3];omega
theorem back_step{out v:List Int}{k:Nat}{c n V:Int}(hi:k<out.length)(h:val out+1048576^k*c=V+val (v.take k))(hn:n=c+dgt out k+dgt v k):
  val (out.set k (n % 1048576))+1048576^(k+1)*(n/1048576)=V+val (v.take (k+1)):=by
 rw[jfo _ _ _ hi,jc9,jd1];generalize (1048576:Int)^k=p at*;have e0:=qP n 1048576;have e:p*(n % 1048576-dgt out k)+p*1048576*(n/1048576)=p*(n-dgt out k):=by
  rw[qO,<-qF];congr 1;omega
 have e2:p*(n-dgt out k)=p*c+p*dgt v k:=by
  rw[hn,show c+dgt out k+dgt v k-dgt out k=c+dgt v k by omega,qF]
 omega
def jg9(w v g:Int):Int:=if 0<=w-g*v then g else g-1
theorem jps(U W v:List Int)(i0 n:Nat)(g:Int)(hW:OkD W)(hv:OkD v)(lW:W.length=n+1)(lv:v.length=n)(hU:i0+(n+1)<=U.length)(hU2:U.length<=10000000000000)
  (hg:0<=g/\g<1048576) (hq:0<=val W-g*val v\/0<=val W-(g-1)*val v):
  CtrM G.P 193 [.osl 900 1 i0 (n+1),.im (ints v),.im (.int g)] [(900,1,(winL U i0 W).map ic)]
   (fun r Es new=>r= .im (.int (jg9 (val W) (val v) g))/\Es=[(winL U i0 (padD (n+1) (val W-jg9 (val W) (val v) g*val v).toNat)).map ic]/\new=none):=by
 have hWl:=jeb hW;have hv0:=jax hv;have hgv:0<=g*val v:=qS hg.1 hv0;rw[lW]at hWl;refine jn5 good _ _ [.tmp 6] Tryz.func193 rfl rfl (by decide+kernel) rfl rfl (by simp) ?_;simp only[go_sem];refine jau [0,1,2,7,12,13,14] [900] (fun s:Nat×List Int×Int=>⟨[(0,.osl 900 1 i0 (n+1)),(1,.im (.sl (v.map ic))),(2,.im (.int g)),(7,.im (.int s.2.2)),(12,.osl 900 1 i0 (n+1)),(13,.im (.int ((n+1:Nat):Int))),(14,.im (.int s.1))],[(900,1,(winL U i0 s.2.1).map ic)],[]⟩)
  (fun s=>s.1<=n+1/\s.2.1.length=n+1/\OkD s.2.1/\0<=s.2.2/\s.2.2<=1048576/\val s.2.1-1048576^s.1*s.2.2=val W-g*val (v.take s.1)) (fun s=>n+1-s.1) (0,W,0) ?_
  ⟨zH _,lW,hW,qy _,by dsimp only;omega,by dsimp only;simp[val]⟩ ?_
 ·simp only[Int.natCast_zero,go_sem]
 intro⟨k,X,c⟩ ⟨hk,lX,hX,hc0,hc1,hinv⟩;dsimp only at hk lX hX hc0 hc1 hinv;by_cases hp:(k:Int)<((n+1:Nat):Int)
 case pos=>
  have hd:decide ((k:Int)<((n+1:Nat):Int))=true:=zh hp;have hdX:=hX.dgt k;have hdv:=hv.dgt k;have hmul:=jkd hg hdv;have h1:=ja8 (n:=(k:Int)+1) (by omega);have hy:=jpp (U:=U) (X:=X) (i:=i0) (k:=k) (by omega) (by omega);have w0:=ja8 (n:=g*dgt v k) (by omega);have w1:=ja8 (n:=dgt X k-c) (by omega);have w2:=ja8 (n:=dgt X k-c-g*dgt v k) (by omega);have hs:=mul_step (by omega:k<X.length) hinv rfl;generalize hN:dgt X k-c-g*dgt v k=t at*;have a1:=and20 t;have a2:=ja8 (n:=0-t/1048576) (by omega);have hset:((winL U i0 X).map ic).set (i0+k) [.sc (.int .i64 (t % 1048576))]=(winL U i0 (X.set k (t % 1048576))).map ic:=by
   rw[<-jpm (by omega) (by omega),qM];rfl
  have e0:0-t/1048576= -(t/1048576):=by omega
  rw[e0]at a2;have fin:(0<= -(t/1048576)/\ -(t/1048576)<=1048576)/\(X.set k (t % 1048576)).length=n+1/\OkD (X.set k (t % 1048576)):=
   ⟨by omega,by rw[qf];exact lX,hX.set (by omega)⟩
  obtain⟨f1,f2,f3⟩:=fin;by_cases hbl:(k:Int)<v.length
  ·have hd2:decide ((k:Int)<v.length)=true:=zh hbl;have hxb:=jb2 hbl;simp only[hd,hp,hd2,zq,hxb,hy,w0,w1,hN,w2,a1,a2,hset,e0,go_sem];refine jac (k+1,X.set k (t % 1048576),-(t/1048576)) ?_ ?_ ⟨?_,f2,f3,f1.1,f1.2,hs⟩
   ·simp only[h1,Int.natCast_add,go_sem]
   ·show n+1-(k+1)<n+1-k;omega
   ·show k+1<=n+1;omega
  ·have hd2:decide ((k:Int)<v.length)=false:=zw hbl;have hb0:dgt v k=0:=jeg (by omega);rw[hb0,ya,jd]at hN;rw[hN]at w1;simp only[hd,hp,hd2,zq,hy,hN,w1,a1,a2,hset,e0,go_sem];refine jac (k+1,X.set k (t % 1048576),-(t/1048576)) ?_ ?_ ⟨?_,f2,f3,f1.1,f1.2,hs⟩
   ·simp only[h1,Int.natCast_add,go_sem]
   ·show n+1-(k+1)<n+1-k;omega
   ·show k+1<=n+1;omega
 case neg=>
  have hd:decide ((k:Int)<((n+1:Nat):Int))=false:=zw hp;have hkn:k=n+1:=by omega
  subst hkn;rw[jbw (l:=v) (by omega)]at hinv;have hXl:=jeb hX;have hX0:=jax hX;rw[lX]at hXl;by_cases hc:c=0
  ·subst hc;rw[ya,jd]at hinv;have hset:jg9 (val W) (val v) g=g:=zm (by omega);have hpad:=pad_eq hX;rw[lX,hinv]at hpad;rw[hset];simp only[hd,<-hpad,jQ,go_sem]
  ·have hcd:decide (c=0)=false:=zw hc;have hP:=jdj (n+1);have hcm:1048576^(n+1)*1<=1048576^(n+1)*c:=qk (by omega) (by omega);have hneg:¬0<=val W-g*val v:=by omega
   have hset:jg9 (val W) (val v) g=g-1:=zn hneg;have hq':=hq.resolve_left hneg;rw[hset];have wg:=ja8 (n:=g-1) (by omega);simp only[hd,hcd,go_sem];refine jau [0,1,2,10,47,48,49] [900] (fun s:Nat×List Int×Int=>⟨[(0,.osl 900 1 i0 (n+1)),(1,.im (.sl (v.map ic))),(2,.im (.int g)),(10,.im (.int s.2.2)),(47,.osl 900 1 i0 (n+1)),(48,.im (.int ((n+1:Nat):Int))),(49,.im (.int s.1))],[(900,1,(winL U i0 s.2.1).map ic)],[]⟩)
    (fun s=>s.1<=n+1/\s.2.1.length=n+1/\OkD s.2.1/\0<=s.2.2/\s.2.2<=1/\val s.2.1+1048576^s.1*s.2.2=val X+val (v.take s.1)) (fun s=>n+1-s.1) (0,X,0) ?_
    ⟨zH _,lX,hX,qy _,by dsimp only;omega,by dsimp only;simp[val]⟩ ?_
   ·simp only[Int.natCast_zero,go_sem]
   intro⟨k,Y,e⟩ ⟨hk2,lY,hY,he0,he1,hinv2⟩;dsimp only at hk2 lY hY he0 he1 hinv2;by_cases hp2:(k:Int)<((n+1:Nat):Int)
   case pos=>
    have hd3:decide ((k:Int)<((n+1:Nat):Int))=true:=zh hp2;have hdY:=hY.dgt k;have hdv:=hv.dgt k;have h1:=ja8 (n:=(k:Int)+1) (by omega);have hy:=jpp (U:=U) (X:=Y) (i:=i0) (k:=k) (by omega) (by omega);have w1:=ja8 (n:=e+dgt Y k) (by omega);have w2:=ja8 (n:=e+dgt Y k+dgt v k) (by omega);have hs:=back_step (by omega:k<Y.length) hinv2 rfl;generalize hN:e+dgt Y k+dgt v k=t at*;have a1:=and20 t;have hset2:((winL U i0 Y).map ic).set (i0+k) [.sc (.int .i64 (t % 1048576))]=(winL U i0 (Y.set k (t % 1048576))).map ic:=by
     rw[<-jpm (by omega) (by omega),qM];rfl
    have fin:(0<=t/1048576/\t/1048576<=1)/\(Y.set k (t % 1048576)).length=n+1/\OkD (Y.set k (t % 1048576)):=
     ⟨by omega,by rw[qf];exact lY,hY.set (by omega)⟩
    obtain⟨f1,f2,f3⟩:=fin;by_cases hbl:(k:Int)<v.length
    ·have hd2:decide ((k:Int)<v.length)=true:=zh hbl;have hxb:=jb2 hbl;simp only[hd3,hp2,hd2,zq,hxb,hy,w1,hN,w2,a1,hset2,go_sem];refine jac (k+1,Y.set k (t % 1048576),t/1048576) ?_ ?_ ⟨?_,f2,f3,f1.1,f1.2,hs⟩
     ·simp only[h1,Int.natCast_add,go_sem]
     ·show n+1-(k+1)<n+1-k;omega
     ·show k+1<=n+1;omega
    ·have hd2:decide ((k:Int)<v.length)=false:=zw hbl;have hb0:dgt v k=0:=jeg (by omega);rw[hb0,yo]at hN;rw[hN]at w1;simp only[hd3,hp2,hd2,zq,hy,hN,w1,a1,hset2,go_sem];refine jac (k+1,Y.set k (t % 1048576),t/1048576) ?_ ?_ ⟨?_,f2,f3,f1.1,f1.2,hs⟩
     ·simp only[h1,Int.natCast_add,go_sem]
     ·show n+1-(k+1)<n+1-k;omega
     ·show k+1<=n+1;omega
   case neg=>
    have hd3:decide ((k:Int)<((n+1:Nat):Int))=false:=zw hp2;have hkn:k=n+1:=by omega
    subst hkn;rw[jbw (l:=v) (by omega)]at hinv2;have hYl:=jeb hY;have hY0:=jax hY;rw[lY]at hYl;have hYv:val Y=val W-(g-1)*val v:=by
     have e1:(g-1)*val v=g*val v-val v:=by rw[jC];omega
     rw[e1]at hq'⊢;have e2:1048576^(n+1)*(c-e)=1048576^(n+1)*c-1048576^(n+1)*e:=j6 ..;have hce:c-e=0:=by
      rcases q8 (c-e) 0 with h | h | h
      ·have:1048576^(n+1)*(c-e)<=1048576^(n+1)*(-1):=qk (by omega) (by omega);omega
      ·exact h
      ·have:1048576^(n+1)*1<=1048576^(n+1)*(c-e):=qk (by omega) (by omega);omega
     rw[hce,ya]at e2;omega
    have hpad:=pad_eq hY;rw[lY,hYv]at hpad;simp only[hd3,wg,<-hpad,jQ,go_sem]
end
end Go.Proofs.YtkcekimolppapaaGreat
namespace Go.Abs
section
theorem ex2(x y D:Int):(x*1048576+y)*D=1048576*(x*D)+y*D:=by
 rw[yH,yk x,qO]
theorem ex3(g x y D z:Int):g*((x*1048576+y)*D+z)=1048576*(g*x*D)+g*y*D+g*z:=by
 rw[ex2,qF,qF,jR g,<-qO g,<-qO g]
theorem knuth_first{g rest top v1 v2 w V W D Vl Wl:Int}(hD:0<D)(hV:V=(v1*1048576+v2)*D+Vl)(hVl:0<=Vl)(hv2:0<=v2)(hW:W=(top*1048576+w)*D+Wl)(hWl:Wl<D)
  (hw:w<1048576) (hg:g*v1+rest=top) (hr:rest<v1) (g0:0<=g):W<(g+1)*V:=by
 have h1:0<=g*(v2*D):=qS g0 (qS hv2 (by omega));have h1':0<=g*Vl:=qS g0 hVl;have h1'':0<=v2*D:=qS hv2 (by omega);have h2:(top+1)*D<=(g*v1+v1)*D:=qA (by omega) (by omega);have h3:w*D<=1048575*D:=qA (by omega) (by omega);have e:(g+1)*V=g*V+V:=by rw[yH,yG]
 rw[yH,yH,yG]at h2;rw[<-qO]at h1;have e2:g*V=1048576*(g*v1*D)+g*v2*D+g*Vl:=by rw[hV,ex3]
 have e3:V=1048576*(v1*D)+v2*D+Vl:=by rw[hV,ex2]
 have e4:W=1048576*(top*D)+w*D+Wl:=by rw[hW,ex2]
 rw[e,e2,e3,e4];clear hV hW e e2 e3 e4;omega
theorem knuth_down{g rest top v1 v2 w V W D Vl Wl:Int}(hD:0<D)(hV:V=(v1*1048576+v2)*D+Vl)(hVl:0<=Vl)(hW:W=(top*1048576+w)*D+Wl)(hWl:Wl<D)
  (hg:g*v1+rest=top) (g0:0<=g) (h:rest*1048576+w<g*v2):W<g*V:=by
 have h1:0<=g*Vl:=qS g0 hVl;have h2:(rest*1048576+w+1)*D<=(g*v2)*D:=qA (by omega) (by omega);have h3:(g*v1+rest)*D=top*D:=by rw[hg]
 rw[yH,ex2,yG]at h2;rw[yH]at h3;have e2:g*V=1048576*(g*v1*D)+g*v2*D+g*Vl:=by rw[hV,ex3]
 have e4:W=1048576*(top*D)+w*D+Wl:=by rw[hW,ex2]
 rw[e2,e4];clear hV hW e2 e4;omega
theorem jly{g rest top v1 v2 w V W D Vl Wl:Int}(hD:0<D)(hV:V=(v1*1048576+v2)*D+Vl)(hVl:Vl<D)(hW:W=(top*1048576+w)*D+Wl)(hWl:0<=Wl)
  (hg:g*v1+rest=top) (g0:1<=g) (g1:g<1048576) (hv1:1<=v1) (hv2:0<=v2/\v2<1048576) (hw:0<=w) (h:1048576<=rest\/g*v2<=rest*1048576+w):(g-1)*V<=W:=by
 have h0:g*v2<=rest*1048576+w:=by
  rcases h with h | h
  ·have:g*v2<=1048575*1048575:=jO (by omega) (by omega) hv2.1 (by omega);omega
  ·exact h
 have h1:(g-1)*Vl<=(g-1)*D:=qk (by omega) (by omega);have h2:(g*v2)*D<=(rest*1048576+w)*D:=qA h0 (by omega);have h3:(g*v1+rest)*D=top*D:=by rw[hg]
 have h4:(g-1)*D<=(v1*1048576+v2)*D:=qA (by omega) (by omega);rw[ex2]at h2;rw[yH]at h3;rw[ex2]at h4;have e:(g-1)*V=g*V-V:=by rw[jC,yG]
 have e2:g*V=1048576*(g*v1*D)+g*v2*D+g*Vl:=by rw[hV,ex3]
 have e3:V=1048576*(v1*D)+v2*D+Vl:=by rw[hV,ex2]
 have e4:W=1048576*(top*D)+w*D+Wl:=by rw[hW,ex2]
 have e5:(g-1)*Vl=g*Vl-Vl:=by rw[jC,yG]
 have e6:(g-1)*D=g*D-D:=by rw[jC,yG]
 rw[e5,e6]at h1;rw[e6]at h4;rw[e,e2,e3,e4];clear hV hW e e2 e3 e4 e5 e6;omega
theorem jnx{g V W:Int}(hV:0<V)(h1:W<(g+1)*V)(h2:0<=W-g*V\/0<=W-(g-1)*V):
  (if 0<=W-g*V then g else g-1)=W/V/\W-(if 0<=W-g*V then g else g-1)*V=W % V:=by
 have key:∀q:Int,0<=W-q*V->W-q*V<V->q=W/V/\W-q*V=W % V:=fun q hq0 hq1=>by
  have hq:W/V=q:=by
   rw[show W=(W-q*V)+q*V by omega,Int.add_mul_ediv_right _ _ (by omega),Int.ediv_eq_zero_of_lt hq0 hq1,jc]
  refine⟨hq.symm,?_⟩;have:=qP W V;rw[hq,yk]at this;omega
 have e1:(g+1)*V=g*V+V:=by rw[yH,yG]
 have e2:(g-1)*V=g*V-V:=by rw[jC,yG]
 split
 ·rename_i h;exact key g h (by omega)
 ·rename_i h;exact key (g-1) (h2.resolve_left h) (by omega)
end
end Go.Abs
namespace Go.Proofs.YtkcekimolppapaaGreat
section
open Go.Abs
attribute [local go_sem] ints ic mb20 pw20 fd20
theorem dgt_drop(l:List Int)(i j:Nat):dgt (l.drop i) j=dgt l (i+j):=by unfold dgt;rw[qN]
theorem dgt_take_lt{l:List Int}{n j:Nat}(h:j<n):dgt (l.take n) j=dgt l j:=by unfold dgt;rw[qe,zm h]
theorem top_two{l:List Int}{n:Nat}(hl:OkD l)(hn:2<=n)(hlen:l.length=n):∃Vl,val l=(dgt l (n-1)*1048576+dgt l (n-2))*1048576^(n-2)+Vl/\0<=Vl/\Vl<1048576^(n-2):=by
 refine⟨val (l.take (n-2)),?_,jax (hl.take _),jdc hl _⟩;have h1:=jcy l (n-2);have h2:=jcn l (n-2);have h3:=jcn l (n-2+1);rw[show n-2+1=n-1 by omega]at h2 h3;rw[qd (by omega:l.length<=n-1+1),show val []=0 from rfl,ya,yo]at h3;rw[h3]at h2;rw[h2]at h1;rw[h1,yk (1048576^(n-2))];have:dgt l (n-2)+1048576*dgt l (n-1)=dgt l (n-1)*1048576+dgt l (n-2):=by omega
 rw[this];omega
theorem top_three{l:List Int}{n:Nat}(hl:OkD l)(hn:2<=n)(hlen:l.length=n+1):∃Wl,val l=((dgt l n*1048576+dgt l (n-1))*1048576+dgt l (n-2))*1048576^(n-2)+Wl/\0<=Wl/\Wl<1048576^(n-2):=by
 refine⟨val (l.take (n-2)),?_,jax (hl.take _),jdc hl _⟩;have h1:=jcy l (n-2);have h2:=jcn l (n-2);have h3:=jcn l (n-2+1);rw[show n-2+1=n-1 by omega]at h2 h3;have h4:=jcn l (n-1+1);rw[show n-1+1=n by omega]at h3 h4;rw[qd (by omega:l.length<=n+1),show val []=0 from rfl,ya,yo]at h4;rw[h4]at h3;rw[h3]at h2;rw[h2]at h1;rw[h1,yk (1048576^(n-2))];have:dgt l (n-2)+1048576*(dgt l (n-1)+1048576*dgt l n)=(dgt l n*1048576+dgt l (n-1))*1048576+dgt l (n-2):=by omega
 rw[this];omega
theorem shifted{y s n:Nat}(hn:(dig y).length=n)(hn1:1<=n)(h1:524288<=dgt (dig y) (n-1)*s)(h2:(dgt (dig y) (n-1)+1)*s<=1048576):
  (dig (y*s)).length=n/\524288<=dgt (dig (y*s)) (n-1)/\(524288:Int)*1048576^(n-1)<=((y*s:Nat):Int):=by
 have hv:=jb0 y;have ho:=jbu y;have hs:=jcy (dig y) (n-1);have hd:=jcn (dig y) (n-1);rw[qd (by omega:(dig y).length<=n-1+1),show val []=0 from rfl,ya,yo]at hd;rw[hd,hv]at hs;have h3:=jdc ho (n-1);have h4:=jax (ho.take (n-1));have hp:=jdj (n-1);have hpn:(1048576:Int)^n=1048576^(n-1)*1048576:=by rw[<-jd1,show n-1+1=n by omega]
 generalize dgt (dig y) (n-1)=t at*;generalize val ((dig y).take (n-1))=lo at*;generalize hP:(1048576:Int)^(n-1)=P at*;have hys:((y*s:Nat):Int)=lo*s+P*(t*s):=by rw[Int.natCast_mul,hs,yH,qO]
 have hs0:(0:Int)<=s:=Int.natCast_nonneg s;have e1:0<=lo*s:=qS h4 hs0;have e2:P*524288<=P*(t*s):=qk h1 (by omega);have e3:lo*s<=(P-1)*s:=qA (by omega) hs0;have e4:(P-1)*s=P*s-s:=by rw[jC,yG]
 have e5:P*((t+1)*s)<=P*1048576:=qk h2 (by omega);have e6:P*((t+1)*s)=P*(t*s)+P*s:=by rw[yH,yG,qF]
 have hspos:(1:Int)<=s:=by
  rcases yR s with h | h
  ·subst h;simp at h1
  ·omega
 have lo1:(524288:Int)*P<=((y*s:Nat):Int):=by rw[hys,yk 524288];omega
 have hi1:((y*s:Nat):Int)<1048576^n:=by rw[hys,hpn];omega
 have hle:(dig (y*s)).length<=n:=jbt hi1;have hvv:=jb0 (y*s);have hoo:=jbu (y*s);have hlen:(dig (y*s)).length=n:=by
  rcases zW (dig (y*s)).length n with h | h
  ·have g1:=jdc hoo (n-1);rw[jbw (by omega:(dig (y*s)).length<=n-1),hvv,hP]at g1;omega
  ·omega
 refine⟨hlen,?_,lo1⟩;have g1:=jcy (dig (y*s)) (n-1);have g2:=jcn (dig (y*s)) (n-1);rw[qd (by omega:(dig (y*s)).length<=n-1+1),show val []=0 from rfl,ya,yo]at g2;have g3:=jdc hoo (n-1);rw[g2,hvv,hP]at g1;rw[hP]at g3;generalize dgt (dig (y*s)) (n-1)=t' at*;rcases yE t' 524288 with h | h
 ·have:P*t'<=P*524287:=qk (by omega) (by omega);omega
 ·exact h
