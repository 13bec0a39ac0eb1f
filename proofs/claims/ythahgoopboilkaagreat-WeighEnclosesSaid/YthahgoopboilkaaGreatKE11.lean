/- A part of the proof. No further condition. -/
import Derived.Test.YthahgoopboilkaaGreatKE10
set_option linter.all false
set_option maxRecDepth 10000000
set_option maxHeartbeats 16000000
namespace Go.Proofs.YthahgoopboilkaaGreat
section
open Go.Abs
attribute [local go_sem] ints ic mb20 pw20 fd20
def padD(n v:Nat):List Int:=dig v++List.replicate (n-(dig v).length) 0
theorem val_zeros{l:List Int}(hl:OkD l)(h:val l=0):l=List.replicate l.length 0:=by
 induction l with
 | nil=>rfl
 | cons d l ih=>
  have h1:=hl.head;have h2:=jb0 hl.tail;simp only[val]at h;have h3:=ih hl.tail (by omega);rw[List.length_cons,List.replicate_succ,<-h3,show d=0 by omega]
theorem pad_eq{l:List Int}(hl:OkD l):l=padD l.length (val l).toNat:=by
 have hlen:(dig (val l).toNat).length<=l.length:=by
  refine jc1 ?_;rw[yp (jb0 hl)];exact jeh hl
 have h0:=jb0 hl;have hv:val (dig (val l).toNat)=val l:=by rw[jb1];omega
 have h1:=jd8 l (dig (val l).toNat).length;have hlt:val l<1048576^(dig (val l).toNat).length:=by
  have:=jeh (jc3 (val l).toNat);rw[hv]at this;exact this
 have h2:=jfb hl hlt;have h3:=val_zeros (hl.drop (dig (val l).toNat).length) h2;have h4:=jiz hl hlt;have h5:l.take (dig (val l).toNat).length=dig (val l).toNat:=by
  have:∀(a b:List Int),OkD a->OkD b->a.length=b.length->val a=val b->a=b:=by
   intro a
   induction a with
   | nil=>intro b _ _ h _;exact(zL h.symm).symm
   | cons d a ih=>
    intro b ha hb h hv;cases b with
    | nil=>simp at h
    | cons e b=>
     have g1:=ha.head;have g2:=hb.head;simp only[val]at hv;rw[show d=e by omega,ih b ha.tail hb.tail (by simpa using h) (by omega)]
  refine this _ _ (hl.take _) (jc3 _) (by rw[qi];omega) (by rw[h4,hv])
 conv=>lhs;rw[<-jg (dig (val l).toNat).length l]
 rw[h5,h3,y9];rfl
theorem jrq{a b out:List Int}{i:Nat}{c:Int}(hl:i+b.length<out.length)(ho:OkD out)(hz:∀j,i+b.length<=j->dgt out j=0)(hc:0<=c/\c<1048576)
  (hv:val out+1048576^(i+b.length)*c=val (a.take i)*val b+1048576^i*(dgt a i*val b)):
  OkD (out.set (i+b.length) c)/\(out.set (i+b.length) c).length=out.length/\val (out.set (i+b.length) c)=val (a.take (i+1))*val b/\∀j,i+1+b.length<=j->dgt (out.set (i+b.length) c) j=0:=by
 refine⟨ho.set hc,qf,?_,fun j hj=> ?_⟩
 ·rw[jg4 _ _ _ hl,hz _ (zB _),jp,hv,jci,yV,qR]
 ·have:=hz j (by omega);unfold dgt at this⊢;rw[yT (by omega)];exact this
theorem t_pmul(a b:List Int)(ha:OkD a)(hb:OkD b)(la:a.length<=100000000000)(lb:b.length<=100000000000):Ctr G.P 152 [ints a,ints b] (· =ints (dig (val a*val b).toNat)):=by
 have w0:=ja9 (n:=(a.length:Int)+b.length) (by omega);have w00:((a.length:Int)+b.length)*8<=140737488355328:=by omega
 have w01:(0:Int)<=(a.length:Int)+b.length:=by omega
 have w02:((a.length:Int)+b.length).toNat=a.length+b.length:=by omega
 refine ja5 [.tmp 4] Tryz.func152 ?_;simp only[w0,w00,w01,w02,go_sem];refine jal [1,5,18,19,20] [17] (fun g:Nat×List Int=>⟨[(1,.im (.sl (b.map ic))),(5,.gsl 17 3 1 (a.length+b.length)),(18,.im (.sl (a.map ic))),(19,.im (.int a.length)),(20,.im (.int g.1))],[(17,1,g.2.map ic)],[]⟩)
  (fun g=>g.1<=a.length/\g.2.length=a.length+b.length/\OkD g.2/\val g.2=val (a.take g.1)*val b/\∀j,g.1+b.length<=j->dgt g.2 j=0) (fun g=>a.length-g.1) (0,List.replicate (a.length+b.length) 0) ?_
  ⟨zE _,zW,OkD.replicate _,by dsimp only;rw[jdq];simp[val],fun j _=>by
   unfold dgt;rw[qY];split<;>rfl⟩ ?_
 ·simp only[Int.natCast_zero,yR,zW,go_sem]
 intro⟨i,out0⟩ ⟨hi,hl0,ho0,hv0,hz0⟩;dsimp only at hi hl0 ho0 hv0 hz0;by_cases hp:(i:Int)<a.length
 case neg=>
  have hd:decide ((i:Int)<a.length)=false:=zq hp;rw[jc5 (l:=a) (i:=i) (by omega)]at hv0;have ht:=jf4 out0 ho0 (by omega);rw[hv0]at ht;have hall:(out0.map ic).take (a.length+b.length)=out0.map ic:=zt (by rw[zw];omega);have hle:a.length+b.length<=out0.length:=by omega
  simp only[ints]at ht;simp only[hd,hle,hall,go_sem];refine ja1 ht ?_;simp only[go_sem]
 case pos=>
  have hd:decide ((i:Int)<a.length)=true:=za hp;have hx:=jb2 hp;have h1:=ja9 (n:=(i:Int)+1) (by omega);simp only[hd,ze,hx,go_sem];refine jal [1,5,6,7,8,18,19,20,25,26,27] [17] (fun g:Nat×List Int×Int=>⟨[(1,.im (.sl (b.map ic))),(5,.gsl 17 3 1 (a.length+b.length)),(6,.im (.int i)),(7,.im (.int (dgt a i))),(8,.im (.int g.2.2)),(18,.im (.sl (a.map ic))),(19,.im (.int a.length)),(20,.im (.int i)),(25,.im (.sl (b.map ic))),(26,.im (.int b.length)),(27,.im (.int g.1))],[(17,1,g.2.1.map ic)],[]⟩)
   (fun g=>g.1<=b.length/\g.2.1.length=a.length+b.length/\OkD g.2.1/\0<=g.2.2/\g.2.2<1048576/\val g.2.1+1048576^(i+g.1)*g.2.2=val (a.take i)*val b+1048576^i*(dgt a i*val (b.take g.1))/\∀j,i+b.length<=j->dgt g.2.1 j=0)
   (fun g=>b.length-g.1) (0,out0,0) ?_ ⟨zE _,hl0,ho0,qj _,by dsimp only;omega,by dsimp only;rw[List.take_zero,hv0];simp[val],hz0⟩ ?_
  ·simp only[Int.natCast_zero,go_sem]
  intro⟨k,out,c⟩ ⟨hk,hl,ho,hc0,hc1,hv,hz⟩;dsimp only at hk hl ho hc0 hc1 hv hz;by_cases hkl:(k:Int)<b.length
  case neg=>
   have d1:decide ((k:Int)<b.length)=false:=zq hkl;have hkb:k=b.length:=by omega
   subst hkb;rw[jc5 (l:=b) (zB _)]at hv;obtain⟨g1,g2,g3,g4⟩:=jrq (a:=a) (by omega) ho hz ⟨hc0,hc1⟩ hv;have w1:=ja9 (n:=(i:Int)+b.length) (by omega);have hjn:((i:Int)+b.length).toNat=i+b.length:=by omega
   have hj0:(0:Int)<=(i:Int)+b.length:=by omega
   have hjl:(i:Int)+b.length<((a.length+b.length:Nat):Int):=by omega
   have hy:out[i+b.length]? =some (dgt out (i+b.length)):=jb2 (by omega);rw[hz _ (zB _)]at hy;have w2:=ja9 (n:=0+c) (by omega);rw[jo]at w2;simp only[d1,w1,hjn,hj0,hjl,ze,hy,w2,jo,go_sem];refine jab (i+1,out.set (i+b.length) c) ?_ ?_ ⟨?_,?_,g1,g3,g4⟩
   ·simp only[h1,Int.natCast_add,qP,go_sem]
   ·show a.length-(i+1)<a.length-i;omega
   ·show i+1<=a.length;omega
   ·show(out.set (i+b.length) c).length=_;rw[g2];exact hl
  case pos=>
   have d1:decide ((k:Int)<b.length)=true:=za hkl;have hyb:=jb2 hkl;have hda:=ha.dgt i;have hdb:=hb.dgt k;have hdo:=ho.dgt (i+k);have hmul:=jky hda hdb;have w1:=ja9 (n:=(i:Int)+k) (by omega);have w2:=ja9 (n:=dgt a i*dgt b k) (by omega);have w3:=ja9 (n:=dgt out (i+k)+dgt a i*dgt b k) (by omega);have w4:=ja9 (n:=dgt out (i+k)+dgt a i*dgt b k+c) (by omega);have w5:=ja9 (n:=(k:Int)+1) (by omega);have hjn:((i:Int)+k).toNat=i+k:=by omega
   have hj0:(0:Int)<=(i:Int)+k:=by omega
   have hjl:(i:Int)+k<((a.length+b.length:Nat):Int):=by omega
   have hy:out[i+k]? =some (dgt out (i+k)):=jb2 (by omega);have hs:=jmc (out:=out) (b:=b) (j:=i+k) (i:=i) (k:=k) (c:=c) (x:=dgt a i) (V:=val (a.take i)*val b) rfl (by omega) hv rfl;generalize hn:dgt out (i+k)+dgt a i*dgt b k+c=n at*;have a1:=and20 n;simp only[d1,ze,hyb,w1,w2,hjn,hj0,hjl,hy,w3,hn,w4,a1,go_sem];refine jab (k+1,out.set (i+k) (n % 1048576),n/1048576) ?_ ?_ ⟨?_,?_,ho.set (by omega),?_,?_,hs,fun j hj=> ?_⟩
   ·simp only[w5,hn,w4,Int.natCast_add,qP,go_sem]
   ·show b.length-(k+1)<b.length-k;omega
   ·show k+1<=b.length;omega
   ·show(out.set (i+k) _).length=_;rw[qf];exact hl
   ·show 0<=n/1048576;omega
   ·show n/1048576<1048576;omega
   ·have:=hz j hj;unfold dgt at this⊢;rw[yT (by omega)];exact this
theorem t_pmulO(a b:List Int)(ha:OkD a)(hb:OkD b)(la:a.length<=100000000000)(lb:b.length<=100000000000):
  CtrM G.P 152 [.im (ints a),.im (ints b)] [] (fun r Es new=>r= .gsl 901 3 1 (dig (val a*val b).toNat).length/\Es=[]/\new=some (1,(padD (a.length+b.length) (val a*val b).toNat).map ic)):=by
 have w0:=ja9 (n:=(a.length:Int)+b.length) (by omega);have w00:((a.length:Int)+b.length)*8<=140737488355328:=by omega
 have w01:(0:Int)<=(a.length:Int)+b.length:=by omega
 have w02:((a.length:Int)+b.length).toNat=a.length+b.length:=by omega
 refine jo1 good _ _ [.tmp 4] Tryz.func152 rfl rfl (by decide+kernel) rfl rfl (by simp) ?_;simp only[w0,w00,w01,w02,go_sem];refine jal [1,5,18,19,20] [17] (fun g:Nat×List Int=>⟨[(1,.im (.sl (b.map ic))),(5,.gsl 17 3 1 (a.length+b.length)),(18,.im (.sl (a.map ic))),(19,.im (.int a.length)),(20,.im (.int g.1))],[(17,1,g.2.map ic)],[]⟩)
  (fun g=>g.1<=a.length/\g.2.length=a.length+b.length/\OkD g.2/\val g.2=val (a.take g.1)*val b/\∀j,g.1+b.length<=j->dgt g.2 j=0) (fun g=>a.length-g.1) (0,List.replicate (a.length+b.length) 0) ?_
  ⟨zE _,zW,OkD.replicate _,by dsimp only;rw[jdq];simp[val],fun j _=>by
   unfold dgt;rw[qY];split<;>rfl⟩ ?_
 ·simp only[Int.natCast_zero,yR,zW,go_sem]
 intro⟨i,out0⟩ ⟨hi,hl0,ho0,hv0,hz0⟩;dsimp only at hi hl0 ho0 hv0 hz0;by_cases hp:(i:Int)<a.length
 case neg=>
  have hd:decide ((i:Int)<a.length)=false:=zq hp;rw[jc5 (l:=a) (i:=i) (by omega)]at hv0;have ht:=t_ptrimO out0 ho0 (by omega);rw[hv0,hl0]at ht;have hpad:=pad_eq ho0;rw[hl0,hv0]at hpad;have hall:(out0.map ic).take (a.length+b.length)=out0.map ic:=zt (by rw[zw];omega);have hle:a.length+b.length<=out0.length:=by omega
  simp only[hd,hle,hall,go_sem];refine jm4 [(900,17)] (ht) (by decide) (by simp) (by simp[rnm,look]) (by repeat' (first | exact trivial | refine⟨rfl,?_⟩)) rfl rfl rfl rfl ?_ rfl;simp only[hpad,j0,go_sem]
 case pos=>
  have hd:decide ((i:Int)<a.length)=true:=za hp;have hx:=jb2 hp;have h1:=ja9 (n:=(i:Int)+1) (by omega);simp only[hd,ze,hx,go_sem];refine jal [1,5,6,7,8,18,19,20,25,26,27] [17] (fun g:Nat×List Int×Int=>⟨[(1,.im (.sl (b.map ic))),(5,.gsl 17 3 1 (a.length+b.length)),(6,.im (.int i)),(7,.im (.int (dgt a i))),(8,.im (.int g.2.2)),(18,.im (.sl (a.map ic))),(19,.im (.int a.length)),(20,.im (.int i)),(25,.im (.sl (b.map ic))),(26,.im (.int b.length)),(27,.im (.int g.1))],[(17,1,g.2.1.map ic)],[]⟩)
   (fun g=>g.1<=b.length/\g.2.1.length=a.length+b.length/\OkD g.2.1/\0<=g.2.2/\g.2.2<1048576/\val g.2.1+1048576^(i+g.1)*g.2.2=val (a.take i)*val b+1048576^i*(dgt a i*val (b.take g.1))/\∀j,i+b.length<=j->dgt g.2.1 j=0)
   (fun g=>b.length-g.1) (0,out0,0) ?_ ⟨zE _,hl0,ho0,qj _,by dsimp only;omega,by dsimp only;rw[List.take_zero,hv0];simp[val],hz0⟩ ?_
  ·simp only[Int.natCast_zero,go_sem]
  intro⟨k,out,c⟩ ⟨hk,hl,ho,hc0,hc1,hv,hz⟩;dsimp only at hk hl ho hc0 hc1 hv hz;by_cases hkl:(k:Int)<b.length
  case neg=>
   have d1:decide ((k:Int)<b.length)=false:=zq hkl;have hkb:k=b.length:=by omega
   subst hkb;rw[jc5 (l:=b) (zB _)]at hv;obtain⟨g1,g2,g3,g4⟩:=jrq (a:=a) (by omega) ho hz ⟨hc0,hc1⟩ hv;have w1:=ja9 (n:=(i:Int)+b.length) (by omega);have hjn:((i:Int)+b.length).toNat=i+b.length:=by omega
   have hj0:(0:Int)<=(i:Int)+b.length:=by omega
   have hjl:(i:Int)+b.length<((a.length+b.length:Nat):Int):=by omega
   have hy:out[i+b.length]? =some (dgt out (i+b.length)):=jb2 (by omega);rw[hz _ (zB _)]at hy;have w2:=ja9 (n:=0+c) (by omega);rw[jo]at w2;simp only[d1,w1,hjn,hj0,hjl,ze,hy,w2,jo,go_sem];refine jab (i+1,out.set (i+b.length) c) ?_ ?_ ⟨?_,?_,g1,g3,g4⟩
   ·simp only[h1,Int.natCast_add,qP,go_sem]
   ·show a.length-(i+1)<a.length-i;omega
   ·show i+1<=a.length;omega
   ·show(out.set (i+b.length) c).length=_;rw[g2];exact hl
  case pos=>
   have d1:decide ((k:Int)<b.length)=true:=za hkl;have hyb:=jb2 hkl;have hda:=ha.dgt i;have hdb:=hb.dgt k;have hdo:=ho.dgt (i+k);have hmul:=jky hda hdb;have w1:=ja9 (n:=(i:Int)+k) (by omega);have w2:=ja9 (n:=dgt a i*dgt b k) (by omega);have w3:=ja9 (n:=dgt out (i+k)+dgt a i*dgt b k) (by omega);have w4:=ja9 (n:=dgt out (i+k)+dgt a i*dgt b k+c) (by omega);have w5:=ja9 (n:=(k:Int)+1) (by omega);have hjn:((i:Int)+k).toNat=i+k:=by omega
   have hj0:(0:Int)<=(i:Int)+k:=by omega
   have hjl:(i:Int)+k<((a.length+b.length:Nat):Int):=by omega
   have hy:out[i+k]? =some (dgt out (i+k)):=jb2 (by omega);have hs:=jmc (out:=out) (b:=b) (j:=i+k) (i:=i) (k:=k) (c:=c) (x:=dgt a i) (V:=val (a.take i)*val b) rfl (by omega) hv rfl;generalize hn:dgt out (i+k)+dgt a i*dgt b k+c=n at*;have a1:=and20 n;simp only[d1,ze,hyb,w1,w2,hjn,hj0,hjl,hy,w3,hn,w4,a1,go_sem];refine jab (k+1,out.set (i+k) (n % 1048576),n/1048576) ?_ ?_ ⟨?_,?_,ho.set (by omega),?_,?_,hs,fun j hj=> ?_⟩
   ·simp only[w5,hn,w4,Int.natCast_add,qP,go_sem]
   ·show b.length-(k+1)<b.length-k;omega
   ·show k+1<=b.length;omega
   ·show(out.set (i+k) _).length=_;rw[qf];exact hl
   ·show 0<=n/1048576;omega
   ·show n/1048576<1048576;omega
   ·have:=hz j hj;unfold dgt at this⊢;rw[yT (by omega)];exact this
end
section
open Go.Abs
attribute [local go_sem] ints ic
end
section
open Go.Abs
attribute [local go_sem] ints ic
end
section
open Go.Abs
attribute [local go_sem] ints ic
def okd(d:Int):Bool:= !decide (d<0)&& !decide (1048576<=d)
def jei(s:Int)(l:List Int):Bool:=
 l.all okd&&(!decide (s< -1)&&(!decide (1<s)&&((decide ((l.length:Int)=0)==decide (s=0))&&(decide ((l.length:Int)=0) || !decide (dgt l (l.length-1)=0)))))
theorem okd_iff{d:Int}:okd d=true↔0<=d/\d<1048576:=by simp[okd]
theorem all_okd{l:List Int}:l.all okd=true↔OkD l:=by
 rw[List.all_eq_true];exact⟨fun h d hd=>okd_iff.1 (h d hd),fun h d hd=>okd_iff.2 (h d hd)⟩
theorem all_okd_succ{l:List Int}{i:Nat}(h:(i:Int)<l.length):(l.take (i+1)).all okd=((l.take i).all okd&&okd (dgt l i)):=by
 have hx:=jb2 h;rw[yJ,hx,js];simp
end
section
open Go.Abs
def big(z:Int):IV:= .agg [.int z.sign,ints (dig z.natAbs)]
theorem jkr(z:Int):jei z.sign (dig z.natAbs)=true:=by
 have h1:(dig z.natAbs).all okd=true:=all_okd.2 (jc3 _);have hs: -1<=z.sign/\z.sign<=1:=by
  rcases yc z 0 with h | h | h
  ·rw[zP h];omega
  ·subst h;decide
  ·rw[zU h];omega
 have hz:(dig z.natAbs=[])↔z.sign=0:=by
  rw[dig_nil,yN];omega
 simp only[jei,h1,qe,zr,yL,qg,jz,qX,zK];refine⟨by omega,by omega,?_,?_⟩
 ·rw[yG,<-hz];constructor
  ·intro h;exact ye.1 (by omega)
  ·intro h;rw[h];rfl
 ·by_cases h:dig z.natAbs=[]
  ·left;rw[h];rfl
  ·right;intro h2;have h3:=jnt z.natAbs;rw[jq]at h3;have h4:=qV.2 h;have h5:=jb2 (l:=dig z.natAbs) (i:=(dig z.natAbs).length-1) (by omega);rw[h5,h2]at h3;exact h3 rfl
theorem jj0(z:Int): -1<=z.sign/\z.sign<=1:=by
 rcases yc z 0 with h | h | h
 ·rw[zP h];omega
 ·subst h;decide
 ·rw[zU h];omega
attribute [local go_sem] ints ic big
theorem jl2{a b:Nat}{k m:Nat}(ha:(dig a).length<=k)(hb:(dig b).length<=m):(dig (a*b)).length<=k+m:=by
 refine jc1 ?_;have h1:(a:Int)<1048576^k:=by
  have:=jeh (jc3 a);rw[jb1]at this;exact vt this (by
   have h3:=vy.2 (q7 (n:=1048576) (by omega) ha);rw[Int.natCast_pow,Int.natCast_pow]at h3;exact h3)
 have h2:(b:Int)<1048576^m:=by
  have:=jeh (jc3 b);rw[jb1]at this;exact vt this (by
   have h3:=vy.2 (q7 (n:=1048576) (by omega) hb);rw[Int.natCast_pow,Int.natCast_pow]at h3;exact h3)
 have g1:a<1048576^k:=vH.1 (by rw[Int.natCast_pow];exact h1);have g2:b<1048576^m:=vH.1 (by rw[Int.natCast_pow];exact h2);have g3:=vH.2 (Nat.mul_lt_mul'' g1 g2);rw[<-Nat.pow_add,Int.natCast_pow]at g3;exact g3
end
section
open Go.Abs
attribute [local go_sem] ints ic big
theorem jor{l m:List Int}{i:Nat}(h:l.take i=m.take i)(hl:(i:Int)<l.length)(hm:(i:Int)<m.length)(hd:dgt l i=dgt m i):l.take (i+1)=m.take (i+1):=by
 rw[yJ,yJ,h,jb2 hl,jb2 hm,hd]
theorem jpi{l m:List Int}{i:Nat}(h:dgt l i≠dgt m i):l≠m:=fun e=>h (by rw[e])
theorem dig_inj{a b:Nat}(h:dig a=dig b):a=b:=by
 have h1:=jb1 a;rw[h,jb1]at h1;omega
theorem jjc{a b:Int}:(decide (a.sign=b.sign)&&decide (dig a.natAbs=dig b.natAbs))=decide (a=b):=by
 rw[je];simp only[zr,zK];constructor
 ·intro⟨h1,h2⟩;have h3:=dig_inj h2;have h4:=Int.sign_mul_natAbs a;have h5:=Int.sign_mul_natAbs b;rw[<-h4,<-h5,h1,h3]
 ·intro h;subst h;exact⟨rfl,rfl⟩
def cmpI(a b:Int):Int:=if a<b then-1 else if a=b then 0 else 1
theorem sign_lt{a b:Int}(h:a.sign<b.sign):a<b:=by
 rcases yc a 0 with h1 | h1 | h1<;>rcases yc b 0 with h2 | h2 | h2<;>
  simp[zP,zU, *]at h<;>omega
end
section
open Go.Abs
attribute [local go_sem] ints ic big
theorem jh7{n k:Nat}(h:(dig n).length<=k):(n:Int)<1048576^k:=by
 have:=jeh (jc3 n);rw[jb1]at this;exact vt this (by
  have h3:=vy.2 (q7 (n:=1048576) (by omega) h);rw[Int.natCast_pow,Int.natCast_pow]at h3;exact h3)
theorem len_add{n a b k:Nat}(ha:(dig a).length<=k)(hb:(dig b).length<=k)(h:n<=a+b):(dig n).length<=k+1:=by
 refine jc1 ?_;have h1:=jh7 ha;have h2:=jh7 hb;rw[jdb];omega
end
section
open Go.Abs
attribute [local go_sem] ints ic
end
section
open Go.Abs
attribute [local go_sem] ints ic big
theorem jdc{n m k:Nat}(h:n<=m)(hm:(dig m).length<=k):(dig n).length<=k:=jc1 (by have:=jh7 hm;omega)
end
section
open Go.Abs
attribute [local go_sem] ints ic mb20 pw20 fd20
theorem t_nan(x:Int):Ctr G.P 122 [.int x] (· = .bool false):=by
 refine ja5 [.tmp 2] Tryz.func122 ?_;simp only[j0,go_sem]
theorem t_cmp(x y:Int):Ctr G.P 88 [.int x,.int y] (· = .int (cmpI x y)):=by
 have h1:=t_nan x;have h2:=t_nan y;refine ja5 [.tmp 4] Tryz.func88 ?_;simp only[go_sem];refine ja1 h1 ?_;simp only[go_sem];refine ja1 h2 ?_;simp only[go_sem];refine jcy (fun d1 d1'=> ?_) (fun d1 d1'=> ?_)
 ·have:cmpI x y= -1:=zm d1';rw[this];simp only[d1,go_sem]
 ·simp only[d1,go_sem];refine jcy (fun d2 d2'=> ?_) (fun d2 d2'=> ?_)
  ·have:cmpI x y=1:=by rw[cmpI,zn d1',zn (by omega)]
   rw[this];simp only[d1,d2,go_sem]
  ·have:cmpI x y=0:=by rw[cmpI,zn d1',zm (by omega)]
   rw[this];simp only[d1,d2,go_sem]
theorem cmp_len{n m:Nat}(h:(dig n).length≠(dig m).length):cmpI ((dig n).length:Int) ((dig m).length:Int)=cmpI (n:Int) (m:Int):=by
 rcases vn h with h1 | h1
 ·have:n<m:=by
   rcases zT n m with h2 | h2
   ·exact h2
   ·have:=jdc h2 (zB _);omega
  rw[cmpI,cmpI,zm (by omega),zm (by omega)]
 ·have:m<n:=by
   rcases zT m n with h2 | h2
   ·exact h2
   ·have:=jdc h2 (zB _);omega
  rw[cmpI,cmpI,zn (by omega),zn (by omega),zn (by omega),zn (by omega)]
theorem cmp_dgt{a b:List Int}(ha:OkD a)(hb:OkD b){m:Nat}(h:∀j,m<j->dgt a j=dgt b j)(hne:dgt a m≠dgt b m):cmpI (dgt a m) (dgt b m)=cmpI (val a) (val b):=by
 rcases yh hne with h1 | h1
 ·have:=lt_at ha hb m h h1;rw[cmpI,cmpI,zm h1,zm this]
 ·have:=lt_at hb ha m (fun j hj=>(h j hj).symm) h1;rw[cmpI,cmpI,zn (by omega),zn (by omega),zn (by omega),zn (by omega)]
theorem jfs(x y:Nat)(lx:(dig x).length<=1000000000000)(ly:(dig y).length<=1000000000000):Ctr G.P 111 [ints (dig x),ints (dig y)] (· = .int (cmpI (x:Int) (y:Int))):=by
 by_cases hl:(dig x).length=(dig y).length
 case neg=>
  have hc:=t_cmp ((dig x).length:Int) ((dig y).length:Int);rw[cmp_len hl]at hc;have hd:decide (((dig x).length:Int)=(dig y).length)=false:=zq (by omega);refine ja5 [.tmp 4] Tryz.func111 ?_;simp only[hd,go_sem];refine ja1 hc ?_;simp only[go_sem]
 case pos=>
  have hvx:=jb1 x;have hvy:=jb1 y;have hox:=jc3 x;have hoy:=jc3 y;generalize dig x=a at*;generalize dig y=b at*;rw[<-hvx,<-hvy];have hli:(a.length:Int)=b.length:=by omega
  have hw:=ja9 (n:=(b.length:Int)-1) (by omega);refine ja5 [.tmp 4] Tryz.func111 ?_;simp only[hli,j0,hw,go_sem];refine jal [0,1,5] [] (fun n:Nat=>⟨[(0,.im (.sl (a.map ic))),(1,.im (.sl (b.map ic))),(5,.im (.int ((n:Int)-1)))],[],[]⟩) (fun n=>n<=b.length/\∀j,n<=j->dgt a j=dgt b j) (fun n=>n) b.length ?_
   ⟨zB _,fun j hj=>by rw[jew (by omega),jew (by omega)]⟩ ?_
  ·simp only[hw,go_sem]
  intro n ⟨hn,hz⟩;rcases n with _ | m
  ·have hd:decide ((0:Int)<=((0:Nat):Int)-1)=false:=by decide
   have hv:val a=val b:=jrc fun j=>hz j (zE _);have hv':cmpI (val a) (val b)=0:=by rw[cmpI,zn (by omega),zm hv]
   rw[hv'];simp only[hd,go_sem]
  ·have h2:((m+1:Nat):Int)-1=m:=by omega
   have hd:decide ((0:Int)<=(m:Int))=true:=za (by omega);have h3:=ja9 (n:=(m:Int)-1) (by omega);have hx:=jb2 (l:=a) (i:=m) (by omega);have hy:=jb2 (l:=b) (i:=m) (by omega);simp only[h2,hd,go_sem];refine jac 9 ?_;simp only[h2,ze,hx,hy,go_sem];refine jcy (fun he he'=> ?_) (fun he he'=> ?_)
   ·simp only[h2,he,go_sem];refine jab m ?_ (by omega) ⟨by omega,fun j hj=> ?_⟩
    ·simp only[h2,h3,go_sem]
    ·rcases zT m j with h | h
     ·exact hz j h
     ·rw[show j=m by omega];exact he'
   ·have hc:=t_cmp (dgt a m) (dgt b m);rw[cmp_dgt hox hoy (fun j hj=>hz j hj) he']at hc;simp only[h2,he,go_sem];refine jac 10 ?_;simp only[h2,ze,hx,hy,go_sem];refine ja4 hc (by decide) ?_;simp only[go_sem]
end
section
open Go.Abs
attribute [local go_sem] ints ic mb20 pw20 fd20
def winL(U:List Int)(i:Nat)(X:List Int):List Int:=U.take i++X++U.drop (i+X.length)
theorem jr2{U X:List Int}{i:Nat}(h:i+X.length<=U.length):(winL U i X).length=U.length:=by
 simp only[winL,zH,qi,y9];omega
theorem jr3{U X:List Int}{i k:Nat}(hi:i<=U.length)(hk:k<X.length):(winL U i X)[i+k]? =some (dgt X k):=by
 have hl:(U.take i).length=i:=by rw[qi];omega
 rw[winL,qv,zR (by omega),hl,j8,zM hk];exact jb2 (by omega)
theorem jr0{U X:List Int}{i k:Nat}{y:Int}(hi:i<=U.length)(hk:k<X.length):(winL U i X).set (i+k) y=winL U i (X.set k y):=by
 have hl:(U.take i).length=i:=by rw[qi];omega
 rw[winL,winL,qf,qv,qv,List.set_append_right _ _ (by omega),hl,j8,List.set_append_left _ _ hk]
theorem winL_self{U:List Int}{i m:Nat}(h:i+m<=U.length):winL U i ((U.drop i).take m)=U:=by
 have hl:((U.drop i).take m).length=m:=by rw[qi,y9];omega
 rw[winL,hl,qv,<-vd,jg,jg]
theorem mul_step{out v:List Int}{k:Nat}{c n g V:Int}(hi:k<out.length)(h:val out-1048576^k*c=V-g*val (v.take k))(hn:n=dgt out k-c-g*dgt v k):
  val (out.set k (n % 1048576))-1048576^(k+1)* -(n/1048576)=V-g*val (v.take (k+1)):=by
 rw[jg4 _ _ _ hi,jci,jdb];generalize (1048576:Int)^k=p at*;have e0:=qU n 1048576;have e:p*(n % 1048576-dgt out k)-p*1048576* -(n/1048576)=p*(n-dgt out k):=by
  rw[qR,<-vf];congr 1;omega
 have e2:p*(n-dgt out k)= -(p*(g*dgt v k))-p*c:=by
  rw[hn,show dgt out k-c-g*dgt v k-dgt out k= -(g*dgt v k)-c by omega,vf,ja]
 have e3:g*(val (v.take k)+p*dgt v k)=g*val (v.take k)+p*(g*dgt v k):=by rw[qI,j3]
 rw[e3];omega
theorem back_step{out v:List Int}{k:Nat}{c n V:Int}(hi:k<out.length)(h:val out+1048576^k*c=V+val (v.take k))(hn:n=c+dgt out k+dgt v k):
  val (out.set k (n % 1048576))+1048576^(k+1)*(n/1048576)=V+val (v.take (k+1)):=by
 rw[jg4 _ _ _ hi,jci,jdb];generalize (1048576:Int)^k=p at*;have e0:=qU n 1048576;have e:p*(n % 1048576-dgt out k)+p*1048576*(n/1048576)=p*(n-dgt out k):=by
  rw[qR,<-qI];congr 1;omega
 have e2:p*(n-dgt out k)=p*c+p*dgt v k:=by
  rw[hn,show c+dgt out k+dgt v k-dgt out k=c+dgt v k by omega,qI]
 omega
def jgq(w v g:Int):Int:=if 0<=w-g*v then g else g-1
theorem jr8(U W v:List Int)(i0 n:Nat)(g:Int)(hW:OkD W)(hv:OkD v)(lW:W.length=n+1)(lv:v.length=n)(hU:i0+(n+1)<=U.length)(hU2:U.length<=10000000000000)
  (hg:0<=g/\g<1048576) (hq:0<=val W-g*val v\/0<=val W-(g-1)*val v):
  CtrM G.P 193 [.osl 900 1 i0 (n+1),.im (ints v),.im (.int g)] [(900,1,(winL U i0 W).map ic)]
   (fun r Es new=>r= .im (.int (jgq (val W) (val v) g))/\Es=[(winL U i0 (padD (n+1) (val W-jgq (val W) (val v) g*val v).toNat)).map ic]/\new=none):=by
 have hWl:=jeh hW;have hv0:=jb0 hv;have hgv:0<=g*val v:=qZ hg.1 hv0;rw[lW]at hWl;refine jo1 good _ _ [.tmp 6] Tryz.func193 rfl rfl (by decide+kernel) rfl rfl (by simp) ?_;simp only[go_sem];refine jal [0,1,2,7,12,13,14] [900] (fun s:Nat×List Int×Int=>⟨[(0,.osl 900 1 i0 (n+1)),(1,.im (.sl (v.map ic))),(2,.im (.int g)),(7,.im (.int s.2.2)),(12,.osl 900 1 i0 (n+1)),(13,.im (.int ((n+1:Nat):Int))),(14,.im (.int s.1))],[(900,1,(winL U i0 s.2.1).map ic)],[]⟩)
  (fun s=>s.1<=n+1/\s.2.1.length=n+1/\OkD s.2.1/\0<=s.2.2/\s.2.2<=1048576/\val s.2.1-1048576^s.1*s.2.2=val W-g*val (v.take s.1)) (fun s=>n+1-s.1) (0,W,0) ?_
  ⟨zE _,lW,hW,qj _,by dsimp only;omega,by dsimp only;simp[val]⟩ ?_
 ·simp only[Int.natCast_zero,go_sem]
 intro⟨k,X,c⟩ ⟨hk,lX,hX,hc0,hc1,hinv⟩;dsimp only at hk lX hX hc0 hc1 hinv;by_cases hp:(k:Int)<((n+1:Nat):Int)
 case pos=>
  have hd:decide ((k:Int)<((n+1:Nat):Int))=true:=za hp;have hdX:=hX.dgt k;have hdv:=hv.dgt k;have hmul:=jky hg hdv;have h1:=ja9 (n:=(k:Int)+1) (by omega);have hy:=jr3 (U:=U) (X:=X) (i:=i0) (k:=k) (by omega) (by omega);have w0:=ja9 (n:=g*dgt v k) (by omega);have w1:=ja9 (n:=dgt X k-c) (by omega);have w2:=ja9 (n:=dgt X k-c-g*dgt v k) (by omega);have hs:=mul_step (by omega:k<X.length) hinv rfl;generalize hN:dgt X k-c-g*dgt v k=t at*;have a1:=and20 t;have a2:=ja9 (n:=0-t/1048576) (by omega);have hset:((winL U i0 X).map ic).set (i0+k) [.sc (.int .i64 (t % 1048576))]=(winL U i0 (X.set k (t % 1048576))).map ic:=by
   rw[<-jr0 (by omega) (by omega),qP];rfl
  have e0:0-t/1048576= -(t/1048576):=by omega
  rw[e0]at a2;have fin:(0<= -(t/1048576)/\ -(t/1048576)<=1048576)/\(X.set k (t % 1048576)).length=n+1/\OkD (X.set k (t % 1048576)):=
   ⟨by omega,by rw[qf];exact lX,hX.set (by omega)⟩
  obtain⟨f1,f2,f3⟩:=fin;by_cases hbl:(k:Int)<v.length
  ·have hd2:decide ((k:Int)<v.length)=true:=za hbl;have hxb:=jb2 hbl;simp only[hd,hp,hd2,ze,hxb,hy,w0,w1,hN,w2,a1,a2,hset,e0,go_sem];refine jab (k+1,X.set k (t % 1048576),-(t/1048576)) ?_ ?_ ⟨?_,f2,f3,f1.1,f1.2,hs⟩
   ·simp only[h1,Int.natCast_add,go_sem]
   ·show n+1-(k+1)<n+1-k;omega
   ·show k+1<=n+1;omega
  ·have hd2:decide ((k:Int)<v.length)=false:=zq hbl;have hb0:dgt v k=0:=jew (by omega);rw[hb0,ym,jp]at hN;rw[hN]at w1;simp only[hd,hp,hd2,ze,hy,hN,w1,a1,a2,hset,e0,go_sem];refine jab (k+1,X.set k (t % 1048576),-(t/1048576)) ?_ ?_ ⟨?_,f2,f3,f1.1,f1.2,hs⟩
   ·simp only[h1,Int.natCast_add,go_sem]
   ·show n+1-(k+1)<n+1-k;omega
   ·show k+1<=n+1;omega
 case neg=>
  have hd:decide ((k:Int)<((n+1:Nat):Int))=false:=zq hp;have hkn:k=n+1:=by omega
  subst hkn;rw[jc5 (l:=v) (by omega)]at hinv;have hXl:=jeh hX;have hX0:=jb0 hX;rw[lX]at hXl;by_cases hc:c=0
  ·subst hc;rw[ym,jp]at hinv;have hset:jgq (val W) (val v) g=g:=zm (by omega);have hpad:=pad_eq hX;rw[lX,hinv]at hpad;rw[hset];simp only[hd,<-hpad,j0,go_sem]
  ·have hcd:decide (c=0)=false:=zq hc;have hP:=jdl (n+1);have hcm:1048576^(n+1)*1<=1048576^(n+1)*c:=qm (by omega) (by omega);have hneg:¬0<=val W-g*val v:=by omega
   have hset:jgq (val W) (val v) g=g-1:=zn hneg;have hq':=hq.resolve_left hneg;rw[hset];have wg:=ja9 (n:=g-1) (by omega);simp only[hd,hcd,go_sem];refine jal [0,1,2,10,47,48,49] [900] (fun s:Nat×List Int×Int=>⟨[(0,.osl 900 1 i0 (n+1)),(1,.im (.sl (v.map ic))),(2,.im (.int g)),(10,.im (.int s.2.2)),(47,.osl 900 1 i0 (n+1)),(48,.im (.int ((n+1:Nat):Int))),(49,.im (.int s.1))],[(900,1,(winL U i0 s.2.1).map ic)],[]⟩)
    (fun s=>s.1<=n+1/\s.2.1.length=n+1/\OkD s.2.1/\0<=s.2.2/\s.2.2<=1/\val s.2.1+1048576^s.1*s.2.2=val X+val (v.take s.1)) (fun s=>n+1-s.1) (0,X,0) ?_
    ⟨zE _,lX,hX,qj _,by dsimp only;omega,by dsimp only;simp[val]⟩ ?_
   ·simp only[Int.natCast_zero,go_sem]
   intro⟨k,Y,e⟩ ⟨hk2,lY,hY,he0,he1,hinv2⟩;dsimp only at hk2 lY hY he0 he1 hinv2;by_cases hp2:(k:Int)<((n+1:Nat):Int)
   case pos=>
    have hd3:decide ((k:Int)<((n+1:Nat):Int))=true:=za hp2;have hdY:=hY.dgt k;have hdv:=hv.dgt k;have h1:=ja9 (n:=(k:Int)+1) (by omega);have hy:=jr3 (U:=U) (X:=Y) (i:=i0) (k:=k) (by omega) (by omega);have w1:=ja9 (n:=e+dgt Y k) (by omega);have w2:=ja9 (n:=e+dgt Y k+dgt v k) (by omega);have hs:=back_step (by omega:k<Y.length) hinv2 rfl;generalize hN:e+dgt Y k+dgt v k=t at*;have a1:=and20 t;have hset2:((winL U i0 Y).map ic).set (i0+k) [.sc (.int .i64 (t % 1048576))]=(winL U i0 (Y.set k (t % 1048576))).map ic:=by
     rw[<-jr0 (by omega) (by omega),qP];rfl
    have fin:(0<=t/1048576/\t/1048576<=1)/\(Y.set k (t % 1048576)).length=n+1/\OkD (Y.set k (t % 1048576)):=
     ⟨by omega,by rw[qf];exact lY,hY.set (by omega)⟩
    obtain⟨f1,f2,f3⟩:=fin;by_cases hbl:(k:Int)<v.length
    ·have hd2:decide ((k:Int)<v.length)=true:=za hbl;have hxb:=jb2 hbl;simp only[hd3,hp2,hd2,ze,hxb,hy,w1,hN,w2,a1,hset2,go_sem];refine jab (k+1,Y.set k (t % 1048576),t/1048576) ?_ ?_ ⟨?_,f2,f3,f1.1,f1.2,hs⟩
     ·simp only[h1,Int.natCast_add,go_sem]
     ·show n+1-(k+1)<n+1-k;omega
     ·show k+1<=n+1;omega
    ·have hd2:decide ((k:Int)<v.length)=false:=zq hbl;have hb0:dgt v k=0:=jew (by omega);rw[hb0,yK]at hN;rw[hN]at w1;simp only[hd3,hp2,hd2,ze,hy,hN,w1,a1,hset2,go_sem];refine jab (k+1,Y.set k (t % 1048576),t/1048576) ?_ ?_ ⟨?_,f2,f3,f1.1,f1.2,hs⟩
     ·simp only[h1,Int.natCast_add,go_sem]
     ·show n+1-(k+1)<n+1-k;omega
     ·show k+1<=n+1;omega
   case neg=>
    have hd3:decide ((k:Int)<((n+1:Nat):Int))=false:=zq hp2;have hkn:k=n+1:=by omega
    subst hkn;rw[jc5 (l:=v) (by omega)]at hinv2;have hYl:=jeh hY;have hY0:=jb0 hY;rw[lY]at hYl;have hYv:val Y=val W-(g-1)*val v:=by
     have e1:(g-1)*val v=g*val v-val v:=by rw[jN];omega
     rw[e1]at hq'⊢;have e2:1048576^(n+1)*(c-e)=1048576^(n+1)*c-1048576^(n+1)*e:=vf ..;have hce:c-e=0:=by
      rcases yc (c-e) 0 with h | h | h
      ·have:1048576^(n+1)*(c-e)<=1048576^(n+1)*(-1):=qm (by omega) (by omega);omega
      ·exact h
      ·have:1048576^(n+1)*1<=1048576^(n+1)*(c-e):=qm (by omega) (by omega);omega
     rw[hce,ym]at e2;omega
    have hpad:=pad_eq hY;rw[lY,hYv]at hpad;simp only[hd3,wg,<-hpad,j0,go_sem]
end
end Go.Proofs.YthahgoopboilkaaGreat
namespace Go.Abs
section
theorem ex2(x y D:Int):(x*1048576+y)*D=1048576*(x*D)+y*D:=by
 rw[yV,yE x,qR]
theorem ex3(g x y D z:Int):g*((x*1048576+y)*D+z)=1048576*(g*x*D)+g*y*D+g*z:=by
 rw[ex2,qI,qI,j3 g,<-qR g,<-qR g]
theorem knuth_first{g rest top v1 v2 w V W D Vl Wl:Int}(hD:0<D)(hV:V=(v1*1048576+v2)*D+Vl)(hVl:0<=Vl)(hv2:0<=v2)(hW:W=(top*1048576+w)*D+Wl)(hWl:Wl<D)
  (hw:w<1048576) (hg:g*v1+rest=top) (hr:rest<v1) (g0:0<=g):W<(g+1)*V:=by
 have h1:0<=g*(v2*D):=qZ g0 (qZ hv2 (by omega));have h1':0<=g*Vl:=qZ g0 hVl;have h1'':0<=v2*D:=qZ hv2 (by omega);have h2:(top+1)*D<=(g*v1+v1)*D:=qF (by omega) (by omega);have h3:w*D<=1048575*D:=qF (by omega) (by omega);have e:(g+1)*V=g*V+V:=by rw[yV,yU]
 rw[yV,yV,yU]at h2;rw[<-qR]at h1;have e2:g*V=1048576*(g*v1*D)+g*v2*D+g*Vl:=by rw[hV,ex3]
 have e3:V=1048576*(v1*D)+v2*D+Vl:=by rw[hV,ex2]
 have e4:W=1048576*(top*D)+w*D+Wl:=by rw[hW,ex2]
 rw[e,e2,e3,e4];clear hV hW e e2 e3 e4;omega
theorem knuth_down{g rest top v1 v2 w V W D Vl Wl:Int}(hD:0<D)(hV:V=(v1*1048576+v2)*D+Vl)(hVl:0<=Vl)(hW:W=(top*1048576+w)*D+Wl)(hWl:Wl<D)
  (hg:g*v1+rest=top) (g0:0<=g) (h:rest*1048576+w<g*v2):W<g*V:=by
 have h1:0<=g*Vl:=qZ g0 hVl;have h2:(rest*1048576+w+1)*D<=(g*v2)*D:=qF (by omega) (by omega);have h3:(g*v1+rest)*D=top*D:=by rw[hg]
 rw[yV,ex2,yU]at h2;rw[yV]at h3;have e2:g*V=1048576*(g*v1*D)+g*v2*D+g*Vl:=by rw[hV,ex3]
 have e4:W=1048576*(top*D)+w*D+Wl:=by rw[hW,ex2]
 rw[e2,e4];clear hV hW e2 e4;omega
theorem jmr{g rest top v1 v2 w V W D Vl Wl:Int}(hD:0<D)(hV:V=(v1*1048576+v2)*D+Vl)(hVl:Vl<D)(hW:W=(top*1048576+w)*D+Wl)(hWl:0<=Wl)
  (hg:g*v1+rest=top) (g0:1<=g) (g1:g<1048576) (hv1:1<=v1) (hv2:0<=v2/\v2<1048576) (hw:0<=w) (h:1048576<=rest\/g*v2<=rest*1048576+w):(g-1)*V<=W:=by
 have h0:g*v2<=rest*1048576+w:=by
  rcases h with h | h
  ·have:g*v2<=1048575*1048575:=jY (by omega) (by omega) hv2.1 (by omega);omega
  ·exact h
 have h1:(g-1)*Vl<=(g-1)*D:=qm (by omega) (by omega);have h2:(g*v2)*D<=(rest*1048576+w)*D:=qF h0 (by omega);have h3:(g*v1+rest)*D=top*D:=by rw[hg]
 have h4:(g-1)*D<=(v1*1048576+v2)*D:=qF (by omega) (by omega);rw[ex2]at h2;rw[yV]at h3;rw[ex2]at h4;have e:(g-1)*V=g*V-V:=by rw[jN,yU]
 have e2:g*V=1048576*(g*v1*D)+g*v2*D+g*Vl:=by rw[hV,ex3]
 have e3:V=1048576*(v1*D)+v2*D+Vl:=by rw[hV,ex2]
 have e4:W=1048576*(top*D)+w*D+Wl:=by rw[hW,ex2]
 have e5:(g-1)*Vl=g*Vl-Vl:=by rw[jN,yU]
 have e6:(g-1)*D=g*D-D:=by rw[jN,yU]
 rw[e5,e6]at h1;rw[e6]at h4;rw[e,e2,e3,e4];clear hV hW e e2 e3 e4 e5 e6;omega
theorem jp4{g V W:Int}(hV:0<V)(h1:W<(g+1)*V)(h2:0<=W-g*V\/0<=W-(g-1)*V):
  (if 0<=W-g*V then g else g-1)=W/V/\W-(if 0<=W-g*V then g else g-1)*V=W % V:=by
 have key:∀q:Int,0<=W-q*V->W-q*V<V->q=W/V/\W-q*V=W % V:=fun q hq0 hq1=>by
  have hq:W/V=q:=by
   rw[show W=(W-q*V)+q*V by omega,Int.add_mul_ediv_right _ _ (by omega),Int.ediv_eq_zero_of_lt hq0 hq1,jo]
  refine⟨hq.symm,?_⟩;have:=qU W V;rw[hq,yE]at this;omega
 have e1:(g+1)*V=g*V+V:=by rw[yV,yU]
 have e2:(g-1)*V=g*V-V:=by rw[jN,yU]
 split
 ·rename_i h;exact key g h (by omega)
 ·rename_i h;exact key (g-1) (h2.resolve_left h) (by omega)
end
end Go.Abs
namespace Go.Proofs.YthahgoopboilkaaGreat
section
open Go.Abs
attribute [local go_sem] ints ic mb20 pw20 fd20
theorem dgt_drop(l:List Int)(i j:Nat):dgt (l.drop i) j=dgt l (i+j):=by unfold dgt;rw[qM]
theorem dgt_take_lt{l:List Int}{n j:Nat}(h:j<n):dgt (l.take n) j=dgt l j:=by unfold dgt;rw[qa,zm h]
theorem top_two{l:List Int}{n:Nat}(hl:OkD l)(hn:2<=n)(hlen:l.length=n):∃Vl,val l=(dgt l (n-1)*1048576+dgt l (n-2))*1048576^(n-2)+Vl/\0<=Vl/\Vl<1048576^(n-2):=by
 refine⟨val (l.take (n-2)),?_,jb0 (hl.take _),jdn hl _⟩;have h1:=jd8 l (n-2);have h2:=jcv l (n-2);have h3:=jcv l (n-2+1);rw[show n-2+1=n-1 by omega]at h2 h3;rw[qw (by omega:l.length<=n-1+1),show val []=0 from rfl,ym,yK]at h3;rw[h3]at h2;rw[h2]at h1;rw[h1,yE (1048576^(n-2))];have:dgt l (n-2)+1048576*dgt l (n-1)=dgt l (n-1)*1048576+dgt l (n-2):=by omega
 rw[this];omega
theorem top_three{l:List Int}{n:Nat}(hl:OkD l)(hn:2<=n)(hlen:l.length=n+1):∃Wl,val l=((dgt l n*1048576+dgt l (n-1))*1048576+dgt l (n-2))*1048576^(n-2)+Wl/\0<=Wl/\Wl<1048576^(n-2):=by
 refine⟨val (l.take (n-2)),?_,jb0 (hl.take _),jdn hl _⟩;have h1:=jd8 l (n-2);have h2:=jcv l (n-2);have h3:=jcv l (n-2+1);rw[show n-2+1=n-1 by omega]at h2 h3;have h4:=jcv l (n-1+1);rw[show n-1+1=n by omega]at h3 h4;rw[qw (by omega:l.length<=n+1),show val []=0 from rfl,ym,yK]at h4;rw[h4]at h3;rw[h3]at h2;rw[h2]at h1;rw[h1,yE (1048576^(n-2))];have:dgt l (n-2)+1048576*(dgt l (n-1)+1048576*dgt l n)=(dgt l n*1048576+dgt l (n-1))*1048576+dgt l (n-2):=by omega
 rw[this];omega
theorem shifted{y s n:Nat}(hn:(dig y).length=n)(hn1:1<=n)(h1:524288<=dgt (dig y) (n-1)*s)(h2:(dgt (dig y) (n-1)+1)*s<=1048576):
  (dig (y*s)).length=n/\524288<=dgt (dig (y*s)) (n-1)/\(524288:Int)*1048576^(n-1)<=((y*s:Nat):Int):=by
 have hv:=jb1 y;have ho:=jc3 y;have hs:=jd8 (dig y) (n-1);have hd:=jcv (dig y) (n-1);rw[qw (by omega:(dig y).length<=n-1+1),show val []=0 from rfl,ym,yK]at hd;rw[hd,hv]at hs;have h3:=jdn ho (n-1);have h4:=jb0 (ho.take (n-1));have hp:=jdl (n-1);have hpn:(1048576:Int)^n=1048576^(n-1)*1048576:=by rw[<-jdb,show n-1+1=n by omega]
 generalize dgt (dig y) (n-1)=t at*;generalize val ((dig y).take (n-1))=lo at*;generalize hP:(1048576:Int)^(n-1)=P at*;have hys:((y*s:Nat):Int)=lo*s+P*(t*s):=by rw[Int.natCast_mul,hs,yV,qR]
 have hs0:(0:Int)<=s:=Int.natCast_nonneg s;have e1:0<=lo*s:=qZ h4 hs0;have e2:P*524288<=P*(t*s):=qm h1 (by omega);have e3:lo*s<=(P-1)*s:=qF (by omega) hs0;have e4:(P-1)*s=P*s-s:=by rw[jN,yU]
 have e5:P*((t+1)*s)<=P*1048576:=qm h2 (by omega);have e6:P*((t+1)*s)=P*(t*s)+P*s:=by rw[yV,yU,qI]
 have hspos:(1:Int)<=s:=by
  rcases yP s with h | h
  ·subst h;simp at h1
  ·omega
 have lo1:(524288:Int)*P<=((y*s:Nat):Int):=by rw[hys,yE 524288];omega
 have hi1:((y*s:Nat):Int)<1048576^n:=by rw[hys,hpn];omega
 have hle:(dig (y*s)).length<=n:=jc1 hi1;have hvv:=jb1 (y*s);have hoo:=jc3 (y*s);have hlen:(dig (y*s)).length=n:=by
  rcases zT (dig (y*s)).length n with h | h
  ·have g1:=jdn hoo (n-1);rw[jc5 (by omega:(dig (y*s)).length<=n-1),hvv,hP]at g1;omega
  ·omega
 refine⟨hlen,?_,lo1⟩;have g1:=jd8 (dig (y*s)) (n-1);have g2:=jcv (dig (y*s)) (n-1);rw[qw (by omega:(dig (y*s)).length<=n-1+1),show val []=0 from rfl,ym,yK]at g2;have g3:=jdn hoo (n-1);rw[g2,hvv,hP]at g1;rw[hP]at g3;generalize dgt (dig (y*s)) (n-1)=t' at*;rcases yS t' 524288 with h | h
 ·have:P*t'<=P*524287:=qm (by omega) (by omega);omega
 ·exact h
end
section
open Go.Abs
theorem pow2_ok{j:Nat}{t:Int}(hj:j<=20)(ht:1<=t)(h:t*((2^j:Nat):Int)<1048576):(t+1)*((2^j:Nat):Int)<=1048576:=by
 have h1:((2^(20-j):Nat):Int)*((2^j:Nat):Int)=1048576:=by
  rw[<-Int.natCast_mul,<-Nat.pow_add,show 20-j+j=20 by omega];rfl
 have hp:0<((2^j:Nat):Int):=by have:=Nat.two_pow_pos j;omega
 rw[<-h1]at h⊢;have h2:t<((2^(20-j):Nat):Int):=Int.lt_of_mul_lt_mul_right h (by omega);exact qF (by omega) (by omega)
theorem pow2_lt{j:Nat}(h:((2^j:Nat):Int)<524288):j<19:=by
 rcases zT j 19 with h1 | h1
 ·exact h1
 ·have:2^19<=2^j:=q7 (by omega) h1;omega
theorem win_dgt{U:List Int}{m n k:Nat}(hk:k<n):dgt ((U.drop m).take n) k=dgt U (m+k):=by rw[dgt_take_lt hk,dgt_drop]
theorem jr1{U X:List Int}{i j:Nat}(hi:i<=U.length)(hj:j<i):dgt (winL U i X) j=dgt U j:=by
 unfold dgt winL;rw[qv,zM (by rw[qi];omega),qa,zm hj]
theorem winL_ok{U X:List Int}{i:Nat}(hU:OkD U)(hX:OkD X):OkD (winL U i X):=((hU.take i).append hX).append (hU.drop _)
theorem jqz{U X:List Int}{i:Nat}(hi:i+X.length<=U.length)(hz:val (U.drop (i+X.length))=0):val ((winL U i X).drop i)=val X:=by
 have hl:(U.take i).length=i:=by rw[qi];omega
 rw[winL,qv,List.drop_append_of_le_length (by omega),qw (by omega),List.nil_append,jez,hz,ym,yK]
theorem jqi{n v:Nat}(h:(dig v).length<=n):(padD n v).length=n:=by rw[padD,zH,zW];omega
theorem pad_ok(n v:Nat):OkD (padD n v):=(jc3 v).append (OkD.replicate _)
theorem pad_val(n v:Nat):val (padD n v)=v:=by rw[padD,jez,jdq,ym,yK,jb1]
theorem pad_take{n v:Nat}:(padD n v).take (dig v).length=dig v:=by rw[padD,List.take_append_of_le_length (zB _),yj]
theorem t_pdiv1(x y:Nat)(hy:0<y)(lx:(dig x).length<=50000000000)(ly:(dig y).length<=50000000000)(hlt:x<y):Ctr G.P 143 [ints (dig x),ints (dig y)] (· = .tup [ints (dig (x/y)),ints (dig (x % y))]):=by
 have hcmp:=jfs x y (by omega) (by omega);have hd:cmpI (x:Int) (y:Int)= -1:=zm (by omega);rw[hd]at hcmp;have hcl:=jki (dig x) (by omega);rw[jH hlt,jm hlt,jbw];simp only[ints]at hcmp hcl;have hdd:decide ((-1:Int)<0)=true:=by decide
 refine ja5 [.tmp 4,.tmp 5] Tryz.func143 ?_;simp only[go_sem,ints,ic,mb20,pw20,fd20];refine ja1 hcmp ?_;simp only[hdd,go_sem,ints,ic,mb20,pw20,fd20];refine ja1 hcl ?_;simp only[zC,go_sem,ints,ic,mb20,pw20,fd20]
theorem t_pdiv2(x y:Nat)(hy:0<y)(lx:(dig x).length<=50000000000)(ly:(dig y).length<=50000000000)(hlt:¬x<y)(h1:(dig y).length=1):Ctr G.P 143 [ints (dig x),ints (dig y)] (· = .tup [ints (dig (x/y)),ints (dig (x % y))]):=by
 have hcmp:=jfs x y (by omega) (by omega);have hd0:decide (cmpI (x:Int) (y:Int)<0)=false:=by
  refine zq ?_;rw[cmpI,zn (by omega)];split<;>omega
 have hy1:y<1048576:=by
  have h2:=jeh (jc3 y);rw[jb1,h1]at h2;omega
 have hdy:dig y=[(y:Int)]:=by
  rw[jgc (by omega),jm hy1,jH hy1,jbw]
 have hsh:=t_short (dig x) y (jc3 x) (by omega) (by omega);rw[jb1,<-Int.natCast_ediv,<-Int.natCast_emod,Int.toNat_natCast]at hsh;have hok:OkD [((x % y:Nat):Int)]:=OkD.cons (by have:=ju x hy;omega) OkD.nil;have htr:=jf4 [((x % y:Nat):Int)] hok (by simp);rw[jnb,Int.toNat_natCast]at htr;rw[hdy]at hcmp⊢;simp only[ints,zl,zC]at hcmp hsh htr;refine ja5 [.tmp 4,.tmp 5] Tryz.func143 ?_;simp only[zl,zC,go_sem,ints,ic,mb20,pw20,fd20];refine ja1 hcmp ?_;simp only[hd0,zl,zC,Int.toNat_zero,qj,go_sem,ints,ic,mb20,pw20,fd20];refine ja1 hsh ?_;simp only[go_sem,ints,ic,mb20,pw20,fd20];refine ja1 htr ?_;simp only[go_sem,ints,ic,mb20,pw20,fd20]
end
end Go.Proofs.YthahgoopboilkaaGreat
namespace Go.Abs
section
section
variable{L R:Rows}{k d s b:Nat}{es:List (List IV)}
theorem look_filterQ(q:Nat->Bool)(l:Rows)(k:Nat):look (l.filter fun p=>q p.1) k=if q k=true then look l k else none:=jbr l q k
theorem jay(h:blks L)(hd:d<100000):look L d=none:=by
 cases hl:look L d with
 | none=>rfl
 | some x=>obtain⟨b,e⟩:=h d x hl;unfold hp at e;omega
theorem filter_of_none(h:look L d=none):L.filter (fun p=>p.1 !=d)=L:=by
 induction L with
 | nil=>rfl
 | cons p L ih=>
  obtain⟨j,v⟩:=p;by_cases e:d=j
  ·subst e;rw[ja2]at h;cases h
  ·rw[ja0 _ _ e]at h;rw[jK,ih h,zm (by simp only[qk,ne_eq];exact fun x=>e x.symm)]
theorem jdo(h:look L d=none):L.map (fun p=>if p.1=d then(p.1,s,es)else p)=L:=by
 induction L with
 | nil=>rfl
 | cons p L ih=>
  obtain⟨j,v⟩:=p;by_cases e:d=j
  ·subst e;rw[ja2]at h;cases h
  ·rw[ja0 _ _ e]at h;rw[zl,ih h,zn (fun x=>e x.symm)]
theorem je8(h:blks L)(hd:d<100000):L.filter (fun p=>p.1 !=d)=L:=filter_of_none (jay h hd)
theorem jo7(h:blks L)(hd:d<100000):L.map (fun p=>if p.1=d then(p.1,s,es)else p)=L:=jdo (jay h hd)
theorem jae{x:Nat×List (List IV)}(h:look L k=some x):look (L.map (fun p=>if p.1=k then(p.1,s,es)else p)) k=some (s,es):=
 jbz (by rw[h];rfl)
theorem jan{j:Nat}(h:j≠k):look (L.map (fun p=>if p.1=k then(p.1,s,es)else p)) j=look L j:=jc9 h
theorem jb8(h:blks L):blks (L.map (fun p=>if p.1=k then(p.1,s,es)else p)):=fun j x hj=>by
 have:(look L j).isSome:=by
  have e:=jbq (l:=L) (d:=k) (s:=s) (k:=j) (es:=es);unfold setRow at e;rw[<-e,hj];rfl
 obtain⟨y,hy⟩:=zp.1 this;exact h j y hy
theorem jat(h:blks L):blks ((hp b,s,es)::L):=fun j x hj=>by
 by_cases e:j=hp b
 ·exact⟨b,e⟩
 ·rw[ja0 _ _ e]at hj;exact h j x hj
theorem jc8:blks []:=fun _ _ h=>by cases h
theorem jbx(h:blks L):blks (del L d):=fun j x hj=>by
 by_cases e:j=d
 ·subst e;rw[ja8]at hj;cases hj
 ·rw[ja7 _ e]at hj;exact h j x hj
def hiR(R:Rows):Rows:=R.filter fun p=>Nat.ble 100000 p.1
theorem jns:look (hiR R) k=if 100000<=k then look R k else none:=by
 unfold hiR;rw[look_filterQ];by_cases h:100000<=k
 ·rw[zm (Nat.ble_eq▸h),zm h]
 ·rw[zn (fun e=>h (qT e)),zn h]
theorem jau:look (hiR R) (hp b)=look R (hp b):=by rw[jns,zm (by unfold hp;omega)]
theorem jee:blks (hiR R):=fun k x h=>by
 rw[jns]at h;split at h
 ·rename_i hk;exact⟨_,hp_of hk⟩
 ·cases h
theorem hiR_ret:∀k x,look (hiR R) k=some x->100000<=k/\look R k=some x:=fun k x h=>by
 rw[jns]at h;split at h
 ·exact⟨‹_›,h⟩
 ·cases h
theorem ja3{x:Nat×List (List IV)}(hd:d<100000)(hL:blks L)(h:SubR L R):SubR L ((d,x)::R):=fun k y hk=>by
 rw[ja0 _ _ (fun e=>by subst e;rw[jay hL hd]at hk;cases hk)];exact h k y hk
theorem jad:SubR [] R:=fun _ _ h=>by cases h
theorem jb4{R':Rows}(p:Nat×Nat×List (List IV))(hs:SubR R' R):SubR (p::R') (p::R):=fun k x hk=>by
 obtain⟨j,v⟩:=p;by_cases e:k=j
 ·subst e;rw[ja2]at hk⊢;exact hk
 ·rw[ja0 _ _ e]at hk⊢;exact hs k x hk
theorem jas{R':Rows}{p:Nat×Nat×List (List IV)}(h:look R' p.1=none)(hs:SubR R' R):SubR R' (p::R):=fun k x hk=>by
 obtain⟨j,v⟩:=p;rw[ja0 _ _ (fun e=>by subst e;rw[h]at hk;cases hk)];exact hs k x hk
theorem Behind_pre{L L':Rows}:∀(pre:Rows),(∀p∈pre,look L p.1=none)->jfk (pre++L) L L' (pre++L')
 | [],_=>fun _ _ h=> .inl h
 | (j,v)::pre,hp=>fun k x h=>by
  by_cases e:k=j
  ·subst e;rw[List.cons_append,ja2]at h⊢;exact .inr ⟨hp _ (zN ..),h⟩
  ·rw[List.cons_append,ja0 _ _ e]at h⊢;exact Behind_pre pre (fun p h=>hp p (zQ _ h)) k x h
theorem jbn{L':Rows}:jfk R L L' L':=fun _ _ h=> .inl h
end
section
variable{R:Rows}
theorem jbg{G:Ctx}{rs:List ResultVar}{st:St}{φ:AV->Rows->Prop}(h:jlx G rs (fun r=>φ r (hiR st.rows)) st): @RetH G rs st ⟨φ⟩:=jgh (hiR st.rows) hiR_ret h
theorem jbh{G:Ctx}{rs:List ResultVar}{st:St}{φ:AV->Rows->Prop}(L':Rows)(hb:blks L')(hs:SubR L' st.rows)(h:jlx G rs (fun r=>φ r L') st): @RetH G rs st ⟨φ⟩:=
 jgh L' (fun k x hk=>⟨by obtain⟨b,rfl⟩:=hb k x hk;unfold hp;omega,hs k x hk⟩) h
end
def tab{α:Type}(n:Nat)(f:Nat->α):List α:=(List.range n).map f
section
variable{α β:Type}{n:Nat}{f g:Nat->α}
theorem ja6:(tab n f).length=n:=by simp[tab]
theorem jfm{i:Nat}(h:i<n):(tab n f)[i]? =some (f i):=by simp[tab,h]
theorem tab_get_none{i:Nat}(h:¬i<n):(tab n f)[i]? =none:=by simp[tab];omega
theorem jak(h:∀k,k<n->f k=g k):tab n f=tab n g:=yZ fun k hk=>h k (qh.1 hk)
theorem tab_ext{l:List α}(hl:l.length=n)(h:∀k,k<n->l[k]? =some (f k)):l=tab n f:=by
 apply j2;intro i;by_cases hi:i<n
 ·rw[h i hi,jfm hi]
 ·rw[tab_get_none hi,qA (by omega)]
theorem jkh{i:Nat}{x:α}:(tab n f).set i x=tab n fun k=>if k=i then x else f k:=by
 refine tab_ext (by rw[qf,ja6]) fun k hk=> ?_;by_cases e:k=i
 ·subst e;rw[zm rfl,List.getElem?_set_self (by rw[ja6];exact hk)]
 ·rw[zn e,yT (fun h=>e h.symm),jfm hk]
theorem ji0:tab (n+1) f=tab n f++[f n]:=by simp[tab,vR]
theorem tab_zero:tab 0 f=[]:=rfl
theorem ji1{x:α}:List.replicate n x=tab n fun _=>x:=tab_ext (by simp) fun k hk=>by simp[hk]
theorem tab_mem{x:α}(h:x∈tab n f):∃i,i<n/\f i=x:=by
 obtain⟨i,hi,rfl⟩:=qq.1 h;exact⟨i,qh.1 hi,rfl⟩
theorem mem_tab{i:Nat}(h:i<n):f i∈tab n f:=qq.2 ⟨i,qh.2 h,rfl⟩
theorem jd7:(tab n f).take n=tab n f:=zt (by rw[ja6];exact zB _)
theorem tab_nodup{A:Nat->Nat}(h:(tab n A).Nodup){i j:Nat}(hi:i<n)(hj:j<n)(e:A i=A j):i=j:=by
 have h1:=jfm (f:=A) hi;have h2:=jfm (f:=A) hj;rw[<-e]at h2;rw[zu]at h1 h2;obtain⟨a1,a2⟩:=h1;obtain⟨b1,b2⟩:=h2;exact(List.getElem_inj h).1 (a2.trans b2.symm)
end
theorem bF{L:Rows}(hb:blks L)(d:Nat)(h:d<100000):L.filter (fun p=>p.1 !=d)=L:=je8 hb h
theorem bN{L:Rows}(hb:blks L)(d:Nat)(h:d<100000):look L d=none:=jay hb h
theorem bK{L:Rows}(hb:blks L)(d s:Nat)(es:List (List IV))(h:d<100000):L.map (fun p=>if p.1=d then(p.1,s,es)else p)=L:=jo7 hb h
end
section
theorem CtrH.loc{P:Program}{f:FuncId}{b s i j:Nat}{args:List AV}{L:Rows}{φ:AV->Rows->Prop}(h:CtrH P f (.im (.pr b s i j)::args) L φ):CtrH P f (.loc (hp b) s i j::args) L φ:=
 fun w M vs h1 h2 h3 h4=>h w M vs h1 h2 (by simpa using h3) fun k av v hk hv=>by
  cases k with
  | zero=>
   simp at hk;subst hk;obtain⟨b',e1,e2⟩:=h4 0 (.loc (hp b) s i j) v rfl hv;rw[pβ_hp]at e1;cases e1;rw[e2];exact Rep.pr b s i j
  | succ k=>exact h4 (k+1) av v (by simpa using hk) hv
theorem St.le_lend(s:St)(d:Nat):St.Le s (s.lend d):=fun _ _ _ β _ _ h=>⟨β,h.lend d⟩
theorem jjj{G:Ctx}{c:Code}{Q:Exit->St->Prop}{st:St}(d:Nat)(h: @LoopP G ⟨c⟩ ⟨Q⟩ (st.lend d)): @LoopP G ⟨c⟩ ⟨Q⟩ st:=by
 obtain⟨I,n,⟨s0,h1,h2⟩,h3⟩:=h;exact⟨I,n,⟨s0,(St.le_lend st d).trans h1,h2⟩,h3⟩
end
section
open Go.RowKit (Below)
def isSp(o:Oper):Bool:=
 match o.op with
 | .call c=>match c.callee with
  | .value _=>true
  | .builtin b=>match b with
   | .append=>true
   | _=>false
  | _=>false
 | _=>false
def spY(G:Ctx)(st:St)(o:Oper)(T:AV->Rows->Prop):Prop:=if isSp o=true then sp G st o T else aq G st o fun av=>T av st.rows
def spListY(G:Ctx)(Rs:Rows)(K:St->Prop):List Oper->St->Prop
 | [],st=>K st
 | o::r,st=>o.guard=none/\spY G st o fun av R'=>(∀k x,look Rs k=some x->look R' k=some x)/\spListY G Rs K r ((⟨st.fr,R',st.toks⟩:St).put o.dst av)
section
variable{G:Ctx}{N:Nat}{w0:Base}{w w':World}{M0:Nat->Nat->Prop}{β:Nat->Option Nat}{st st':St}{a:Act}{ops:List Oper}
end
section
variable{G:Ctx}
def spListYN(G:Ctx)(ops:List Oper)(K:St->Prop)(Rs:Rows)(d:Nat)(z:List IV)(sps l:List Oper)(st:St):Prop:=
 spListY G Rs (fun s'=>NewH (fun s''=>alist G ops K l s'') s' z.length [z] d (fun b=> .loc (hp b) z.length 0 0)) sps st
theorem spListYN_nil(ops:List Oper)(K:St->Prop)(Rs:Rows)(d:Nat)(z:List IV)(l:List Oper)(st:St):spListYN G ops K Rs d z [] l st=NewP z.length [z] d (K:=⟨fun s=>alist G ops K l s⟩) (A:=⟨(st,fun b=> .loc (hp b) z.length 0 0)⟩):=rfl
end
attribute [go_sem ↓] spListYN_nil
