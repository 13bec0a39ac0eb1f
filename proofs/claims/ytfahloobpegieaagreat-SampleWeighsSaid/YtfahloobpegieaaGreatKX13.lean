/- A part of the proof. No further condition. -/
import Derived.Test.YtfahloobpegieaaGreatKX12
set_option linter.all false
set_option maxRecDepth 100000
namespace Go.Proofs.YtfahloobpegieaaGreat
section
open Go.Abs
attribute [local go_sem] ints ic mb20 pw20 fd20
def padD(n v:Nat):List Int:=dig v++List.replicate (n-(dig v).length) 0
theorem val_zeros{l:List Int}(hl:OkD l)(h:val l=0):l=List.replicate l.length 0:=by
 induction l with
 | nil=>rfl
 | cons d l ih=>
  have h1:=hl.head;have h2:=jaw hl.tail;simp only[val]at h;have h3:=ih hl.tail (by omega);rw[List.length_cons,List.replicate_succ,<-h3,show d=0 by omega]
theorem pad_eq{l:List Int}(hl:OkD l):l=padD l.length (val l).toNat:=by
 have hlen:(dig (val l).toNat).length<=l.length:=by
  refine jbb ?_;rw[Int.toNat_of_nonneg (jaw hl)];exact jdr hl
 have h0:=jaw hl;have hv:val (dig (val l).toNat)=val l:=by rw[jas];omega
 have h1:=jd1 l (dig (val l).toNat).length;have hlt:val l<1048576^(dig (val l).toNat).length:=by
  have:=jdr (jbc (val l).toNat);rw[hv]at this;exact this
 have h2:=jf1 hl hlt;have h3:=val_zeros (hl.drop (dig (val l).toNat).length) h2;have h4:=jfd hl hlt;have h5:l.take (dig (val l).toNat).length=dig (val l).toNat:=by
  have:∀(a b:List Int),OkD a->OkD b->a.length=b.length->val a=val b->a=b:=by
   intro a
   induction a with
   | nil=>intro b _ _ h _;exact(List.eq_nil_of_length_eq_zero h.symm).symm
   | cons d a ih=>
    intro b ha hb h hv;cases b with
    | nil=>simp at h
    | cons e b=>
     have g1:=ha.head;have g2:=hb.head;simp only[val]at hv;rw[show d=e by omega,ih b ha.tail hb.tail (by simpa using h) (by omega)]
  refine this _ _ (hl.take _) (jbc _) (by rw[List.length_take];omega) (by rw[h4,hv])
 conv=>lhs;rw[<-List.take_append_drop (dig (val l).toNat).length l]
 rw[h5,h3,List.length_drop];rfl
theorem jpe{a b out:List Int}{i:Nat}{c:Int}(hl:i+b.length<out.length)(ho:OkD out)(hz:∀j,i+b.length<=j->dgt out j=0)(hc:0<=c/\c<1048576)
  (hv:val out+1048576^(i+b.length)*c=val (a.take i)*val b+1048576^i*(dgt a i*val b)):
  OkD (out.set (i+b.length) c)/\(out.set (i+b.length) c).length=out.length/\val (out.set (i+b.length) c)=val (a.take (i+1))*val b/\∀j,i+1+b.length<=j->dgt (out.set (i+b.length) c) j=0:=by
 refine⟨ho.set hc,List.length_set,?_,fun j hj=> ?_⟩
 ·rw[jfu _ _ _ hl,hz _ (Nat.le_refl _),Int.sub_zero,hv,jbv,Int.add_mul,Int.mul_assoc]
 ·have:=hz j (by omega);unfold dgt at this⊢;rw[List.getElem?_set_ne (by omega)];exact this
set_option maxHeartbeats 2000000 in
theorem t_pmul(a b:List Int)(ha:OkD a)(hb:OkD b)(la:a.length<=100000000000)(lb:b.length<=100000000000):Ctr G.P 185 [ints a,ints b] (· =ints (dig (val a*val b).toNat)):=by
 have w0:=ja6 (n:=(a.length:Int)+b.length) (by omega);have w00:((a.length:Int)+b.length)*8<=140737488355328:=by omega
 have w01:(0:Int)<=(a.length:Int)+b.length:=by omega
 have w02:((a.length:Int)+b.length).toNat=a.length+b.length:=by omega
 refine jaa good _ _ [.tmp 4] Tryz.func185 rfl rfl (by decide+kernel) rfl ?_;simp only[w0,w00,w01,w02,go_sem];refine jar [1,5,18,19,20] [17] (fun g:Nat×List Int=>⟨[(1,.im (.sl (b.map ic))),(5,.gsl 17 3 1 (a.length+b.length)),(18,.im (.sl (a.map ic))),(19,.im (.int a.length)),(20,.im (.int g.1))],[(17,1,g.2.map ic)],[]⟩)
  (fun g=>g.1<=a.length/\g.2.length=a.length+b.length/\OkD g.2/\val g.2=val (a.take g.1)*val b/\∀j,g.1+b.length<=j->dgt g.2 j=0) (fun g=>a.length-g.1) (0,List.replicate (a.length+b.length) 0) ?_
  ⟨Nat.zero_le _,List.length_replicate,OkD.replicate _,by dsimp only;rw[jda];simp[val],fun j _=>by
   unfold dgt;rw[List.getElem?_replicate];split<;>rfl⟩ ?_
 ·simp only[Int.natCast_zero,List.map_replicate,List.length_replicate,go_sem]
 intro⟨i,out0⟩ ⟨hi,hl0,ho0,hv0,hz0⟩;dsimp only at hi hl0 ho0 hv0 hz0;by_cases hp:(i:Int)<a.length
 case neg=>
  have hd:decide ((i:Int)<a.length)=false:=decide_eq_false hp;rw[jbj (l:=a) (i:=i) (by omega)]at hv0;have ht:=jew out0 ho0 (by omega);rw[hv0]at ht;have hall:(out0.map ic).take (a.length+b.length)=out0.map ic:=List.take_of_length_le (by rw[List.length_map];omega);have hle:a.length+b.length<=out0.length:=by omega
  simp only[ints]at ht;simp only[hd,hle,hall,go_sem];refine ja1 ht (by decide) ?_;simp only[go_sem]
 case pos=>
  have hd:decide ((i:Int)<a.length)=true:=decide_eq_true hp;have hx:=jb1 hp;have h1:=ja6 (n:=(i:Int)+1) (by omega);simp only[hd,List.getElem?_map,hx,go_sem];refine jar [1,5,6,7,8,18,19,20,25,26,27] [17] (fun g:Nat×List Int×Int=>⟨[(1,.im (.sl (b.map ic))),(5,.gsl 17 3 1 (a.length+b.length)),(6,.im (.int i)),(7,.im (.int (dgt a i))),(8,.im (.int g.2.2)),(18,.im (.sl (a.map ic))),(19,.im (.int a.length)),(20,.im (.int i)),(25,.im (.sl (b.map ic))),(26,.im (.int b.length)),(27,.im (.int g.1))],[(17,1,g.2.1.map ic)],[]⟩)
   (fun g=>g.1<=b.length/\g.2.1.length=a.length+b.length/\OkD g.2.1/\0<=g.2.2/\g.2.2<1048576/\val g.2.1+1048576^(i+g.1)*g.2.2=val (a.take i)*val b+1048576^i*(dgt a i*val (b.take g.1))/\∀j,i+b.length<=j->dgt g.2.1 j=0)
   (fun g=>b.length-g.1) (0,out0,0) ?_ ⟨Nat.zero_le _,hl0,ho0,Int.le_refl _,by dsimp only;omega,by dsimp only;rw[List.take_zero,hv0];simp[val],hz0⟩ ?_
  ·simp only[Int.natCast_zero,go_sem]
  intro⟨k,out,c⟩ ⟨hk,hl,ho,hc0,hc1,hv,hz⟩;dsimp only at hk hl ho hc0 hc1 hv hz;by_cases hkl:(k:Int)<b.length
  case neg=>
   have d1:decide ((k:Int)<b.length)=false:=decide_eq_false hkl;have hkb:k=b.length:=by omega
   subst hkb;rw[jbj (l:=b) (Nat.le_refl _)]at hv;obtain⟨g1,g2,g3,g4⟩:=jpe (a:=a) (by omega) ho hz ⟨hc0,hc1⟩ hv;have w1:=ja6 (n:=(i:Int)+b.length) (by omega);have hjn:((i:Int)+b.length).toNat=i+b.length:=by omega
   have hj0:(0:Int)<=(i:Int)+b.length:=by omega
   have hjl:(i:Int)+b.length<((a.length+b.length:Nat):Int):=by omega
   have hy:out[i+b.length]? =some (dgt out (i+b.length)):=jb1 (by omega);rw[hz _ (Nat.le_refl _)]at hy;have w2:=ja6 (n:=0+c) (by omega);rw[Int.zero_add]at w2;simp only[d1,w1,hjn,hj0,hjl,List.getElem?_map,hy,w2,Int.zero_add,go_sem];refine ja9 (i+1,out.set (i+b.length) c) ?_ ?_ ⟨?_,?_,g1,g3,g4⟩
   ·simp only[h1,Int.natCast_add,List.map_set,go_sem]
   ·show a.length-(i+1)<a.length-i;omega
   ·show i+1<=a.length;omega
   ·show(out.set (i+b.length) c).length=_;rw[g2];exact hl
  case pos=>
   have d1:decide ((k:Int)<b.length)=true:=decide_eq_true hkl;have hyb:=jb1 hkl;have hda:=ha.dgt i;have hdb:=hb.dgt k;have hdo:=ho.dgt (i+k);have hmul:=jhx hda hdb;have w1:=ja6 (n:=(i:Int)+k) (by omega);have w2:=ja6 (n:=dgt a i*dgt b k) (by omega);have w3:=ja6 (n:=dgt out (i+k)+dgt a i*dgt b k) (by omega);have w4:=ja6 (n:=dgt out (i+k)+dgt a i*dgt b k+c) (by omega);have w5:=ja6 (n:=(k:Int)+1) (by omega);have hjn:((i:Int)+k).toNat=i+k:=by omega
   have hj0:(0:Int)<=(i:Int)+k:=by omega
   have hjl:(i:Int)+k<((a.length+b.length:Nat):Int):=by omega
   have hy:out[i+k]? =some (dgt out (i+k)):=jb1 (by omega);have hs:=jii (out:=out) (b:=b) (j:=i+k) (i:=i) (k:=k) (c:=c) (x:=dgt a i) (V:=val (a.take i)*val b) rfl (by omega) hv rfl;generalize hn:dgt out (i+k)+dgt a i*dgt b k+c=n at*;have a1:=and20 n;simp only[d1,List.getElem?_map,hyb,w1,w2,hjn,hj0,hjl,hy,w3,hn,w4,a1,go_sem];refine ja9 (k+1,out.set (i+k) (n % 1048576),n/1048576) ?_ ?_ ⟨?_,?_,ho.set (by omega),?_,?_,hs,fun j hj=> ?_⟩
   ·simp only[w5,hn,w4,Int.natCast_add,List.map_set,go_sem]
   ·show b.length-(k+1)<b.length-k;omega
   ·show k+1<=b.length;omega
   ·show(out.set (i+k) _).length=_;rw[List.length_set];exact hl
   ·show 0<=n/1048576;omega
   ·show n/1048576<1048576;omega
   ·have:=hz j hj;unfold dgt at this⊢;rw[List.getElem?_set_ne (by omega)];exact this
set_option maxHeartbeats 2000000 in
theorem t_pmulO(a b:List Int)(ha:OkD a)(hb:OkD b)(la:a.length<=100000000000)(lb:b.length<=100000000000):
  CtrM G.P 185 [.im (ints a),.im (ints b)] [] (fun r Es new=>r= .gsl 901 3 1 (dig (val a*val b).toNat).length/\Es=[]/\new=some (1,(padD (a.length+b.length) (val a*val b).toNat).map ic)):=by
 have w0:=ja6 (n:=(a.length:Int)+b.length) (by omega);have w00:((a.length:Int)+b.length)*8<=140737488355328:=by omega
 have w01:(0:Int)<=(a.length:Int)+b.length:=by omega
 have w02:((a.length:Int)+b.length).toNat=a.length+b.length:=by omega
 refine jmm good _ _ [.tmp 4] Tryz.func185 rfl rfl (by decide+kernel) rfl rfl (by simp) ?_;simp only[w0,w00,w01,w02,go_sem];refine jar [1,5,18,19,20] [17] (fun g:Nat×List Int=>⟨[(1,.im (.sl (b.map ic))),(5,.gsl 17 3 1 (a.length+b.length)),(18,.im (.sl (a.map ic))),(19,.im (.int a.length)),(20,.im (.int g.1))],[(17,1,g.2.map ic)],[]⟩)
  (fun g=>g.1<=a.length/\g.2.length=a.length+b.length/\OkD g.2/\val g.2=val (a.take g.1)*val b/\∀j,g.1+b.length<=j->dgt g.2 j=0) (fun g=>a.length-g.1) (0,List.replicate (a.length+b.length) 0) ?_
  ⟨Nat.zero_le _,List.length_replicate,OkD.replicate _,by dsimp only;rw[jda];simp[val],fun j _=>by
   unfold dgt;rw[List.getElem?_replicate];split<;>rfl⟩ ?_
 ·simp only[Int.natCast_zero,List.map_replicate,List.length_replicate,go_sem]
 intro⟨i,out0⟩ ⟨hi,hl0,ho0,hv0,hz0⟩;dsimp only at hi hl0 ho0 hv0 hz0;by_cases hp:(i:Int)<a.length
 case neg=>
  have hd:decide ((i:Int)<a.length)=false:=decide_eq_false hp;rw[jbj (l:=a) (i:=i) (by omega)]at hv0;have ht:=t_ptrimO out0 ho0 (by omega);rw[hv0,hl0]at ht;have hpad:=pad_eq ho0;rw[hl0,hv0]at hpad;have hall:(out0.map ic).take (a.length+b.length)=out0.map ic:=List.take_of_length_le (by rw[List.length_map];omega);have hle:a.length+b.length<=out0.length:=by omega
  simp only[hd,hle,hall,go_sem];refine jkw [(900,17)] (ht) (by decide) (by simp) (by simp[rnm,look]) (by repeat' (first | exact trivial | refine⟨rfl,?_⟩)) rfl rfl rfl rfl ?_ rfl;simp only[hpad,eq_self,go_sem]
 case pos=>
  have hd:decide ((i:Int)<a.length)=true:=decide_eq_true hp;have hx:=jb1 hp;have h1:=ja6 (n:=(i:Int)+1) (by omega);simp only[hd,List.getElem?_map,hx,go_sem];refine jar [1,5,6,7,8,18,19,20,25,26,27] [17] (fun g:Nat×List Int×Int=>⟨[(1,.im (.sl (b.map ic))),(5,.gsl 17 3 1 (a.length+b.length)),(6,.im (.int i)),(7,.im (.int (dgt a i))),(8,.im (.int g.2.2)),(18,.im (.sl (a.map ic))),(19,.im (.int a.length)),(20,.im (.int i)),(25,.im (.sl (b.map ic))),(26,.im (.int b.length)),(27,.im (.int g.1))],[(17,1,g.2.1.map ic)],[]⟩)
   (fun g=>g.1<=b.length/\g.2.1.length=a.length+b.length/\OkD g.2.1/\0<=g.2.2/\g.2.2<1048576/\val g.2.1+1048576^(i+g.1)*g.2.2=val (a.take i)*val b+1048576^i*(dgt a i*val (b.take g.1))/\∀j,i+b.length<=j->dgt g.2.1 j=0)
   (fun g=>b.length-g.1) (0,out0,0) ?_ ⟨Nat.zero_le _,hl0,ho0,Int.le_refl _,by dsimp only;omega,by dsimp only;rw[List.take_zero,hv0];simp[val],hz0⟩ ?_
  ·simp only[Int.natCast_zero,go_sem]
  intro⟨k,out,c⟩ ⟨hk,hl,ho,hc0,hc1,hv,hz⟩;dsimp only at hk hl ho hc0 hc1 hv hz;by_cases hkl:(k:Int)<b.length
  case neg=>
   have d1:decide ((k:Int)<b.length)=false:=decide_eq_false hkl;have hkb:k=b.length:=by omega
   subst hkb;rw[jbj (l:=b) (Nat.le_refl _)]at hv;obtain⟨g1,g2,g3,g4⟩:=jpe (a:=a) (by omega) ho hz ⟨hc0,hc1⟩ hv;have w1:=ja6 (n:=(i:Int)+b.length) (by omega);have hjn:((i:Int)+b.length).toNat=i+b.length:=by omega
   have hj0:(0:Int)<=(i:Int)+b.length:=by omega
   have hjl:(i:Int)+b.length<((a.length+b.length:Nat):Int):=by omega
   have hy:out[i+b.length]? =some (dgt out (i+b.length)):=jb1 (by omega);rw[hz _ (Nat.le_refl _)]at hy;have w2:=ja6 (n:=0+c) (by omega);rw[Int.zero_add]at w2;simp only[d1,w1,hjn,hj0,hjl,List.getElem?_map,hy,w2,Int.zero_add,go_sem];refine ja9 (i+1,out.set (i+b.length) c) ?_ ?_ ⟨?_,?_,g1,g3,g4⟩
   ·simp only[h1,Int.natCast_add,List.map_set,go_sem]
   ·show a.length-(i+1)<a.length-i;omega
   ·show i+1<=a.length;omega
   ·show(out.set (i+b.length) c).length=_;rw[g2];exact hl
  case pos=>
   have d1:decide ((k:Int)<b.length)=true:=decide_eq_true hkl;have hyb:=jb1 hkl;have hda:=ha.dgt i;have hdb:=hb.dgt k;have hdo:=ho.dgt (i+k);have hmul:=jhx hda hdb;have w1:=ja6 (n:=(i:Int)+k) (by omega);have w2:=ja6 (n:=dgt a i*dgt b k) (by omega);have w3:=ja6 (n:=dgt out (i+k)+dgt a i*dgt b k) (by omega);have w4:=ja6 (n:=dgt out (i+k)+dgt a i*dgt b k+c) (by omega);have w5:=ja6 (n:=(k:Int)+1) (by omega);have hjn:((i:Int)+k).toNat=i+k:=by omega
   have hj0:(0:Int)<=(i:Int)+k:=by omega
   have hjl:(i:Int)+k<((a.length+b.length:Nat):Int):=by omega
   have hy:out[i+k]? =some (dgt out (i+k)):=jb1 (by omega);have hs:=jii (out:=out) (b:=b) (j:=i+k) (i:=i) (k:=k) (c:=c) (x:=dgt a i) (V:=val (a.take i)*val b) rfl (by omega) hv rfl;generalize hn:dgt out (i+k)+dgt a i*dgt b k+c=n at*;have a1:=and20 n;simp only[d1,List.getElem?_map,hyb,w1,w2,hjn,hj0,hjl,hy,w3,hn,w4,a1,go_sem];refine ja9 (k+1,out.set (i+k) (n % 1048576),n/1048576) ?_ ?_ ⟨?_,?_,ho.set (by omega),?_,?_,hs,fun j hj=> ?_⟩
   ·simp only[w5,hn,w4,Int.natCast_add,List.map_set,go_sem]
   ·show b.length-(k+1)<b.length-k;omega
   ·show k+1<=b.length;omega
   ·show(out.set (i+k) _).length=_;rw[List.length_set];exact hl
   ·show 0<=n/1048576;omega
   ·show n/1048576<1048576;omega
   ·have:=hz j hj;unfold dgt at this⊢;rw[List.getElem?_set_ne (by omega)];exact this
end
section
open Go.Abs
attribute [local go_sem] ints ic big
theorem jgw{n k:Nat}(h:(dig n).length<=k):(n:Int)<1048576^k:=by
 have:=jdr (jbc n);rw[jas]at this;exact Int.lt_of_lt_of_le this (by
  have h3:=Int.ofNat_le.2 (Nat.pow_le_pow_right (n:=1048576) (by omega) h);rw[Int.natCast_pow,Int.natCast_pow]at h3;exact h3)
theorem len_add{n a b k:Nat}(ha:(dig a).length<=k)(hb:(dig b).length<=k)(h:n<=a+b):(dig n).length<=k+1:=by
 refine jbb ?_;have h1:=jgw ha;have h2:=jgw hb;rw[jcc];omega
end
section
open Go.Abs
attribute [local go_sem] ints ic
set_option maxHeartbeats 2000000 in
theorem t_over(a b:List Int)(ha:OkD a)(hb:OkD b)(hb0:0<val b)(la:a.length<=100000000000)(lb:b.length<=50000000000):
  Ctr G.P 203 [ints a,ints b] (· = .tup [ints (dig (val a/val b).toNat),ints (dig (val a % val b).toNat)]):=by
 have hw:=ja6 (n:=(a.length:Int)-1) (by omega);have ht:((a.length:Int)).toNat=a.length:=by omega
 have hb8:(a.length:Int)*8<=140737488355328:=by omega
 have hbl:=jdr hb;refine jaa good _ _ [.tmp 4,.tmp 5] Tryz.func203 rfl rfl (by decide+kernel) rfl ?_;simp only[hw,ht,hb8,go_sem];refine jdm [0,1,6,7,8] [14] [(7,0,0,0)] (fun g:Nat×List Int×Nat=>⟨[(0,.im (.sl (a.map ic))),(1,.im (.sl (b.map ic))),(6,.gsl 14 3 1 a.length),(7,.im (.sl ((dig g.2.2).map ic))),(8,.im (.int ((g.1:Int)-1)))],[(14,1,g.2.1.map ic)],[]⟩)
  (fun g=>g.1<=a.length/\g.2.1.length=a.length/\OkD g.2.1/\(g.2.2:Int)<val b/\val (a.drop g.1)=val (g.2.1.drop g.1)*val b+g.2.2) (fun g=>g.1) (a.length,List.replicate a.length 0,0) ?_ ?_
  ⟨Nat.le_refl _,List.length_replicate,OkD.replicate _,hb0,by dsimp only;rw[List.drop_of_length_le (Nat.le_refl _),List.drop_of_length_le (by rw[List.length_replicate];exact Nat.le_refl _)];simp[val]⟩ ?_
 ·simp only[go_sem]
 ·simp only[jbf,List.map_nil,List.map_replicate,List.length_replicate,go_sem]
 ·intro⟨n,q,R⟩ ⟨hn,hl,hq,hR,hv⟩;dsimp only at hn hl hq hR hv;rcases n with _ | m
  ·have hd:decide ((0:Int)<=((0:Nat):Int)-1)=false:=by decide
   rw[List.drop_zero,List.drop_zero]at hv;obtain⟨e1,e2⟩:=jm8 hv (by omega) hR;have htr:=jl1 q hq (by omega);rw[e1]at htr;have hRn:R=(val a % val b).toNat:=by omega
   have hall:(q.map ic).take a.length=q.map ic:=List.take_of_length_le (by rw[List.length_map];omega);simp only[hd,hl,Nat.le_refl,hall,go_sem];refine ja1 htr (by decide) ?_;simp only[hRn,go_sem]
  ·have h2:((m+1:Nat):Int)-1=m:=by omega
   have hd:decide ((0:Int)<=(m:Int))=true:=decide_eq_true (by omega);have hx:=jb1 (l:=a) (i:=m) (by omega);have hmi:(m:Int)<a.length:=by omega
   have had:=ha.dgt m;have hw3:=ja6 (n:=(m:Int)-1) (by omega);have hlR:(dig R).length<=b.length:=jbb (by omega);have hok:OkD (dgt a m::dig R):=OkD.cons had (jbc _);have htr:=jl1 (dgt a m::dig R) hok (by rw[List.length_cons];omega);have hvr:val (dgt a m::dig R)=dgt a m+1048576*R:=by
    show dgt a m+1048576*val (dig R)=_;rw[jas]
   rw[hvr]at htr;obtain⟨R',hR'⟩:∃R':Nat,(R':Int)=dgt a m+1048576*R:=⟨(dgt a m+1048576*R).toNat,by omega⟩;rw[<-hR',Int.toNat_natCast]at htr;have hRB:(R':Int)<1048576*val b:=by omega
   have hlR':(dig R').length<=b.length+1:=jbb (by rw[jcc];omega);simp only[h2,hd,List.getElem?_map,hx,go_sem];refine⟨by simp,jg9 _,by omega,?_⟩;refine ja1 htr (by decide) ?_;simp only[go_sem];refine jar [0,1,6,7,8,9,10] [14] (fun g:Int×Int=>⟨[(0,.im (.sl (a.map ic))),(1,.im (.sl (b.map ic))),(6,.gsl 14 3 1 a.length),(7,.im (.sl ((dig R').map ic))),(8,.im (.int m)),(9,.im (.int g.1)),(10,.im (.int g.2))],[(14,1,q.map ic)],[]⟩)
    (fun g=>0<=g.1/\g.1<g.2/\g.2<=1048576/\g.1*val b<=R'/\(R':Int)<g.2*val b) (fun g=>(g.2-g.1).toNat) (0,1048576) ?_ ⟨Int.le_refl _,by decide,Int.le_refl _,by dsimp only;omega,hRB⟩ ?_
   ·simp only[h2,go_sem]
   ·intro⟨lo,hi⟩ ⟨g1,g2,g3,g4,g5⟩;dsimp only at g1 g2 g3 g4 g5;have w1:=ja6 (n:=hi-lo) (by omega);have w2:=ja6 (n:=lo+hi) (by omega);by_cases hp:1<hi-lo
    ·have hdp:decide (1<hi-lo)=true:=decide_eq_true hp;obtain⟨mid,hmid⟩:∃mid,mid=(lo+hi)/2:=⟨_,rfl⟩;have hq2:IntKind.i64.wrap ((lo+hi).tdiv 2)=mid:=by
      rw[Int.tdiv_eq_ediv_of_nonneg (by omega),<-hmid];exact ja6 (by omega)
     have hmo:OkD [mid]:=OkD.cons (by omega) OkD.nil;have htm:=job b [mid] hb hmo (by omega) (by simp);rw[jig]at htm;have hbm:0<=val b*mid:=Int.mul_nonneg (by omega) (by omega);have hbm2:val b*mid<=val b*1048576:=Int.mul_le_mul_of_nonneg_left (by omega) (by omega);have hlm:(dig (val b*mid).toNat).length<=b.length+1:=jbb (by rw[jcc];omega);have hls:=t_less (dig R') (dig (val b*mid).toNat) (jbc _) (jbc _) (by omega) (by omega);rw[jas,jas,Int.toNat_of_nonneg hbm]at hls;simp only[ints,ic,List.map_cons,List.map_nil]at htm;simp only[w1,w2,hdp,hq2,go_sem];refine ja1 htm (by decide) ?_;simp only[go_sem];refine ja1 hls (by decide) ?_;simp only[go_sem];refine jc2 (fun he he'=> ?_) (fun he he'=> ?_)
     ·simp only[go_sem];refine ja9 (lo,mid) ?_ (by dsimp only;omega) ⟨g1,by dsimp only;omega,by dsimp only;omega,g4,by dsimp only;rw[Int.mul_comm];exact he'⟩;simp only[go_sem]
     ·simp only[go_sem];refine ja9 (mid,hi) ?_ (by dsimp only;omega) ⟨by dsimp only;omega,by dsimp only;omega,g3,by dsimp only;rw[Int.mul_comm];omega,g5⟩;simp only[go_sem]
    ·have hdp:decide (1<hi-lo)=false:=decide_eq_false hp;have hhi:hi=lo+1:=by omega
     subst hhi;rw[Int.add_mul,Int.one_mul]at g5;have hlo:OkD [lo]:=OkD.cons (by omega) OkD.nil;have htl:=jl1 [lo] hlo (by simp);rw[jig]at htl;have hll:(dig lo.toNat).length<=1:=jbb (by omega);have htm:=job b (dig lo.toNat) hb (jbc _) (by omega) (by omega);rw[jas,Int.toNat_of_nonneg g1]at htm;have hbl2:0<=val b*lo:=Int.mul_nonneg (by omega) g1;have hcm:=Int.mul_comm (val b) lo;have hlm:(dig (val b*lo).toNat).length<=b.length+1:=jbb (by rw[jcc];omega);have hmn:=t_minus (dig R') (dig (val b*lo).toNat) (jbc _) (jbc _) (by rw[jas,jas,Int.toNat_of_nonneg hbl2];omega) (by omega) (by omega);rw[jas,jas,Int.toNat_of_nonneg hbl2]at hmn;have hst:=jhw (lo:=lo) (by omega:m<q.length) hv;simp only[ints,ic,List.map_cons,List.map_nil]at htl;simp only[w1,hdp,hmi,go_sem];have hqx:=jb1 (l:=q) (i:=m) (by omega);simp only[List.getElem?_map,hqx,<-List.map_set,hmi,go_sem];refine ja1 htl (by decide) ?_;simp only[go_sem];refine ja1 htm (by decide) ?_;simp only[go_sem];refine ja1 hmn (by decide) ?_;simp only[go_sem];refine ja9 (m,q.set m lo,((R':Int)-val b*lo).toNat) ?_ (by dsimp only;omega) ⟨by dsimp only;omega,by dsimp only;rw[List.length_set];exact hl,hq.set (by omega),by dsimp only;omega,?_⟩
     ·simp only[hw3,List.map_set,go_sem]
     ·dsimp only;rw[hst,Int.toNat_of_nonneg (by omega)];omega
end
section
open Go.Abs
attribute [local go_sem] ints ic big
theorem jcz{n m k:Nat}(h:n<=m)(hm:(dig m).length<=k):(dig n).length<=k:=jbb (by have:=jgw hm;omega)
theorem t_overn(x y:Nat)(hy:0<y)(lx:(dig x).length<=100000000000)(ly:(dig y).length<=50000000000):Ctr G.P 203 [ints (dig x),ints (dig y)] (· = .tup [ints (dig (x/y)),ints (dig (x % y))]):=by
 have:=t_over (dig x) (dig y) (jbc _) (jbc _) (by rw[jas];omega) lx ly;rw[jas,jas,<-Int.natCast_ediv,<-Int.natCast_emod,Int.toNat_natCast,Int.toNat_natCast]at this;exact this
theorem t_gcd(a b:Int)(la:(dig a.natAbs).length<=50000000000)(lb:(dig b.natAbs).length<=50000000000):Ctr G.P 161 [big a,big b] (· = .tup [big (Nat.gcd a.natAbs b.natAbs:Nat),.int 0]):=by
 have ra:=jf4 a (by omega);have rb:=jf4 b (by omega);refine jaa good _ _ [.cell 4 40,.tmp 5] Tryz.func161 rfl rfl (by decide+kernel) rfl ?_;simp only[go_sem];refine ja1 ra (by decide) ?_;simp only[go_sem];refine ja1 rb (by decide) ?_;simp only[go_sem];refine jar [4,6,7] [4] (fun g:Nat×Nat=>⟨[(4,.loc 4 2 0 0),(6,.im (.sl ((dig g.1).map ic))),(7,.im (.sl ((dig g.2).map ic)))],[(4,2,[[.int 0,.sl []]])],[]⟩)
  (fun g=>Nat.gcd g.1 g.2=Nat.gcd a.natAbs b.natAbs/\(dig g.1).length<=50000000000/\(dig g.2).length<=50000000000) (fun g=>g.2) (a.natAbs,b.natAbs) ?_ ⟨rfl,la,lb⟩ ?_
 ·simp only[go_sem]
 ·intro⟨x,y⟩ ⟨hg,lx,ly⟩;dsimp only at hg lx ly;by_cases hy:y=0
  ·subst hy;rw[Nat.gcd_zero_right]at hg;rw[<-hg];have hm:=t_madeb 1 x x (by omega) (fun h=>(Int.sign_eq_one_of_pos (by omega)).symm) (by rw[Int.natAbs_natCast];omega);simp only[jbf,List.map_nil,go_sem];refine ja1 hm (by decide) ?_;simp only[go_sem]
  ·have hne:dig y≠[]:=fun h=>hy (dig_nil.1 h);have hlp:=List.length_pos_iff.2 hne;have hd:decide (0<((dig y).length:Int))=true:=decide_eq_true (by omega);have ho:=t_overn x y (by omega) (by omega) ly;have hlt:=Nat.mod_lt x (by omega:y>0);simp only[hd,go_sem];refine ja1 ho (by decide) ?_;simp only[go_sem];refine ja9 (y,x % y) ?_ hlt ⟨?_,ly,jcz (by omega) ly⟩
   ·simp only[go_sem]
   ·show Nat.gcd y (x % y)=_;rw[<-hg,Nat.gcd_comm x y,Nat.gcd_rec y x,Nat.gcd_comm]
end
section
open Go.Abs
attribute [local go_sem] ints ic mb20 pw20 fd20
theorem t_nan(x:Int):Ctr G.P 186 [.int x] (· = .bool false):=by
 refine jaa good _ _ [.tmp 2] Tryz.func186 rfl rfl (by decide+kernel) rfl ?_;simp only[eq_self,go_sem]
theorem t_cmp(x y:Int):Ctr G.P 140 [.int x,.int y] (· = .int (cmpI x y)):=by
 have h1:=t_nan x;have h2:=t_nan y;refine jaa good _ _ [.tmp 4] Tryz.func140 rfl rfl (by decide+kernel) rfl ?_;simp only[go_sem];refine ja1 h1 (by decide) ?_;simp only[go_sem];refine ja1 h2 (by decide) ?_;simp only[go_sem];refine jc2 (fun d1 d1'=> ?_) (fun d1 d1'=> ?_)
 ·have:cmpI x y= -1:=if_pos d1';rw[this];simp only[d1,go_sem]
 ·simp only[d1,go_sem];refine jc2 (fun d2 d2'=> ?_) (fun d2 d2'=> ?_)
  ·have:cmpI x y=1:=by rw[cmpI,if_neg d1',if_neg (by omega)]
   rw[this];simp only[d1,d2,go_sem]
  ·have:cmpI x y=0:=by rw[cmpI,if_neg d1',if_pos (by omega)]
   rw[this];simp only[d1,d2,go_sem]
theorem cmp_len{n m:Nat}(h:(dig n).length≠(dig m).length):cmpI ((dig n).length:Int) ((dig m).length:Int)=cmpI (n:Int) (m:Int):=by
 rcases Nat.lt_or_gt_of_ne h with h1 | h1
 ·have:n<m:=by
   rcases Nat.lt_or_ge n m with h2 | h2
   ·exact h2
   ·have:=jcz h2 (Nat.le_refl _);omega
  rw[cmpI,cmpI,if_pos (by omega),if_pos (by omega)]
 ·have:m<n:=by
   rcases Nat.lt_or_ge m n with h2 | h2
   ·exact h2
   ·have:=jcz h2 (Nat.le_refl _);omega
  rw[cmpI,cmpI,if_neg (by omega),if_neg (by omega),if_neg (by omega),if_neg (by omega)]
theorem cmp_dgt{a b:List Int}(ha:OkD a)(hb:OkD b){m:Nat}(h:∀j,m<j->dgt a j=dgt b j)(hne:dgt a m≠dgt b m):cmpI (dgt a m) (dgt b m)=cmpI (val a) (val b):=by
 rcases Int.lt_or_gt_of_ne hne with h1 | h1
 ·have:=lt_at ha hb m h h1;rw[cmpI,cmpI,if_pos h1,if_pos this]
 ·have:=lt_at hb ha m (fun j hj=>(h j hj).symm) h1;rw[cmpI,cmpI,if_neg (by omega),if_neg (by omega),if_neg (by omega),if_neg (by omega)]
set_option maxHeartbeats 1000000 in
theorem jfe(x y:Nat)(lx:(dig x).length<=1000000000000)(ly:(dig y).length<=1000000000000):Ctr G.P 135 [ints (dig x),ints (dig y)] (· = .int (cmpI (x:Int) (y:Int))):=by
 by_cases hl:(dig x).length=(dig y).length
 case neg=>
  have hc:=t_cmp ((dig x).length:Int) ((dig y).length:Int);rw[cmp_len hl]at hc;have hd:decide (((dig x).length:Int)=(dig y).length)=false:=decide_eq_false (by omega);refine jaa good _ _ [.tmp 4] Tryz.func135 rfl rfl (by decide+kernel) rfl ?_;simp only[hd,go_sem];refine ja1 hc (by decide) ?_;simp only[go_sem]
 case pos=>
  have hvx:=jas x;have hvy:=jas y;have hox:=jbc x;have hoy:=jbc y;generalize dig x=a at*;generalize dig y=b at*;rw[<-hvx,<-hvy];have hli:(a.length:Int)=b.length:=by omega
  have hw:=ja6 (n:=(b.length:Int)-1) (by omega);refine jaa good _ _ [.tmp 4] Tryz.func135 rfl rfl (by decide+kernel) rfl ?_;simp only[hli,eq_self,hw,go_sem];refine jar [0,1,5] [] (fun n:Nat=>⟨[(0,.im (.sl (a.map ic))),(1,.im (.sl (b.map ic))),(5,.im (.int ((n:Int)-1)))],[],[]⟩) (fun n=>n<=b.length/\∀j,n<=j->dgt a j=dgt b j) (fun n=>n) b.length ?_
   ⟨Nat.le_refl _,fun j hj=>by rw[jde (by omega),jde (by omega)]⟩ ?_
  ·simp only[hw,go_sem]
  intro n ⟨hn,hz⟩;rcases n with _ | m
  ·have hd:decide ((0:Int)<=((0:Nat):Int)-1)=false:=by decide
   have hv:val a=val b:=jm4 fun j=>hz j (Nat.zero_le _);have hv':cmpI (val a) (val b)=0:=by rw[cmpI,if_neg (by omega),if_pos hv]
   rw[hv'];simp only[hd,go_sem]
  ·have h2:((m+1:Nat):Int)-1=m:=by omega
   have hd:decide ((0:Int)<=(m:Int))=true:=decide_eq_true (by omega);have h3:=ja6 (n:=(m:Int)-1) (by omega);have hx:=jb1 (l:=a) (i:=m) (by omega);have hy:=jb1 (l:=b) (i:=m) (by omega);simp only[h2,hd,go_sem];refine jau 9 (by decide+kernel) ?_;simp only[h2,List.getElem?_map,hx,hy,go_sem];refine jc2 (fun he he'=> ?_) (fun he he'=> ?_)
   ·simp only[h2,he,go_sem];refine ja9 m ?_ (by omega) ⟨by omega,fun j hj=> ?_⟩
    ·simp only[h2,h3,go_sem]
    ·rcases Nat.lt_or_ge m j with h | h
     ·exact hz j h
     ·rw[show j=m by omega];exact he'
   ·have hc:=t_cmp (dgt a m) (dgt b m);rw[cmp_dgt hox hoy (fun j hj=>hz j hj) he']at hc;simp only[h2,he,go_sem];refine jau 10 (by decide+kernel) ?_;simp only[h2,List.getElem?_map,hx,hy,go_sem];refine ja5 hc (by decide) ?_;simp only[go_sem]
end
section
open Go.Abs
attribute [local go_sem] ints ic mb20 pw20 fd20
def winL(U:List Int)(i:Nat)(X:List Int):List Int:=U.take i++X++U.drop (i+X.length)
theorem joy{U X:List Int}{i:Nat}(h:i+X.length<=U.length):(winL U i X).length=U.length:=by
 simp only[winL,List.length_append,List.length_take,List.length_drop];omega
theorem joz{U X:List Int}{i k:Nat}(hi:i<=U.length)(hk:k<X.length):(winL U i X)[i+k]? =some (dgt X k):=by
 have hl:(U.take i).length=i:=by rw[List.length_take];omega
 rw[winL,List.append_assoc,List.getElem?_append_right (by omega),hl,Nat.add_sub_cancel_left,List.getElem?_append_left hk];exact jb1 (by omega)
theorem jow{U X:List Int}{i k:Nat}{y:Int}(hi:i<=U.length)(hk:k<X.length):(winL U i X).set (i+k) y=winL U i (X.set k y):=by
 have hl:(U.take i).length=i:=by rw[List.length_take];omega
 rw[winL,winL,List.length_set,List.append_assoc,List.append_assoc,List.set_append_right _ _ (by omega),hl,Nat.add_sub_cancel_left,List.set_append_left _ _ hk]
theorem winL_self{U:List Int}{i m:Nat}(h:i+m<=U.length):winL U i ((U.drop i).take m)=U:=by
 have hl:((U.drop i).take m).length=m:=by rw[List.length_take,List.length_drop];omega
 rw[winL,hl,List.append_assoc,<-List.drop_drop,List.take_append_drop,List.take_append_drop]
theorem mul_step{out v:List Int}{k:Nat}{c n g V:Int}(hi:k<out.length)(h:val out-1048576^k*c=V-g*val (v.take k))(hn:n=dgt out k-c-g*dgt v k):
  val (out.set k (n % 1048576))-1048576^(k+1)* -(n/1048576)=V-g*val (v.take (k+1)):=by
 rw[jfu _ _ _ hi,jbv,jcc];generalize (1048576:Int)^k=p at*;have e0:=Int.emod_add_mul_ediv n 1048576;have e:p*(n % 1048576-dgt out k)-p*1048576* -(n/1048576)=p*(n-dgt out k):=by
  rw[Int.mul_assoc,<-Int.mul_sub];congr 1;omega
 have e2:p*(n-dgt out k)= -(p*(g*dgt v k))-p*c:=by
  rw[hn,show dgt out k-c-g*dgt v k-dgt out k= -(g*dgt v k)-c by omega,Int.mul_sub,Int.mul_neg]
 have e3:g*(val (v.take k)+p*dgt v k)=g*val (v.take k)+p*(g*dgt v k):=by rw[Int.mul_add,Int.mul_left_comm]
 rw[e3];omega
theorem back_step{out v:List Int}{k:Nat}{c n V:Int}(hi:k<out.length)(h:val out+1048576^k*c=V+val (v.take k))(hn:n=c+dgt out k+dgt v k):
  val (out.set k (n % 1048576))+1048576^(k+1)*(n/1048576)=V+val (v.take (k+1)):=by
 rw[jfu _ _ _ hi,jbv,jcc];generalize (1048576:Int)^k=p at*;have e0:=Int.emod_add_mul_ediv n 1048576;have e:p*(n % 1048576-dgt out k)+p*1048576*(n/1048576)=p*(n-dgt out k):=by
  rw[Int.mul_assoc,<-Int.mul_add];congr 1;omega
 have e2:p*(n-dgt out k)=p*c+p*dgt v k:=by
  rw[hn,show c+dgt out k+dgt v k-dgt out k=c+dgt v k by omega,Int.mul_add]
 omega
def jgc(w v g:Int):Int:=if 0<=w-g*v then g else g-1
set_option maxHeartbeats 2000000 in
theorem jp1(U W v:List Int)(i0 n:Nat)(g:Int)(hW:OkD W)(hv:OkD v)(lW:W.length=n+1)(lv:v.length=n)(hU:i0+(n+1)<=U.length)(hU2:U.length<=10000000000000)
  (hg:0<=g/\g<1048576) (hq:0<=val W-g*val v\/0<=val W-(g-1)*val v):
  CtrM G.P 235 [.osl 900 1 i0 (n+1),.im (ints v),.im (.int g)] [(900,1,(winL U i0 W).map ic)]
   (fun r Es new=>r= .im (.int (jgc (val W) (val v) g))/\Es=[(winL U i0 (padD (n+1) (val W-jgc (val W) (val v) g*val v).toNat)).map ic]/\new=none):=by
 have hWl:=jdr hW;have hv0:=jaw hv;have hgv:0<=g*val v:=Int.mul_nonneg hg.1 hv0;rw[lW]at hWl;refine jmm good _ _ [.tmp 6] Tryz.func235 rfl rfl (by decide+kernel) rfl rfl (by simp) ?_;simp only[go_sem];refine jar [0,1,2,7,12,13,14] [900] (fun s:Nat×List Int×Int=>⟨[(0,.osl 900 1 i0 (n+1)),(1,.im (.sl (v.map ic))),(2,.im (.int g)),(7,.im (.int s.2.2)),(12,.osl 900 1 i0 (n+1)),(13,.im (.int ((n+1:Nat):Int))),(14,.im (.int s.1))],[(900,1,(winL U i0 s.2.1).map ic)],[]⟩)
  (fun s=>s.1<=n+1/\s.2.1.length=n+1/\OkD s.2.1/\0<=s.2.2/\s.2.2<=1048576/\val s.2.1-1048576^s.1*s.2.2=val W-g*val (v.take s.1)) (fun s=>n+1-s.1) (0,W,0) ?_
  ⟨Nat.zero_le _,lW,hW,Int.le_refl _,by dsimp only;omega,by dsimp only;simp[val]⟩ ?_
 ·simp only[Int.natCast_zero,go_sem]
 intro⟨k,X,c⟩ ⟨hk,lX,hX,hc0,hc1,hinv⟩;dsimp only at hk lX hX hc0 hc1 hinv;by_cases hp:(k:Int)<((n+1:Nat):Int)
 case pos=>
  have hd:decide ((k:Int)<((n+1:Nat):Int))=true:=decide_eq_true hp;have hdX:=hX.dgt k;have hdv:=hv.dgt k;have hmul:=jhx hg hdv;have h1:=ja6 (n:=(k:Int)+1) (by omega);have hy:=joz (U:=U) (X:=X) (i:=i0) (k:=k) (by omega) (by omega);have w0:=ja6 (n:=g*dgt v k) (by omega);have w1:=ja6 (n:=dgt X k-c) (by omega);have w2:=ja6 (n:=dgt X k-c-g*dgt v k) (by omega);have hs:=mul_step (by omega:k<X.length) hinv rfl;generalize hN:dgt X k-c-g*dgt v k=t at*;have a1:=and20 t;have a2:=ja6 (n:=0-t/1048576) (by omega);have hset:((winL U i0 X).map ic).set (i0+k) [.sc (.int .i64 (t % 1048576))]=(winL U i0 (X.set k (t % 1048576))).map ic:=by
   rw[<-jow (by omega) (by omega),List.map_set];rfl
  have e0:0-t/1048576= -(t/1048576):=by omega
  rw[e0]at a2;have fin:(0<= -(t/1048576)/\ -(t/1048576)<=1048576)/\(X.set k (t % 1048576)).length=n+1/\OkD (X.set k (t % 1048576)):=
   ⟨by omega,by rw[List.length_set];exact lX,hX.set (by omega)⟩
  obtain⟨f1,f2,f3⟩:=fin;by_cases hbl:(k:Int)<v.length
  ·have hd2:decide ((k:Int)<v.length)=true:=decide_eq_true hbl;have hxb:=jb1 hbl;simp only[hd,hp,hd2,List.getElem?_map,hxb,hy,w0,w1,hN,w2,a1,a2,hset,e0,go_sem];refine ja9 (k+1,X.set k (t % 1048576),-(t/1048576)) ?_ ?_ ⟨?_,f2,f3,f1.1,f1.2,hs⟩
   ·simp only[h1,Int.natCast_add,go_sem]
   ·show n+1-(k+1)<n+1-k;omega
   ·show k+1<=n+1;omega
  ·have hd2:decide ((k:Int)<v.length)=false:=decide_eq_false hbl;have hb0:dgt v k=0:=jde (by omega);rw[hb0,Int.mul_zero,Int.sub_zero]at hN;rw[hN]at w1;simp only[hd,hp,hd2,List.getElem?_map,hy,hN,w1,a1,a2,hset,e0,go_sem];refine ja9 (k+1,X.set k (t % 1048576),-(t/1048576)) ?_ ?_ ⟨?_,f2,f3,f1.1,f1.2,hs⟩
   ·simp only[h1,Int.natCast_add,go_sem]
   ·show n+1-(k+1)<n+1-k;omega
   ·show k+1<=n+1;omega
 case neg=>
  have hd:decide ((k:Int)<((n+1:Nat):Int))=false:=decide_eq_false hp;have hkn:k=n+1:=by omega
  subst hkn;rw[jbj (l:=v) (by omega)]at hinv;have hXl:=jdr hX;have hX0:=jaw hX;rw[lX]at hXl;by_cases hc:c=0
  ·subst hc;rw[Int.mul_zero,Int.sub_zero]at hinv;have hset:jgc (val W) (val v) g=g:=if_pos (by omega);have hpad:=pad_eq hX;rw[lX,hinv]at hpad;rw[hset];simp only[hd,<-hpad,eq_self,go_sem]
  ·have hcd:decide (c=0)=false:=decide_eq_false hc;have hP:=jdc (n+1);have hcm:1048576^(n+1)*1<=1048576^(n+1)*c:=Int.mul_le_mul_of_nonneg_left (by omega) (by omega);have hneg:¬0<=val W-g*val v:=by omega
   have hset:jgc (val W) (val v) g=g-1:=if_neg hneg;have hq':=hq.resolve_left hneg;rw[hset];have wg:=ja6 (n:=g-1) (by omega);simp only[hd,hcd,go_sem];refine jar [0,1,2,10,47,48,49] [900] (fun s:Nat×List Int×Int=>⟨[(0,.osl 900 1 i0 (n+1)),(1,.im (.sl (v.map ic))),(2,.im (.int g)),(10,.im (.int s.2.2)),(47,.osl 900 1 i0 (n+1)),(48,.im (.int ((n+1:Nat):Int))),(49,.im (.int s.1))],[(900,1,(winL U i0 s.2.1).map ic)],[]⟩)
    (fun s=>s.1<=n+1/\s.2.1.length=n+1/\OkD s.2.1/\0<=s.2.2/\s.2.2<=1/\val s.2.1+1048576^s.1*s.2.2=val X+val (v.take s.1)) (fun s=>n+1-s.1) (0,X,0) ?_
    ⟨Nat.zero_le _,lX,hX,Int.le_refl _,by dsimp only;omega,by dsimp only;simp[val]⟩ ?_
   ·simp only[Int.natCast_zero,go_sem]
   intro⟨k,Y,e⟩ ⟨hk2,lY,hY,he0,he1,hinv2⟩;dsimp only at hk2 lY hY he0 he1 hinv2;by_cases hp2:(k:Int)<((n+1:Nat):Int)
   case pos=>
    have hd3:decide ((k:Int)<((n+1:Nat):Int))=true:=decide_eq_true hp2;have hdY:=hY.dgt k;have hdv:=hv.dgt k;have h1:=ja6 (n:=(k:Int)+1) (by omega);have hy:=joz (U:=U) (X:=Y) (i:=i0) (k:=k) (by omega) (by omega);have w1:=ja6 (n:=e+dgt Y k) (by omega);have w2:=ja6 (n:=e+dgt Y k+dgt v k) (by omega);have hs:=back_step (by omega:k<Y.length) hinv2 rfl;generalize hN:e+dgt Y k+dgt v k=t at*;have a1:=and20 t;have hset2:((winL U i0 Y).map ic).set (i0+k) [.sc (.int .i64 (t % 1048576))]=(winL U i0 (Y.set k (t % 1048576))).map ic:=by
     rw[<-jow (by omega) (by omega),List.map_set];rfl
    have fin:(0<=t/1048576/\t/1048576<=1)/\(Y.set k (t % 1048576)).length=n+1/\OkD (Y.set k (t % 1048576)):=
     ⟨by omega,by rw[List.length_set];exact lY,hY.set (by omega)⟩
    obtain⟨f1,f2,f3⟩:=fin;by_cases hbl:(k:Int)<v.length
    ·have hd2:decide ((k:Int)<v.length)=true:=decide_eq_true hbl;have hxb:=jb1 hbl;simp only[hd3,hp2,hd2,List.getElem?_map,hxb,hy,w1,hN,w2,a1,hset2,go_sem];refine ja9 (k+1,Y.set k (t % 1048576),t/1048576) ?_ ?_ ⟨?_,f2,f3,f1.1,f1.2,hs⟩
     ·simp only[h1,Int.natCast_add,go_sem]
     ·show n+1-(k+1)<n+1-k;omega
     ·show k+1<=n+1;omega
    ·have hd2:decide ((k:Int)<v.length)=false:=decide_eq_false hbl;have hb0:dgt v k=0:=jde (by omega);rw[hb0,Int.add_zero]at hN;rw[hN]at w1;simp only[hd3,hp2,hd2,List.getElem?_map,hy,hN,w1,a1,hset2,go_sem];refine ja9 (k+1,Y.set k (t % 1048576),t/1048576) ?_ ?_ ⟨?_,f2,f3,f1.1,f1.2,hs⟩
     ·simp only[h1,Int.natCast_add,go_sem]
     ·show n+1-(k+1)<n+1-k;omega
     ·show k+1<=n+1;omega
   case neg=>
    have hd3:decide ((k:Int)<((n+1:Nat):Int))=false:=decide_eq_false hp2;have hkn:k=n+1:=by omega
    subst hkn;rw[jbj (l:=v) (by omega)]at hinv2;have hYl:=jdr hY;have hY0:=jaw hY;rw[lY]at hYl;have hYv:val Y=val W-(g-1)*val v:=by
     have e1:(g-1)*val v=g*val v-val v:=by rw[Int.sub_mul];omega
     rw[e1]at hq'⊢;have e2:1048576^(n+1)*(c-e)=1048576^(n+1)*c-1048576^(n+1)*e:=Int.mul_sub ..;have hce:c-e=0:=by
      rcases Int.lt_trichotomy (c-e) 0 with h | h | h
      ·have:1048576^(n+1)*(c-e)<=1048576^(n+1)*(-1):=Int.mul_le_mul_of_nonneg_left (by omega) (by omega);omega
      ·exact h
      ·have:1048576^(n+1)*1<=1048576^(n+1)*(c-e):=Int.mul_le_mul_of_nonneg_left (by omega) (by omega);omega
     rw[hce,Int.mul_zero]at e2;omega
    have hpad:=pad_eq hY;rw[lY,hYv]at hpad;simp only[hd3,wg,<-hpad,eq_self,go_sem]
end
end Go.Proofs.YtfahloobpegieaaGreat
namespace Go.Abs
section
theorem ex2(x y D:Int):(x*1048576+y)*D=1048576*(x*D)+y*D:=by
 rw[Int.add_mul,Int.mul_comm x,Int.mul_assoc]
theorem ex3(g x y D z:Int):g*((x*1048576+y)*D+z)=1048576*(g*x*D)+g*y*D+g*z:=by
 rw[ex2,Int.mul_add,Int.mul_add,Int.mul_left_comm g,<-Int.mul_assoc g,<-Int.mul_assoc g]
theorem knuth_first{g rest top v1 v2 w V W D Vl Wl:Int}(hD:0<D)(hV:V=(v1*1048576+v2)*D+Vl)(hVl:0<=Vl)(hv2:0<=v2)(hW:W=(top*1048576+w)*D+Wl)(hWl:Wl<D)
  (hw:w<1048576) (hg:g*v1+rest=top) (hr:rest<v1) (g0:0<=g):W<(g+1)*V:=by
 have h1:0<=g*(v2*D):=Int.mul_nonneg g0 (Int.mul_nonneg hv2 (by omega));have h1':0<=g*Vl:=Int.mul_nonneg g0 hVl;have h1'':0<=v2*D:=Int.mul_nonneg hv2 (by omega);have h2:(top+1)*D<=(g*v1+v1)*D:=Int.mul_le_mul_of_nonneg_right (by omega) (by omega);have h3:w*D<=1048575*D:=Int.mul_le_mul_of_nonneg_right (by omega) (by omega);have e:(g+1)*V=g*V+V:=by rw[Int.add_mul,Int.one_mul]
 rw[Int.add_mul,Int.add_mul,Int.one_mul]at h2;rw[<-Int.mul_assoc]at h1;have e2:g*V=1048576*(g*v1*D)+g*v2*D+g*Vl:=by rw[hV,ex3]
 have e3:V=1048576*(v1*D)+v2*D+Vl:=by rw[hV,ex2]
 have e4:W=1048576*(top*D)+w*D+Wl:=by rw[hW,ex2]
 rw[e,e2,e3,e4];clear hV hW e e2 e3 e4;omega
theorem knuth_down{g rest top v1 v2 w V W D Vl Wl:Int}(hD:0<D)(hV:V=(v1*1048576+v2)*D+Vl)(hVl:0<=Vl)(hW:W=(top*1048576+w)*D+Wl)(hWl:Wl<D)
  (hg:g*v1+rest=top) (g0:0<=g) (h:rest*1048576+w<g*v2):W<g*V:=by
 have h1:0<=g*Vl:=Int.mul_nonneg g0 hVl;have h2:(rest*1048576+w+1)*D<=(g*v2)*D:=Int.mul_le_mul_of_nonneg_right (by omega) (by omega);have h3:(g*v1+rest)*D=top*D:=by rw[hg]
 rw[Int.add_mul,ex2,Int.one_mul]at h2;rw[Int.add_mul]at h3;have e2:g*V=1048576*(g*v1*D)+g*v2*D+g*Vl:=by rw[hV,ex3]
 have e4:W=1048576*(top*D)+w*D+Wl:=by rw[hW,ex2]
 rw[e2,e4];clear hV hW e2 e4;omega
theorem jlc{g rest top v1 v2 w V W D Vl Wl:Int}(hD:0<D)(hV:V=(v1*1048576+v2)*D+Vl)(hVl:Vl<D)(hW:W=(top*1048576+w)*D+Wl)(hWl:0<=Wl)
  (hg:g*v1+rest=top) (g0:1<=g) (g1:g<1048576) (hv1:1<=v1) (hv2:0<=v2/\v2<1048576) (hw:0<=w) (h:1048576<=rest\/g*v2<=rest*1048576+w):(g-1)*V<=W:=by
 have h0:g*v2<=rest*1048576+w:=by
  rcases h with h | h
  ·have:g*v2<=1048575*1048575:=Int.mul_le_mul (by omega) (by omega) hv2.1 (by omega);omega
  ·exact h
 have h1:(g-1)*Vl<=(g-1)*D:=Int.mul_le_mul_of_nonneg_left (by omega) (by omega);have h2:(g*v2)*D<=(rest*1048576+w)*D:=Int.mul_le_mul_of_nonneg_right h0 (by omega);have h3:(g*v1+rest)*D=top*D:=by rw[hg]
 have h4:(g-1)*D<=(v1*1048576+v2)*D:=Int.mul_le_mul_of_nonneg_right (by omega) (by omega);rw[ex2]at h2;rw[Int.add_mul]at h3;rw[ex2]at h4;have e:(g-1)*V=g*V-V:=by rw[Int.sub_mul,Int.one_mul]
 have e2:g*V=1048576*(g*v1*D)+g*v2*D+g*Vl:=by rw[hV,ex3]
 have e3:V=1048576*(v1*D)+v2*D+Vl:=by rw[hV,ex2]
 have e4:W=1048576*(top*D)+w*D+Wl:=by rw[hW,ex2]
 have e5:(g-1)*Vl=g*Vl-Vl:=by rw[Int.sub_mul,Int.one_mul]
 have e6:(g-1)*D=g*D-D:=by rw[Int.sub_mul,Int.one_mul]
 rw[e5,e6]at h1;rw[e6]at h4;rw[e,e2,e3,e4];clear hV hW e e2 e3 e4 e5 e6;omega
theorem jnd{g V W:Int}(hV:0<V)(h1:W<(g+1)*V)(h2:0<=W-g*V\/0<=W-(g-1)*V):
  (if 0<=W-g*V then g else g-1)=W/V/\W-(if 0<=W-g*V then g else g-1)*V=W % V:=by
 have key:∀q:Int,0<=W-q*V->W-q*V<V->q=W/V/\W-q*V=W % V:=fun q hq0 hq1=>by
  have hq:W/V=q:=by
   rw[show W=(W-q*V)+q*V by omega,Int.add_mul_ediv_right _ _ (by omega),Int.ediv_eq_zero_of_lt hq0 hq1,Int.zero_add]
  refine⟨hq.symm,?_⟩;have:=Int.emod_add_mul_ediv W V;rw[hq,Int.mul_comm]at this;omega
 have e1:(g+1)*V=g*V+V:=by rw[Int.add_mul,Int.one_mul]
 have e2:(g-1)*V=g*V-V:=by rw[Int.sub_mul,Int.one_mul]
 split
 ·rename_i h;exact key g h (by omega)
 ·rename_i h;exact key (g-1) (h2.resolve_left h) (by omega)
end
end Go.Abs
namespace Go.Proofs.YtfahloobpegieaaGreat
section
open Go.Abs
attribute [local go_sem] ints ic mb20 pw20 fd20
theorem dgt_drop(l:List Int)(i j:Nat):dgt (l.drop i) j=dgt l (i+j):=by unfold dgt;rw[List.getElem?_drop]
theorem dgt_take_lt{l:List Int}{n j:Nat}(h:j<n):dgt (l.take n) j=dgt l j:=by unfold dgt;rw[List.getElem?_take,if_pos h]
theorem top_two{l:List Int}{n:Nat}(hl:OkD l)(hn:2<=n)(hlen:l.length=n):∃Vl,val l=(dgt l (n-1)*1048576+dgt l (n-2))*1048576^(n-2)+Vl/\0<=Vl/\Vl<1048576^(n-2):=by
 refine⟨val (l.take (n-2)),?_,jaw (hl.take _),jd0 hl _⟩;have h1:=jd1 l (n-2);have h2:=jcr l (n-2);have h3:=jcr l (n-2+1);rw[show n-2+1=n-1 by omega]at h2 h3;rw[List.drop_of_length_le (by omega:l.length<=n-1+1),show val []=0 from rfl,Int.mul_zero,Int.add_zero]at h3;rw[h3]at h2;rw[h2]at h1;rw[h1,Int.mul_comm (1048576^(n-2))];have:dgt l (n-2)+1048576*dgt l (n-1)=dgt l (n-1)*1048576+dgt l (n-2):=by omega
 rw[this];omega
theorem top_three{l:List Int}{n:Nat}(hl:OkD l)(hn:2<=n)(hlen:l.length=n+1):∃Wl,val l=((dgt l n*1048576+dgt l (n-1))*1048576+dgt l (n-2))*1048576^(n-2)+Wl/\0<=Wl/\Wl<1048576^(n-2):=by
 refine⟨val (l.take (n-2)),?_,jaw (hl.take _),jd0 hl _⟩;have h1:=jd1 l (n-2);have h2:=jcr l (n-2);have h3:=jcr l (n-2+1);rw[show n-2+1=n-1 by omega]at h2 h3;have h4:=jcr l (n-1+1);rw[show n-1+1=n by omega]at h3 h4;rw[List.drop_of_length_le (by omega:l.length<=n+1),show val []=0 from rfl,Int.mul_zero,Int.add_zero]at h4;rw[h4]at h3;rw[h3]at h2;rw[h2]at h1;rw[h1,Int.mul_comm (1048576^(n-2))];have:dgt l (n-2)+1048576*(dgt l (n-1)+1048576*dgt l n)=(dgt l n*1048576+dgt l (n-1))*1048576+dgt l (n-2):=by omega
 rw[this];omega
theorem shifted{y s n:Nat}(hn:(dig y).length=n)(hn1:1<=n)(h1:524288<=dgt (dig y) (n-1)*s)(h2:(dgt (dig y) (n-1)+1)*s<=1048576):
  (dig (y*s)).length=n/\524288<=dgt (dig (y*s)) (n-1)/\(524288:Int)*1048576^(n-1)<=((y*s:Nat):Int):=by
 have hv:=jas y;have ho:=jbc y;have hs:=jd1 (dig y) (n-1);have hd:=jcr (dig y) (n-1);rw[List.drop_of_length_le (by omega:(dig y).length<=n-1+1),show val []=0 from rfl,Int.mul_zero,Int.add_zero]at hd;rw[hd,hv]at hs;have h3:=jd0 ho (n-1);have h4:=jaw (ho.take (n-1));have hp:=jdc (n-1);have hpn:(1048576:Int)^n=1048576^(n-1)*1048576:=by rw[<-jcc,show n-1+1=n by omega]
 generalize dgt (dig y) (n-1)=t at*;generalize val ((dig y).take (n-1))=lo at*;generalize hP:(1048576:Int)^(n-1)=P at*;have hys:((y*s:Nat):Int)=lo*s+P*(t*s):=by rw[Int.natCast_mul,hs,Int.add_mul,Int.mul_assoc]
 have hs0:(0:Int)<=s:=Int.natCast_nonneg s;have e1:0<=lo*s:=Int.mul_nonneg h4 hs0;have e2:P*524288<=P*(t*s):=Int.mul_le_mul_of_nonneg_left h1 (by omega);have e3:lo*s<=(P-1)*s:=Int.mul_le_mul_of_nonneg_right (by omega) hs0;have e4:(P-1)*s=P*s-s:=by rw[Int.sub_mul,Int.one_mul]
 have e5:P*((t+1)*s)<=P*1048576:=Int.mul_le_mul_of_nonneg_left h2 (by omega);have e6:P*((t+1)*s)=P*(t*s)+P*s:=by rw[Int.add_mul,Int.one_mul,Int.mul_add]
 have hspos:(1:Int)<=s:=by
  rcases Nat.eq_zero_or_pos s with h | h
  ·subst h;simp at h1
  ·omega
 have lo1:(524288:Int)*P<=((y*s:Nat):Int):=by rw[hys,Int.mul_comm 524288];omega
 have hi1:((y*s:Nat):Int)<1048576^n:=by rw[hys,hpn];omega
 have hle:(dig (y*s)).length<=n:=jbb hi1;have hvv:=jas (y*s);have hoo:=jbc (y*s);have hlen:(dig (y*s)).length=n:=by
  rcases Nat.lt_or_ge (dig (y*s)).length n with h | h
  ·have g1:=jd0 hoo (n-1);rw[jbj (by omega:(dig (y*s)).length<=n-1),hvv,hP]at g1;omega
  ·omega
 refine⟨hlen,?_,lo1⟩;have g1:=jd1 (dig (y*s)) (n-1);have g2:=jcr (dig (y*s)) (n-1);rw[List.drop_of_length_le (by omega:(dig (y*s)).length<=n-1+1),show val []=0 from rfl,Int.mul_zero,Int.add_zero]at g2;have g3:=jd0 hoo (n-1);rw[g2,hvv,hP]at g1;rw[hP]at g3;generalize dgt (dig (y*s)) (n-1)=t' at*;rcases Int.lt_or_le t' 524288 with h | h
 ·have:P*t'<=P*524287:=Int.mul_le_mul_of_nonneg_left (by omega) (by omega);omega
 ·exact h
end
end Go.Proofs.YtfahloobpegieaaGreat
