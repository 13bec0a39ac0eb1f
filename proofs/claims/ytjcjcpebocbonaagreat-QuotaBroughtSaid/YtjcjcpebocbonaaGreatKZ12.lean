/- A part of the proof. No further condition. -/
import Derived.Test.YtjcjcpebocbonaaGreatKZ11
set_option linter.all false
set_option maxRecDepth 10000000
set_option maxHeartbeats 16000000
namespace Go.Proofs.YtjcjcpebocbonaaGreat
section
set_option maxRecDepth 1000000
open Go.Abs
attribute [local go_sem] ints ic mb20 pw20 fd20
def padD(n v:Nat):List Int:=dig v++List.replicate (n-(dig v).length) 0
theorem val_zeros{l:List Int}(hl:OkD l)(h:val l=0):l=List.replicate l.length 0:=by
 induction l with
 | nil=>rfl
 | cons d l ih=>
  have h1:=hl.head;have h2:=jam hl.tail;simp only[val]at h;have h3:=ih hl.tail (by omega);rw[List.length_cons,List.replicate_succ,<-h3,show d=0 by omega]
theorem pad_eq{l:List Int}(hl:OkD l):l=padD l.length (val l).toNat:=by
 have hlen:(dig (val l).toNat).length<=l.length:=by
  refine jb2 ?_;rw[qL (jam hl)];exact jdb hl
 have h0:=jam hl;have hv:val (dig (val l).toNat)=val l:=by rw[jaq];omega
 have h1:=jdf l (dig (val l).toNat).length;have a1:val l<1048576^(dig (val l).toNat).length:=by
  have:=jdb (jbe (val l).toNat);rw[hv]at this;exact this
 have h2:=jfg hl a1;have h3:=val_zeros (hl.drop (dig (val l).toNat).length) h2;have h4:=jfz hl a1;have h5:l.take (dig (val l).toNat).length=dig (val l).toNat:=by
  have:∀(a b:List Int),OkD a->OkD b->a.length=b.length->val a=val b->a=b:=by
   intro a
   induction a with
   | nil=>intro b _ _ h _;exact(zV h.symm).symm
   | cons d a ih=>
    intro b ha hb h hv;cases b with
    | nil=>simp at h
    | cons e b=>
     have g1:=ha.head;have g2:=hb.head;simp only[val]at hv;rw[show d=e by omega,ih b ha.tail hb.tail (by simpa using h) (by omega)]
  refine this _ _ (hl.take _) (jbe _) (by rw[qb];omega) (by rw[h4,hv])
 conv=>lhs;rw[<-y7 (dig (val l).toNat).length l]
 rw[h5,h3,ji];rfl
theorem jod{n v:Nat}(h:(dig v).length<=n):(padD n v).length=n:=by rw[padD,zB,zQ];omega
theorem jse{n v:Nat}:(padD n v).take (dig v).length=dig v:=by rw[padD,List.take_append_of_le_length (zu _),qE]
theorem val_mul_lt{a b:List Int}(ha:OkD a)(hb:OkD b):val a*val b<1048576^(a.length+b.length):=by
 rw[wk];have h1:=jdb ha;have h2:=jdb hb;have h3:=jam ha;have h4:=jam hb;exact Int.lt_of_le_of_lt (qq (wx h2) h3) (Int.mul_lt_mul_of_pos_right h1 (by omega))
theorem mul_last{a b out:List Int}{i:Nat}{c:Int}(hl:i+b.length<out.length)(ho:OkD out)(hz:∀j,i+b.length<=j->dgt out j=0)(hc:0<=c/\c<1048576)
  (hv:val out+1048576^(i+b.length)*c=val (a.take i)*val b+1048576^i*(dgt a i*val b)):
  OkD (out.set (i+b.length) c)/\(out.set (i+b.length) c).length=out.length/\val (out.set (i+b.length) c)=val (a.take (i+1))*val b/\∀j,i+1+b.length<=j->dgt (out.set (i+b.length) c) j=0:=by
 refine⟨ho.set hc,qd,?_,fun j hj=> ?_⟩
 ·rw[jgf _ _ _ hl,hz _ (zu _),jG,hv,jbu,yp,qI]
 ·have:=hz j (by omega);unfold dgt at this⊢;rw[jx (by omega)];exact this
theorem t_pmulH(a b:List Int)(ha:OkD a)(hb:OkD b)(la:a.length<=100000000000)(lb:b.length<=100000000000):
  CtrH G.P 100 [.im (ints a),.im (ints b)] [] (fun r L'=>∃X,r= .im (.ref X 3 1 (dig (val a*val b).toNat).length)/\L'=[(hp X,1,(padD (a.length+b.length) (val a*val b).toNat).map ic)]):=by
 have w0:=ja8 ((a.length:Int)+b.length);have c4:((a.length:Int)+b.length)*8<=140737488355328:=by omega
 have c3:(0:Int)<=(a.length:Int)+b.length:=by omega
 have b2:((a.length:Int)+b.length).toNat=a.length+b.length:=by omega
 refine jap [17] [] [.tmp 4] Tryz.func100 ?_;simp only[w0,c4,c3,b2,go_sem];refine jgu (fun X hX=> ?_);clear hX;have c9:=fun(d:Nat) (h:d<100000)=>hp_ne (n:=d) (b:=X) h;simp only[zQ,go_sem];refine jar [1,5,18,19,20] (fun g:Nat×List Int=>⟨[(1,.im (.sl (b.map ic))),(5,.im (.ref X 3 1 (a.length+b.length))),(18,.im (.sl (a.map ic))),(19,.im (.int a.length)),(20,.im (.int g.1))],[(hp X,1,g.2.map ic)],[]⟩)
  (fun g=>g.1<=a.length/\g.2.length=a.length+b.length/\OkD g.2/\val g.2=val (a.take g.1)*val b/\∀j,g.1+b.length<=j->dgt g.2 j=0) (fun g=>a.length-g.1) (0,List.replicate (a.length+b.length) 0) ?_ (SubR.of_eq (by rw[yw,b2];rfl)) rfl
  ⟨zG _,zQ,OkD.replicate _,by dsimp only;rw[jdz];simp[val],fun j _=>by
   unfold dgt;rw[yi];split<;>rfl⟩ ?_
 ·simp only[Int.natCast_zero,yw,zQ,b2,go_sem]
 intro⟨i,a6⟩ ⟨hi,b0,a8,a7,b8⟩;dsimp only at hi b0 a8 a7 b8;by_cases b3:(i:Int)<a.length
 case neg=>
  have hd:decide ((i:Int)<a.length)=false:=ze b3;rw[jbx (l:=a) (i:=i) (by omega)]at a7;have ht:=t_ptrimH X a6 a8 (by omega);rw[a7,b0]at ht;have b1:=pad_eq a8;rw[b0,a7]at b1;simp only[hd,go_sem];refine jaj ht (by decide) rfl (jao jb5) ja5 ?_;rintro _ _ ⟨rfl,rfl⟩ _;refine⟨_,jb9,?_⟩;simp only[go_sem];refine jb1 [(hp X,1,a6.map ic)] (jao jb5) ja5 ?_;simp only[b1,go_sem];exact⟨X,rfl,rfl⟩
 case pos=>
  have hd:decide ((i:Int)<a.length)=true:=zp b3;have hx:=jaz b3;have h1:=ja8 ((i:Int)+1);simp only[hd,zq,hx,go_sem];refine jar [1,5,6,7,8,18,19,20,25,26,27] (fun g:Nat×List Int×Int=>⟨[(1,.im (.sl (b.map ic))),(5,.im (.ref X 3 1 (a.length+b.length))),(6,.im (.int i)),(7,.im (.int (dgt a i))),(8,.im (.int g.2.2)),(18,.im (.sl (a.map ic))),(19,.im (.int a.length)),(20,.im (.int i)),(25,.im (.sl (b.map ic))),(26,.im (.int b.length)),(27,.im (.int g.1))],[(hp X,1,g.2.1.map ic)],[]⟩)
   (fun g=>g.1<=b.length/\g.2.1.length=a.length+b.length/\OkD g.2.1/\0<=g.2.2/\g.2.2<1048576/\val g.2.1+1048576^(i+g.1)*g.2.2=val (a.take i)*val b+1048576^i*(dgt a i*val (b.take g.1))/\∀j,i+b.length<=j->dgt g.2.1 j=0)
   (fun g=>b.length-g.1) (0,a6,0) ?_ ja5 rfl ⟨zG _,b0,a8,yc _,by dsimp only;omega,by dsimp only;rw[List.take_zero,a7];simp[val],b8⟩ ?_
  ·simp only[Int.natCast_zero,go_sem]
  intro⟨k,out,c⟩ ⟨hk,hl,ho,c0,b9,hv,hz⟩;dsimp only at hk hl ho c0 b9 hv hz;by_cases b4:(k:Int)<b.length
  case neg=>
   have d1:decide ((k:Int)<b.length)=false:=ze b4;have c6:k=b.length:=by omega
   subst c6;rw[jbx (l:=b) (zu _)]at hv;obtain⟨g1,g2,g3,g4⟩:=mul_last (a:=a) (by omega) ho hz ⟨c0,b9⟩ hv;have w1:=ja8 ((i:Int)+b.length);have b5:((i:Int)+b.length).toNat=i+b.length:=by omega
   have b7:(0:Int)<=(i:Int)+b.length:=by omega
   have b6:(i:Int)+b.length<((a.length+b.length:Nat):Int):=by omega
   have hy:out[i+b.length]? =some (dgt out (i+b.length)):=jaz (by omega);rw[hz _ (zu _)]at hy;have w2:=ja8 (0+c);rw[ja]at w2;simp only[d1,w1,b5,b7,b6,zq,hy,w2,ja,go_sem];refine jac (i+1,out.set (i+b.length) c) ?_ (SubR.of_eq ?_) rfl ?_ ⟨?_,?_,g1,g3,g4⟩
   ·simp only[h1,Int.natCast_add,qm,go_sem]
   ·simp only[h1,Int.natCast_add,qm,go_sem]
   ·show a.length-(i+1)<a.length-i;omega
   ·show i+1<=a.length;omega
   ·show(out.set (i+b.length) c).length=_;rw[g2];exact hl
  case pos=>
   have d1:decide ((k:Int)<b.length)=true:=zp b4;have c5:=jaz b4;have c8:=ha.dgt i;have c7:=hb.dgt k;have e0:=ho.dgt (i+k);have hmul:=jlg c8 c7;have w1:=ja8 ((i:Int)+k);have w2:=ja8 (dgt a i*dgt b k);have w3:=ja8 (dgt out (i+k)+dgt a i*dgt b k);have w4:=ja8 (dgt out (i+k)+dgt a i*dgt b k+c);have w5:=ja8 ((k:Int)+1);have b5:((i:Int)+k).toNat=i+k:=by omega
   have b7:(0:Int)<=(i:Int)+k:=by omega
   have b6:(i:Int)+k<((a.length+b.length:Nat):Int):=by omega
   have hy:out[i+k]? =some (dgt out (i+k)):=jaz (by omega);have hs:=jmt (out:=out) (b:=b) (j:=i+k) (i:=i) (k:=k) (c:=c) (x:=dgt a i) (V:=val (a.take i)*val b) rfl (by omega) hv rfl;generalize hn:dgt out (i+k)+dgt a i*dgt b k+c=n at*;have a1:=and20 n;simp only[d1,zq,c5,w1,w2,b5,b7,b6,hy,w3,hn,w4,a1,go_sem];refine jac (k+1,out.set (i+k) (n % 1048576),n/1048576) ?_ (SubR.of_eq ?_) rfl ?_ ⟨?_,?_,ho.set (by omega),?_,?_,hs,fun j hj=> ?_⟩
   ·simp only[w5,hn,w4,Int.natCast_add,qm,go_sem]
   ·simp only[w5,hn,w4,Int.natCast_add,qm,go_sem]
   ·show b.length-(k+1)<b.length-k;omega
   ·show k+1<=b.length;omega
   ·show(out.set (i+k) _).length=_;rw[qd];exact hl
   ·show 0<=n/1048576;omega
   ·show n/1048576<1048576;omega
   ·have:=hz j hj;unfold dgt at this⊢;rw[jx (by omega)];exact this
theorem t_pmul(a b:List Int)(ha:OkD a)(hb:OkD b)(la:a.length<=100000000000)(lb:b.length<=100000000000):Ctr G.P 100 [ints a,ints b] (· =ints (dig (val a*val b).toNat)):=by
 refine jgo (t_pmulH a b ha hb la lb) ?_;rintro _ _ ⟨X,rfl,rfl⟩;have hv:=val_mul_lt ha hb;have hl:(dig (val a*val b).toNat).length<=a.length+b.length:=jb2 (by rw[qL (qM (jam ha) (jam hb))];exact hv);have ht:((padD (a.length+b.length) (val a*val b).toNat).map ic).take (dig (val a*val b).toNat).length=(dig (val a*val b).toNat).map ic:=by rw[<-vO,jse]
 have h2:(dig (val a*val b).toNat).length<=(padD (a.length+b.length) (val a*val b).toNat).length:=by rw[jod hl];exact hl
 refine⟨_,[X],rfl,?_⟩;rw[jdr (ja2 _ _ _),jfl];simp only[frz3,frz2,frz1,vq,wA,qA,za,ht,h2,ints]
end
section
set_option maxRecDepth 1000000
open Go.Abs
attribute [local go_sem] ints ic
theorem lt_dgt{a b:List Int}(ha:OkD a)(hb:OkD b){m:Nat}(h:∀j,m<j->dgt a j=dgt b j)(a1:dgt a m≠dgt b m):decide (dgt a m<dgt b m)=decide (val a<val b):=by
 rcases qK a1 with h1 | h1
 ·have:=lt_at ha hb m h h1;simp[h1,this]
 ·have:=lt_at hb ha m (fun j hj=>(h j hj).symm) h1;rw[dFo,dFo]
theorem t_less(a b:List Int)(ha:OkD a)(hb:OkD b)(la:a.length<=1000000000000)(lb:b.length<=1000000000000):Ctr G.P 147 [ints a,ints b] (· = .bool (decide (val a<val b))):=by
 have a6:max (a.length:Int) (b.length:Int)=((max a.length b.length:Nat):Int):=by omega
 have hw:=ja8 (((max a.length b.length:Nat):Int)-1);refine ja4 [.tmp 4] Tryz.func147 ?_;simp only[a6,hw,go_sem];refine jai [0,1,5] [] (fun n:Nat=>⟨[(0,.im (.sl (a.map ic))),(1,.im (.sl (b.map ic))),(5,.im (.int ((n:Int)-1)))],[],[]⟩) (fun n=>n<=max a.length b.length/\∀j,n<=j->dgt a j=dgt b j) (fun n=>n) (max a.length b.length) ?_
  ⟨zu _,fun j hj=>by rw[jdn (by omega),jdn (by omega)]⟩ ?_
 ·simp only[a6,hw,go_sem]
 ·intro n ⟨hn,hz⟩;rcases n with _ | m
  ·have hd:decide ((0:Int)<=((0:Nat):Int)-1)=false:=by decide
   have hv:val a=val b:=jo7 fun j=>hz j (zG _);have a7:decide (val a<val b)=false:=dFo;rw[a7];simp only[hd,go_sem]
  ·have h2:((m+1:Nat):Int)-1=m:=by omega
   have hd:decide ((0:Int)<=(m:Int))=true:=dTo;have h3:=ja8 ((m:Int)-1);simp only[h2,hd,go_sem];refine ja0 (ji9 a m) ?_;simp only[h2,go_sem];refine ja0 (ji9 b m) ?_;simp only[h2,go_sem];refine jbq (fun he a1=> ?_) (fun he a1=> ?_)
   ·simp only[h2,go_sem];refine ja7 m ?_ (by omega) ⟨by omega,fun j hj=> ?_⟩
    ·simp only[h2,h3,go_sem]
    ·rcases zT m j with h | h
     ·exact hz j h
     ·rw[show j=m by omega];exact a1
   ·have a8:=lt_dgt ha hb (m:=m) (fun j hj=>hz j hj) a1;simp only[h2,go_sem];refine ja0 (ji9 a m) ?_;simp only[h2,go_sem];refine ja0 (ji9 b m) ?_;simp only[a8,go_sem]
theorem t_minus(a b:List Int)(ha:OkD a)(hb:OkD b)(a7:val b<=val a)(la:a.length<=100000000000)(lb:b.length<=1000000000000):Ctr G.P 126 [ints a,ints b] (· =ints (dig (val a-val b).toNat)):=by
 refine ja4 [.tmp 4] Tryz.func126 ?_;simp only[go_sem];refine jdj [0,1,5,6,7] [32] [(5,32,3,1)] (fun g:Nat×List Int×Int=>⟨[(0,.im (.sl (a.map ic))),(1,.im (.sl (b.map ic))),(5,.vec 32 3 1 (g.2.1.map ic)),(6,.im (.int g.2.2)),(7,.im (.int g.1))],[],[(32,1,g.2.1.length)]⟩)
  (fun g=>g.2.1.length=g.1/\OkD g.2.1/\0<=g.2.2/\g.2.2<=1/\val g.2.1-1048576^g.1*g.2.2=val (a.take g.1)-val (b.take g.1)/\g.1<=a.length)
  (fun g=>a.length-g.1) (0,[],0) ?_ ?_ ⟨rfl,OkD.nil,yc _,by decide,rfl,zG _⟩ ?_
 ·simp only[go_sem];simp
 ·simp only[Int.natCast_zero,zF,go_sem]
 ·intro⟨i,out,c⟩ ⟨h1,h2,h3,h4,h5,h6⟩;dsimp only at h1 h2 h3 h4 h5 h6;by_cases hp:(i:Int)<a.length
  ·have hd:decide ((i:Int)<a.length)=true:=zp hp;have hx:=jaz hp;obtain⟨a0,a1⟩:=ha.dgt i;obtain⟨b0,b1⟩:=hb.dgt i;have w1:=ja8 (dgt a i-dgt b i);have w2:=ja8 (dgt a i-dgt b i-c);have w3:=ja8 ((i:Int)+1);have w4:=ja8 (dgt a i-dgt b i-c+1048576);simp only[hd,go_sem];refine jaf 11 ?_;simp only[hd,zq,hx,go_sem];refine ja3 (ji9 b i) (by decide) ?_;simp only[w1,w2,go_sem];refine jbq (fun he a6=> ?_) (fun he a6=> ?_)
   ·have hs:=jn7 (c':=1) (d:=dgt a i-dgt b i-c+1048576) h1 h5 rfl (by omega);simp only[he,w4,go_sem];refine⟨jgx _,by simp,by omega,?_⟩;refine ja7 (i+1,out++[dgt a i-dgt b i-c+1048576],1) ?_ ?_ ⟨?_,?_,?_,?_,hs,?_⟩
    ·simp only[w3,Int.natCast_add,qv,zB,go_sem]
    ·show a.length-(i+1)<a.length-i;omega
    ·show(out++[_]).length=i+1;rw[zB,h1];rfl
    ·exact h2.append (OkD.cons (by omega) OkD.nil)
    ·dsimp only;omega
    ·dsimp only;omega
    ·show i+1<=a.length;omega
   ·have hs:=jn7 (c':=0) (d:=dgt a i-dgt b i-c) h1 h5 rfl (by omega);simp only[he,go_sem];refine⟨jgx _,by simp,by omega,?_⟩;refine ja7 (i+1,out++[dgt a i-dgt b i-c],0) ?_ ?_ ⟨?_,?_,?_,?_,hs,?_⟩
    ·simp only[w3,Int.natCast_add,qv,zB,go_sem]
    ·show a.length-(i+1)<a.length-i;omega
    ·show(out++[_]).length=i+1;rw[zB,h1];rfl
    ·exact h2.append (OkD.cons (by omega) OkD.nil)
    ·dsimp only;omega
    ·dsimp only;omega
    ·show i+1<=a.length;omega
  ·have hd:decide ((i:Int)<a.length)=false:=ze hp;have hi:i=a.length:=by omega
   have hv:val out=val a-val b:=by
    have e1:=jdb ha;have e2:=jdb h2;have e3:=jam h2;rw[h1]at e2;rw[hi]at h5 e2;rw[jfz ha e1,jfz hb (by omega)]at h5;generalize (1048576:Int)^a.length=p at*;have hc:c=0\/c=1:=by omega
    rcases hc with rfl | rfl<;>omega
   have ht:=jmu out h2 (by omega);rw[hv]at ht;simp only[hd,go_sem];refine ja0 ht ?_;simp only[go_sem]
theorem t_made(s:Int)(l:List Int)(hl:OkD l)(ll:l.length<=1000000000000):Ctr G.P 105 [.int s,ints l] (· = .agg [.int (if val l=0 then 0 else s),ints (dig (val l).toNat)]):=by
 have ht:=jmu l hl ll;have h0:=jam hl;by_cases hv:val l=0
 ·rw[hv]at ht;rw[show dig (0:Int).toNat=[]from jb4]at ht;rw[zh hv,hv,show dig (0:Int).toNat=[]from jb4];refine ja4 [.cell 4 46] Tryz.func105 ?_;simp only[go_sem];refine ja0 ht ?_;simp only[go_sem]
 ·rw[zl hv];have hn:dig (val l).toNat≠[]:=fun h=>by rw[dig_nil]at h;omega
  generalize dig (val l).toNat=d at*;have hd:decide ((d.length:Int)=0)=false:=ze (by
   have:=qG.2 hn;omega)
  refine ja4 [.cell 4 46] Tryz.func105 ?_;simp only[go_sem];refine ja0 ht ?_;simp only[hd,go_sem]
end
section
set_option maxRecDepth 1000000
open Go.Abs
attribute [local go_sem] ints ic
theorem t_times(a b:List Int)(ha:OkD a)(hb:OkD b)(la:a.length<=100000000000)(lb:b.length<=100000000000):Ctr G.P 148 [ints a,ints b] (· =ints (dig (val a*val b).toNat)):=by
 have hw:=ja8 ((a.length:Int)+b.length);have ht:((a.length:Int)+b.length).toNat=a.length+b.length:=by omega
 have h0:(0:Int)<=(a.length:Int)+b.length:=by omega
 have c8:((a.length:Int)+b.length)*8<=140737488355328:=by omega
 refine ja4 [.tmp 4] Tryz.func148 ?_;simp only[hw,ht,h0,c8,go_sem];refine jai [0,1,5,6] [15] (fun g:Nat×List Int=>⟨[(0,.im (.sl (a.map ic))),(1,.im (.sl (b.map ic))),(5,.gsl 15 3 1 (a.length+b.length)),(6,.im (.int g.1))],[(15,1,g.2.map ic)],[]⟩)
  (fun g=>g.1<=a.length/\g.2.length=a.length+b.length/\OkD g.2/\val g.2=val (a.take g.1)*val b) (fun g=>a.length-g.1) (0,List.replicate (a.length+b.length) 0) ?_
  ⟨zG _,zQ,OkD.replicate _,by dsimp only;rw[jdz];simp[val]⟩ ?_
 ·simp only[Int.natCast_zero,yw,zQ,go_sem]
 ·intro⟨i,a1⟩ ⟨hi,b2,b1,a7⟩;dsimp only at hi b2 b1 a7;by_cases hp:(i:Int)<a.length
  ·have hd:decide ((i:Int)<a.length)=true:=zp hp;have hx:=jaz hp;have h1:=ja8 ((i:Int)+1);simp only[hd,go_sem];refine jai [0,1,5,6,7,8] [15] (fun g:Nat×List Int×Int=>⟨[(0,.im (.sl (a.map ic))),(1,.im (.sl (b.map ic))),(5,.gsl 15 3 1 (a.length+b.length)),(6,.im (.int i)),(7,.im (.int g.2.2)),(8,.im (.int g.1))],[(15,1,g.2.1.map ic)],[]⟩)
    (fun g=>g.1<=b.length+1/\g.2.1.length=a.length+b.length/\OkD g.2.1/\0<=g.2.2/\g.2.2<1048576/\(b.length<g.1->g.2.2=0)/\val g.2.1+1048576^(i+g.1)*g.2.2=val (a.take i)*val b+1048576^i*(dgt a i*val (b.take g.1)))
    (fun g=>b.length+1-g.1) (0,a1,0) ?_ ⟨zG _,b2,b1,yc _,by dsimp only;omega,fun _=>rfl,by dsimp only;rw[List.take_zero,a7];simp[val]⟩ ?_
   ·simp only[Int.natCast_zero,go_sem]
   ·intro⟨k,out,c⟩ ⟨hk,hl,ho,c7,c6,b4,hv⟩;dsimp only at hk hl ho c7 c6 b4 hv;have b9:=ha.dgt i;have c5:=hb.dgt k;have c9:=ho.dgt (i+k);have hmul:=jlg b9 c5;have w1:=ja8 ((i:Int)+k);have w2:=ja8 (dgt a i*dgt b k);have w3:=ja8 (dgt out (i+k)+dgt a i*dgt b k);have w4:=ja8 (dgt out (i+k)+dgt a i*dgt b k+c);have w5:=ja8 ((k:Int)+1);have a8:((i:Int)+k).toNat=i+k:=by omega
    have b0:(0:Int)<=(i:Int)+k:=by omega
    have hm:(dgt out (i+k)+dgt a i*dgt b k+c).tmod 1048576=(dgt out (i+k)+dgt a i*dgt b k+c) % 1048576:=y6 (by omega);have hq:IntKind.i64.wrap ((dgt out (i+k)+dgt a i*dgt b k+c).tdiv 1048576)=(dgt out (i+k)+dgt a i*dgt b k+c)/1048576:=by
     rw[yH (by omega)];exact jdi (by omega)
    have b5:(k<b.length\/0<c)->k+1<=b.length+1/\(out.set (i+k) ((dgt out (i+k)+dgt a i*dgt b k+c) % 1048576)).length=a.length+b.length/\OkD (out.set (i+k) ((dgt out (i+k)+dgt a i*dgt b k+c) % 1048576))/\
      0<=(dgt out (i+k)+dgt a i*dgt b k+c)/1048576/\(dgt out (i+k)+dgt a i*dgt b k+c)/1048576<1048576/\(b.length<k+1->(dgt out (i+k)+dgt a i*dgt b k+c)/1048576=0)/\
      val (out.set (i+k) ((dgt out (i+k)+dgt a i*dgt b k+c) % 1048576))+1048576^(i+(k+1))*((dgt out (i+k)+dgt a i*dgt b k+c)/1048576)=val (a.take i)*val b+1048576^i*(dgt a i*val (b.take (k+1))):=by
     intro e0;have c4:k<=b.length:=by
      rcases zT b.length k with h | h
      ·have:=b4 h;omega
      ·exact h
     have hs:=jmt (out:=out) (b:=b) (j:=i+k) (i:=i) (k:=k) (c:=c) (x:=dgt a i) (V:=val (a.take i)*val b) rfl (by omega) hv rfl;have b7:OkD (out.set (i+k) ((dgt out (i+k)+dgt a i*dgt b k+c) % 1048576)):=ho.set (by omega);refine⟨by omega,by rw[qd];exact hl,b7,by omega,by omega,fun h=> ?_,hs⟩;have c3:k=b.length:=by omega
     have b6:=hs;rw[jbx (l:=b) (i:=k+1) (by omega)]at b6;exact times_last ha hb b9 (jam b7) (by omega) (by rw[<-c3];exact b6)
    by_cases b8:(k:Int)<b.length
    ·have hn:k<b.length\/0<c:= .inl (by omega);have d1:decide ((k:Int)<b.length)=true:=zp b8;have a6:(i:Int)+k<((a.length+b.length:Nat):Int):=by omega
     have hy:out[i+k]? =some (dgt out (i+k)):=jaz (by omega);simp only[d1,go_sem];refine jaf 18 ?_;simp only[w1,zq,hx,hy,a8,b0,a6,go_sem];refine ja3 (ji9 b k) (by decide) ?_;simp only[w2,w3,w4,go_sem];simp only[w1,a8,b0,a6,zq,hy,hm,hq,<-qm,go_sem];refine ja7 (k+1,out.set (i+k) ((dgt out (i+k)+dgt a i*dgt b k+c) % 1048576),(dgt out (i+k)+dgt a i*dgt b k+c)/1048576) ?_ ?_ (b5 hn)
     ·simp only[w5,Int.natCast_add,qm,go_sem]
     ·show b.length+1-(k+1)<b.length+1-k;omega
    ·have d1:decide ((k:Int)<b.length)=false:=ze b8;by_cases b3:0<c
     ·have hn:k<b.length\/0<c:= .inr b3;have d2:decide (0<c)=true:=zp b3;have c4:k<=b.length:=by
       rcases zT b.length k with h | h
       ·have:=b4 h;omega
       ·exact h
      have a6:(i:Int)+k<((a.length+b.length:Nat):Int):=by omega
      have hy:out[i+k]? =some (dgt out (i+k)):=jaz (by omega);simp only[d1,d2,go_sem];refine jaf 18 ?_;simp only[w1,zq,hx,hy,a8,b0,a6,go_sem];refine ja3 (ji9 b k) (by decide) ?_;simp only[w2,w3,w4,go_sem];simp only[w1,a8,b0,a6,zq,hy,hm,hq,<-qm,go_sem];refine ja7 (k+1,out.set (i+k) ((dgt out (i+k)+dgt a i*dgt b k+c) % 1048576),(dgt out (i+k)+dgt a i*dgt b k+c)/1048576) ?_ ?_ (b5 hn)
      ·simp only[w5,Int.natCast_add,qm,go_sem]
      ·show b.length+1-(k+1)<b.length+1-k;omega
     ·have d2:decide (0<c)=false:=ze b3;have hc:c=0:=by omega
      have hvv:val out=val (a.take (i+1))*val b:=by
       rw[hc,qW,yh,jbx (l:=b) (i:=k) (by omega)]at hv;rw[hv,jbu,yp,qI]
      simp only[d1,d2,go_sem];refine ja7 (i+1,out) ?_ ?_ ⟨?_,hl,ho,hvv⟩
      ·simp only[h1,Int.natCast_add,go_sem]
      ·show a.length-(i+1)<a.length-i;omega
      ·show i+1<=a.length;omega
  ·have hd:decide ((i:Int)<a.length)=false:=ze hp;rw[jbx (l:=a) (i:=i) (by omega)]at a7;have ht:=jmu a1 b1 (by omega);rw[a7]at ht;have c0:(a1.map ic).take (a.length+b.length)=a1.map ic:=zY (by rw[za];omega);have hle:a.length+b.length<=(a1.map ic).length:=by rw[za];omega
   simp only[hd,b2,zu,c0,go_sem];refine ja0 ht ?_;simp only[go_sem]
end
section
set_option maxRecDepth 1000000
open Go.Abs
attribute [local go_sem] ints ic
def okd(d:Int):Bool:= !decide (d<0)&& !decide (1048576<=d)
def jdp(s:Int)(l:List Int):Bool:=
 l.all okd&&(!decide (s< -1)&&(!decide (1<s)&&((decide ((l.length:Int)=0)==decide (s=0))&&(decide ((l.length:Int)=0) || !decide (dgt l (l.length-1)=0)))))
theorem okd_iff{d:Int}:okd d=true↔0<=d/\d<1048576:=by simp[okd]
theorem all_okd{l:List Int}:l.all okd=true↔OkD l:=by
 rw[List.all_eq_true];exact⟨fun h d hd=>okd_iff.1 (h d hd),fun h d hd=>okd_iff.2 (h d hd)⟩
theorem jkf{l:List Int}{i:Nat}(h:(i:Int)<l.length):(l.take (i+1)).all okd=((l.take i).all okd&&okd (dgt l i)):=by
 have hx:=jaz h;rw[yo,hx,List.all_append];simp
theorem t_right(s:Int)(l:List Int)(hl:l.length<=1000000000000000):Ctr G.P 101 [.agg [.int s,ints l]] (· = .bool (jdp s l)):=by
 refine ja4 [.tmp 2] Tryz.func101 ?_;simp only[go_sem];refine jai [1,3] [1] (fun i:Nat=>⟨[(1,.loc 1 2 0 0),(3,.im (.int i))],[(1,2,[[.int s,ints l]])],[]⟩) (fun i=>i<=l.length/\(l.take i).all okd=true) (fun i=>l.length-i) 0 ?_ ⟨zG _,rfl⟩ ?_
 ·simp only[Int.natCast_zero,go_sem]
 ·intro i ⟨hi,ha⟩;by_cases hp:(i:Int)<l.length
  ·have hd:decide ((i:Int)<l.length)=true:=zp hp;have hx:=jaz hp;have h1:=ja8 ((i:Int)+1);have hs:=jkf hp;have a6:okd (dgt l i)=false->jdp s l=false:=fun h=>by
    have:l.all okd=false:=by
     rw[wj];exact⟨_,zk hx,by simp[h]⟩
    simp[jdp,this]
   simp only[hd,zq,hx,go_sem];refine jc5 (fun d1=> ?_) (fun d1=> ?_)
   ·rw[a6 (by simp[okd,d1])];simp only[d1,go_sem]
   ·simp only[d1,zq,hx,go_sem];refine jc5 (fun d2=> ?_) (fun d2=> ?_)
    ·rw[a6 (by simp only[okd,d1,d2];rfl)];simp only[go_sem]
    ·simp only[go_sem];refine ja7 (i+1) ?_ (by omega) ⟨by omega,by rw[hs,ha];simp only[okd,d1,d2];rfl⟩;simp only[h1,Int.natCast_add,go_sem]
  ·have hd:decide ((i:Int)<l.length)=false:=ze hp;rw[tLo]at ha;rw[jdp,ha,qu];simp only[hd,go_sem];clear hd hp hi;refine jc5 (fun d1=> ?_) (fun d1=> ?_)
   ·simp only[d1,go_sem]
   ·simp only[d1,go_sem];refine jc5 (fun d2=> ?_) (fun d2=> ?_)
    ·simp only[d1,d2,go_sem]
    ·by_cases h0:l=[]
     ·subst h0;simp only[d1,d2,vP,Int.natCast_zero,go_sem];refine jc5 (fun d3=> ?_) (fun d3=> ?_)
      ·simp only[d1,d2,d3,vP,go_sem]
      ·simp only[d1,d2,d3,vP,go_sem]
     ·have b0:=qG.2 h0;have hz:decide ((l.length:Int)=0)=false:=dFo;have a1:l[l.length-1]? =some (dgt l (l.length-1)):=jaz (by omega);have hw:=ja8 ((l.length:Int)-1);have hn:((l.length:Int)-1).toNat=l.length-1:=by omega
      have a8:(0:Int)<=(l.length:Int)-1:=by omega
      have a7:(l.length:Int)-1<l.length:=by omega
      rw[hz];simp only[d1,d2,hz,wC,go_sem];refine jc5 (fun d3=> ?_) (fun d3=> ?_)
      ·simp only[d1,d2,d3,hz,wC,go_sem]
      ·simp only[d1,d2,d3,hz,hw,hn,a8,a7,zq,a1,wC,go_sem]
end
section
set_option maxRecDepth 1000000
open Go.Abs
def big(z:Int):IV:= .agg [.int z.sign,ints (dig z.natAbs)]
theorem jir(z:Int):jdp z.sign (dig z.natAbs)=true:=by
 have h1:(dig z.natAbs).all okd=true:=all_okd.2 (jbe _);have hs: -1<=z.sign/\z.sign<=1:=by
  rcases yf z 0 with h | h | h
  ·rw[zM h];omega
  ·subst h;decide
  ·rw[zN h];omega
 have hz:(dig z.natAbs=[])↔z.sign=0:=by
  rw[dig_nil,yj];omega
 simp only[jdp,h1,qu,zn,yR,qg,yB,qt,zO];refine⟨by omega,by omega,?_,?_⟩
 ·rw[yC,<-hz];constructor
  ·intro h;exact qY.1 (by omega)
  ·intro h;rw[h];rfl
 ·by_cases h:dig z.natAbs=[]
  ·left;rw[h];rfl
  ·right;intro h2;have h3:=jop z.natAbs;rw[y9]at h3;have h4:=qG.2 h;have h5:=jaz (l:=dig z.natAbs) (i:=(dig z.natAbs).length-1) (by omega);rw[h5,h2]at h3;exact h3 rfl
theorem jh3(z:Int): -1<=z.sign/\z.sign<=1:=by
 rcases yf z 0 with h | h | h
 ·rw[zM h];omega
 ·subst h;decide
 ·rw[zN h];omega
theorem jgh(z:Int)(h:(dig z.natAbs).length<=1000000000000):Ctr G.P 101 [big z] (· = .bool true):=by
 have:=t_right z.sign (dig z.natAbs) (by omega);rw[jir]at this;exact this
theorem jo4(s z:Int)(n:Nat)(hn:n=z.natAbs)(hs:z≠0->s=z.sign)(h:(dig z.natAbs).length<=1000000000000):Ctr G.P 105 [.int s,ints (dig n)] (· =big z):=by
 subst hn;have:=t_made s (dig z.natAbs) (jbe _) h;rw[jaq]at this;have e:(if(z.natAbs:Int)=0 then 0 else s)=z.sign:=by
  by_cases hz:z=0
  ·subst hz;rfl
  ·rw[iNo,hs hz]
 rw[e,Int.toNat_natCast]at this;exact this
attribute [local go_sem] ints ic big
theorem jln{a b:Nat}{k m:Nat}(ha:(dig a).length<=k)(hb:(dig b).length<=m):(dig (a*b)).length<=k+m:=by
 refine jb2 ?_;have h1:(a:Int)<1048576^k:=by
  have:=jdb (jbe a);rw[jaq]at this;exact vU this (by
   have h3:=vp.2 (yk (n:=1048576) (by omega) ha);rw[Int.natCast_pow,Int.natCast_pow]at h3;exact h3)
 have h2:(b:Int)<1048576^m:=by
  have:=jdb (jbe b);rw[jaq]at this;exact vU this (by
   have h3:=vp.2 (yk (n:=1048576) (by omega) hb);rw[Int.natCast_pow,Int.natCast_pow]at h3;exact h3)
 have g1:a<1048576^k:=ww.1 (by rw[Int.natCast_pow];exact h1);have g2:b<1048576^m:=ww.1 (by rw[Int.natCast_pow];exact h2);have g3:=ww.2 (Nat.mul_lt_mul'' g1 g2);rw[<-Nat.pow_add,Int.natCast_pow]at g3;exact g3
theorem t_neg(z:Int)(h:(dig z.natAbs).length<=1000000000000):Ctr G.P 102 [big z] (· =big (-z)):=by
 have rz:=jgh z h;have hm:=jo4 (0-z.sign) (-z) z.natAbs (by rw[qT]) (fun _=>by rw[Int.sign_neg];omega) (by rw[qT];exact h);have w:=jdi (n:=0-z.sign) (by have:=jh3 z;omega);refine ja4 [.cell 2 46] Tryz.func102 ?_;simp only[go_sem];refine ja0 rz ?_;simp only[w,go_sem];refine ja0 hm ?_;simp only[go_sem]
end
section
set_option maxRecDepth 1000000
open Go.Abs
attribute [local go_sem] ints ic big
def cmpI(a b:Int):Int:=if a<b then-1 else if a=b then 0 else 1
theorem sign_lt{a b:Int}(h:a.sign<b.sign):a<b:=by
 rcases yf a 0 with h1 | h1 | h1<;>rcases yf b 0 with h2 | h2 | h2<;>
  simp[zM,zN, *]at h<;>omega
end
section
set_option maxRecDepth 1000000
open Go.Abs
attribute [local go_sem] ints ic big
theorem jhp{n k:Nat}(h:(dig n).length<=k):(n:Int)<1048576^k:=by
 have:=jdb (jbe n);rw[jaq]at this;exact vU this (by
  have h3:=vp.2 (yk (n:=1048576) (by omega) h);rw[Int.natCast_pow,Int.natCast_pow]at h3;exact h3)
theorem len_add{n a b k:Nat}(ha:(dig a).length<=k)(hb:(dig b).length<=k)(h:n<=a+b):(dig n).length<=k+1:=by
 refine jb2 ?_;have h1:=jhp ha;have h2:=jhp hb;rw[jcg];omega
end
section
set_option maxRecDepth 1000000
open Go.Abs
attribute [local go_sem] ints ic
theorem t_over(a b:List Int)(ha:OkD a)(hb:OkD b)(e3:0<val b)(la:a.length<=100000000000)(lb:b.length<=50000000000):
  Ctr G.P 124 [ints a,ints b] (· = .tup [ints (dig (val a/val b).toNat),ints (dig (val a % val b).toNat)]):=by
 have hw:=ja8 ((a.length:Int)-1);have ht:((a.length:Int)).toNat=a.length:=by omega
 have e0:(a.length:Int)*8<=140737488355328:=by omega
 have h4:=jdb hb;refine ja4 [.tmp 4,.tmp 5] Tryz.func124 ?_;simp only[hw,ht,e0,go_sem];refine jdj [0,1,6,7,8] [14] [(7,0,0,0)] (fun g:Nat×List Int×Nat=>⟨[(0,.im (.sl (a.map ic))),(1,.im (.sl (b.map ic))),(6,.gsl 14 3 1 a.length),(7,.im (.sl ((dig g.2.2).map ic))),(8,.im (.int ((g.1:Int)-1)))],[(14,1,g.2.1.map ic)],[]⟩)
  (fun g=>g.1<=a.length/\g.2.1.length=a.length/\OkD g.2.1/\(g.2.2:Int)<val b/\val (a.drop g.1)=val (g.2.1.drop g.1)*val b+g.2.2) (fun g=>g.1) (a.length,List.replicate a.length 0,0) ?_ ?_
  ⟨zu _,zQ,OkD.replicate _,e3,by dsimp only;rw[zZ (zu _),zZ (by rw[zQ];exact zu _)];simp[val]⟩ ?_
 ·simp only[go_sem]
 ·simp only[jb4,zF,yw,zQ,go_sem]
 ·intro⟨n,q,R⟩ ⟨hn,hl,hq,hR,hv⟩;dsimp only at hn hl hq hR hv;rcases n with _ | m
  ·have hd:decide ((0:Int)<=((0:Nat):Int)-1)=false:=by decide
   rw[yG,yG]at hv;obtain⟨e1,e2⟩:=joe hv (by omega) hR;have a6:=jmu q hq (by omega);rw[e1]at a6;have e5:R=(val a % val b).toNat:=by omega
   have b6:(q.map ic).take a.length=q.map ic:=zY (by rw[za];omega);simp only[hd,hl,zu,b6,go_sem];refine ja0 a6 ?_;simp only[e5,go_sem]
  ·have h2:((m+1:Nat):Int)-1=m:=by omega
   have hd:decide ((0:Int)<=(m:Int))=true:=dTo;have hx:=jaz (l:=a) (i:=m) (by omega);have b3:(m:Int)<a.length:=by omega
   have e4:=ha.dgt m;have b7:=ja8 ((m:Int)-1);have h0:(dig R).length<=b.length:=jb2 (by omega);have c4:OkD (dgt a m::dig R):=OkD.cons e4 (jbe _);have a6:=jmu (dgt a m::dig R) c4 (by rw[List.length_cons];omega);have b8:val (dgt a m::dig R)=dgt a m+1048576*R:=by
    show dgt a m+1048576*val (dig R)=_;rw[jaq]
   rw[b8]at a6;obtain⟨R',hR'⟩:∃R':Nat,(R':Int)=dgt a m+1048576*R:=⟨(dgt a m+1048576*R).toNat,by omega⟩;rw[<-hR',Int.toNat_natCast]at a6;have e6:(R':Int)<1048576*val b:=by omega
   have e7:(dig R').length<=b.length+1:=jb2 (by rw[jcg];omega);simp only[h2,hd,zq,hx,go_sem];refine⟨by simp,jgx _,by omega,?_⟩;refine ja0 a6 ?_;simp only[go_sem];refine jai [0,1,6,7,8,9,10] [14] (fun g:Int×Int=>⟨[(0,.im (.sl (a.map ic))),(1,.im (.sl (b.map ic))),(6,.gsl 14 3 1 a.length),(7,.im (.sl ((dig R').map ic))),(8,.im (.int m)),(9,.im (.int g.1)),(10,.im (.int g.2))],[(14,1,q.map ic)],[]⟩)
    (fun g=>0<=g.1/\g.1<g.2/\g.2<=1048576/\g.1*val b<=R'/\(R':Int)<g.2*val b) (fun g=>(g.2-g.1).toNat) (0,1048576) ?_ ⟨yc _,by decide,yc _,by dsimp only;omega,e6⟩ ?_
   ·simp only[h2,go_sem]
   ·intro⟨lo,hi⟩ ⟨g1,g2,g3,g4,g5⟩;dsimp only at g1 g2 g3 g4 g5;have w1:=ja8 (hi-lo);have w2:=ja8 (lo+hi);by_cases hp:1<hi-lo
    ·have b1:decide (1<hi-lo)=true:=zp hp;obtain⟨a1,hmid⟩:∃a1,a1=(lo+hi)/2:=⟨_,rfl⟩;have c3:IntKind.i64.wrap ((lo+hi).tdiv 2)=a1:=by
      rw[yH (by omega),<-hmid];exact jdi (by omega)
     have c5:OkD [a1]:=OkD.cons (by omega) OkD.nil;have a7:=t_times b [a1] hb c5 (by omega) (by simp);rw[jji]at a7;have c9:0<=val b*a1:=qM (by omega) (by omega);have e8:val b*a1<=val b*1048576:=qq (by omega) (by omega);have c7:(dig (val b*a1).toNat).length<=b.length+1:=jb2 (by rw[jcg];omega);have b4:=t_less (dig R') (dig (val b*a1).toNat) (jbe _) (jbe _) (by omega) (by omega);rw[jaq,jaq,qL c9]at b4;simp only[ints,ic,zt,zF]at a7;simp only[w1,w2,b1,c3,go_sem];refine ja0 a7 ?_;simp only[go_sem];refine ja0 b4 ?_;simp only[go_sem];refine jbq (fun he b5=> ?_) (fun he b5=> ?_)
     ·simp only[go_sem];refine ja7 (lo,a1) ?_ (by dsimp only;omega) ⟨g1,by dsimp only;omega,by dsimp only;omega,g4,by dsimp only;rw[qX];exact b5⟩;simp only[go_sem]
     ·simp only[go_sem];refine ja7 (a1,hi) ?_ (by dsimp only;omega) ⟨by dsimp only;omega,by dsimp only;omega,g3,by dsimp only;rw[qX];omega,g5⟩;simp only[go_sem]
    ·have b1:decide (1<hi-lo)=false:=ze hp;have c8:hi=lo+1:=by omega
     subst c8;rw[yp,yE]at g5;have c6:OkD [lo]:=OkD.cons (by omega) OkD.nil;have b0:=jmu [lo] c6 (by simp);rw[jji]at b0;have e9:(dig lo.toNat).length<=1:=jb2 (by omega);have a7:=t_times b (dig lo.toNat) hb (jbe _) (by omega) (by omega);rw[jaq,qL g1]at a7;have a8:0<=val b*lo:=qM (by omega) g1;have h3:=qX (val b) lo;have c7:(dig (val b*lo).toNat).length<=b.length+1:=jb2 (by rw[jcg];omega);have b2:=t_minus (dig R') (dig (val b*lo).toNat) (jbe _) (jbe _) (by rw[jaq,jaq,qL a8];omega) (by omega) (by omega);rw[jaq,jaq,qL a8]at b2;have b9:=jiv (lo:=lo) (by omega:m<q.length) hv;simp only[ints,ic,zt,zF]at b0;simp only[w1,b1,b3,go_sem];have c0:=jaz (l:=q) (i:=m) (by omega);simp only[zq,c0,<-qm,b3,go_sem];refine ja0 b0 ?_;simp only[go_sem];refine ja0 a7 ?_;simp only[go_sem];refine ja0 b2 ?_;simp only[go_sem];refine ja7 (m,q.set m lo,((R':Int)-val b*lo).toNat) ?_ (by dsimp only;omega) ⟨by dsimp only;omega,by dsimp only;rw[qd];exact hl,hq.set (by omega),by dsimp only;omega,?_⟩
     ·simp only[b7,qm,go_sem]
     ·dsimp only;rw[b9,qL (by omega)];omega
end
section
set_option maxRecDepth 1000000
open Go.Abs
attribute [local go_sem] ints ic big
theorem jcm{n m k:Nat}(h:n<=m)(hm:(dig m).length<=k):(dig n).length<=k:=jb2 (by have:=jhp hm;omega)
theorem t_overn(x y:Nat)(hy:0<y)(lx:(dig x).length<=100000000000)(ly:(dig y).length<=50000000000):Ctr G.P 124 [ints (dig x),ints (dig y)] (· = .tup [ints (dig (x/y)),ints (dig (x % y))]):=by
 have:=t_over (dig x) (dig y) (jbe _) (jbe _) (by rw[jaq];omega) lx ly;rw[jaq,jaq,<-Int.natCast_ediv,<-Int.natCast_emod,Int.toNat_natCast,Int.toNat_natCast]at this;exact this
theorem t_gcd(a b:Int)(la:(dig a.natAbs).length<=50000000000)(lb:(dig b.natAbs).length<=50000000000):Ctr G.P 103 [big a,big b] (· = .tup [big (Nat.gcd a.natAbs b.natAbs:Nat),.int 0]):=by
 have ra:=jgh a (by omega);have rb:=jgh b (by omega);refine ja4 [.cell 4 46,.tmp 5] Tryz.func103 ?_;simp only[go_sem];refine ja0 ra ?_;simp only[go_sem];refine ja0 rb ?_;simp only[go_sem];refine jai [4,6,7] [4] (fun g:Nat×Nat=>⟨[(4,.loc 4 2 0 0),(6,.im (.sl ((dig g.1).map ic))),(7,.im (.sl ((dig g.2).map ic)))],[(4,2,[[.int 0,.sl []]])],[]⟩)
  (fun g=>Nat.gcd g.1 g.2=Nat.gcd a.natAbs b.natAbs/\(dig g.1).length<=50000000000/\(dig g.2).length<=50000000000) (fun g=>g.2) (a.natAbs,b.natAbs) ?_ ⟨rfl,la,lb⟩ ?_
 ·simp only[go_sem]
 ·intro⟨x,y⟩ ⟨hg,lx,ly⟩;dsimp only at hg lx ly;by_cases hy:y=0
  ·subst hy;rw[Nat.gcd_zero_right]at hg;rw[<-hg];have hm:=jo4 1 x x (by omega) (fun h=>(zN (by omega)).symm) (by rw[Int.natAbs_natCast];omega);simp only[jb4,zF,go_sem];refine ja0 hm ?_;simp only[go_sem]
  ·have a1:dig y≠[]:=fun h=>hy (dig_nil.1 h);have a7:=qG.2 a1;have hd:decide (0<((dig y).length:Int))=true:=dTo;have ho:=t_overn x y (by omega) (by omega) ly;have a6:=jO x (by omega:y>0);simp only[hd,go_sem];refine ja0 ho ?_;simp only[go_sem];refine ja7 (y,x % y) ?_ a6 ⟨?_,ly,jcm (by omega) ly⟩
   ·simp only[go_sem]
   ·show Nat.gcd y (x % y)=_;rw[<-hg,vo x y,Nat.gcd_rec y x,vo]
theorem t_div(a b:Int)(hb:b≠0)(hd:b.natAbs ∣ a.natAbs)(la:(dig a.natAbs).length<=50000000000)(lb:(dig b.natAbs).length<=50000000000):Ctr G.P 104 [big a,big b] (· = .tup [big (a/b),big 0,.int 0]):=by
 have ra:=jgh a (by omega);have rb:=jgh b (by omega);have a8:decide (b.sign=0)=false:=ze fun h=>hb (yj.1 h);have ho:=t_overn a.natAbs b.natAbs (by omega) (by omega) lb;have a6:a.natAbs % b.natAbs=0:=Nat.mod_eq_zero_of_dvd hd;rw[a6,jb4]at ho;have hq:a.natAbs/b.natAbs=(a/b).natAbs:=by
  rw[Int.natAbs_ediv_of_dvd (Int.natAbs_dvd_natAbs.1 hd)]
 have b0:(dig (a/b).natAbs).length<=50000000000:=by rw[<-hq];exact jcm (wn _ _) la
 have a7:a/b≠0->a.sign*b.sign=(a/b).sign:=fun h=>by
  obtain⟨c,hc⟩:=Int.natAbs_dvd_natAbs.1 hd;subst hc;rw[Int.mul_ediv_cancel_left _ hb]at h⊢;rw[vz,qX,<-qI];have:b.sign*b.sign=1:=by
   rcases qK hb with h1 | h1
   ·rw[zM h1];rfl
   ·rw[zN h1];rfl
  rw[this,yE]
 rw[hq]at ho;have w:=jdi (n:=a.sign*b.sign) (by rw[<-vz];have:=jh3 (a*b);omega);have hm:=jo4 (a.sign*b.sign) (a/b) (a/b).natAbs rfl a7 (by omega);have a1:=jo4 a.sign 0 0 rfl (fun h=>absurd rfl h) (by rw[show(0:Int).natAbs=0 from rfl,jb4];simp);rw[jb4]at a1;refine ja4 [.cell 4 46,.cell 5 46,.tmp 6] Tryz.func104 ?_;simp only[go_sem];refine ja0 ra ?_;simp only[go_sem];refine ja0 rb ?_;simp only[a8,go_sem];refine ja0 ho ?_;simp only[w,go_sem];refine jc5 (fun d=> ?_) (fun d=> ?_)
 ·simp only[d,go_sem];refine jah ?_;simp only[w,go_sem];refine ja3 hm (by decide) ?_;simp only[go_sem];refine ja3 a1 (by decide) ?_;simp only[go_sem]
 ·simp only[d,zF,Int.natCast_zero,decide_true,go_sem];refine jah ?_;simp only[w,go_sem];refine ja3 hm (by decide) ?_;simp only[go_sem];refine ja3 a1 (by decide) ?_;simp only[go_sem]
end
section
set_option maxRecDepth 1000000
open Go.Abs
attribute [local go_sem] ints ic mb20 pw20 fd20
theorem t_nan(x:Int):Ctr G.P 99 [.int x] (· = .bool false):=by
 refine ja4 [.tmp 2] Tryz.func99 ?_;simp only[jm,go_sem]
theorem t_cmp(x y:Int):Ctr G.P 72 [.int x,.int y] (· = .int (cmpI x y)):=by
 have h1:=t_nan x;have h2:=t_nan y;refine ja4 [.tmp 4] Tryz.func72 ?_;simp only[go_sem];refine ja0 h1 ?_;simp only[go_sem];refine ja0 h2 ?_;simp only[go_sem];refine jbq (fun d1 a1=> ?_) (fun d1 a1=> ?_)
 ·have:cmpI x y= -1:=zh a1;rw[this];simp only[d1,go_sem]
 ·simp only[d1,go_sem];refine jbq (fun d2 a6=> ?_) (fun d2 a6=> ?_)
  ·have:cmpI x y=1:=by rw[cmpI,zl a1,iNo]
   rw[this];simp only[d1,d2,go_sem]
  ·have:cmpI x y=0:=by rw[cmpI,zl a1,iPo]
   rw[this];simp only[d1,d2,go_sem]
theorem cmp_len{n m:Nat}(h:(dig n).length≠(dig m).length):cmpI ((dig n).length:Int) ((dig m).length:Int)=cmpI (n:Int) (m:Int):=by
 rcases vy h with h1 | h1
 ·have:n<m:=by
   rcases zT n m with h2 | h2
   ·exact h2
   ·have:=jcm h2 (zu _);omega
  rw[cmpI,cmpI,iPo,iPo]
 ·have:m<n:=by
   rcases zT m n with h2 | h2
   ·exact h2
   ·have:=jcm h2 (zu _);omega
  rw[cmpI,cmpI,iNo,iNo,iNo,iNo]
theorem cmp_dgt{a b:List Int}(ha:OkD a)(hb:OkD b){m:Nat}(h:∀j,m<j->dgt a j=dgt b j)(a1:dgt a m≠dgt b m):cmpI (dgt a m) (dgt b m)=cmpI (val a) (val b):=by
 rcases qK a1 with h1 | h1
 ·have:=lt_at ha hb m h h1;rw[cmpI,cmpI,zh h1,zh this]
 ·have:=lt_at hb ha m (fun j hj=>(h j hj).symm) h1;rw[cmpI,cmpI,iNo,iNo,iNo,iNo]
theorem jg0(x y:Nat)(lx:(dig x).length<=1000000000000)(ly:(dig y).length<=1000000000000):Ctr G.P 73 [ints (dig x),ints (dig y)] (· = .int (cmpI (x:Int) (y:Int))):=by
 by_cases hl:(dig x).length=(dig y).length
 case neg=>
  have hc:=t_cmp ((dig x).length:Int) ((dig y).length:Int);rw[cmp_len hl]at hc;have hd:decide (((dig x).length:Int)=(dig y).length)=false:=dFo;refine ja4 [.tmp 4] Tryz.func73 ?_;simp only[hd,go_sem];refine ja0 hc ?_;simp only[go_sem]
 case pos=>
  have a7:=jaq x;have a6:=jaq y;have b1:=jbe x;have b0:=jbe y;generalize dig x=a at*;generalize dig y=b at*;rw[<-a7,<-a6];have b2:(a.length:Int)=b.length:=by omega
  have hw:=ja8 ((b.length:Int)-1);refine ja4 [.tmp 4] Tryz.func73 ?_;simp only[b2,jm,hw,go_sem];refine jai [0,1,5] [] (fun n:Nat=>⟨[(0,.im (.sl (a.map ic))),(1,.im (.sl (b.map ic))),(5,.im (.int ((n:Int)-1)))],[],[]⟩) (fun n=>n<=b.length/\∀j,n<=j->dgt a j=dgt b j) (fun n=>n) b.length ?_
   ⟨zu _,fun j hj=>by rw[jdn (by omega),jdn (by omega)]⟩ ?_
  ·simp only[hw,go_sem]
  intro n ⟨hn,hz⟩;rcases n with _ | m
  ·have hd:decide ((0:Int)<=((0:Nat):Int)-1)=false:=by decide
   have hv:val a=val b:=jo7 fun j=>hz j (zG _);have a8:cmpI (val a) (val b)=0:=by rw[cmpI,iNo,zh hv]
   rw[a8];simp only[hd,go_sem]
  ·have h2:((m+1:Nat):Int)-1=m:=by omega
   have hd:decide ((0:Int)<=(m:Int))=true:=dTo;have h3:=ja8 ((m:Int)-1);have hx:=jaz (l:=a) (i:=m) (by omega);have hy:=jaz (l:=b) (i:=m) (by omega);simp only[h2,hd,go_sem];refine jaf 9 ?_;simp only[h2,zq,hx,hy,go_sem];refine jbq (fun he a1=> ?_) (fun he a1=> ?_)
   ·simp only[h2,he,go_sem];refine ja7 m ?_ (by omega) ⟨by omega,fun j hj=> ?_⟩
    ·simp only[h2,h3,go_sem]
    ·rcases zT m j with h | h
     ·exact hz j h
     ·rw[show j=m by omega];exact a1
   ·have hc:=t_cmp (dgt a m) (dgt b m);rw[cmp_dgt b1 b0 (fun j hj=>hz j hj) a1]at hc;simp only[h2,he,go_sem];refine jaf 10 ?_;simp only[h2,zq,hx,hy,go_sem];refine ja3 hc (by decide) ?_;simp only[go_sem]
end
section
set_option maxRecDepth 1000000
open Go.Abs
attribute [local go_sem] ints ic mb20 pw20 fd20
def winL(U:List Int)(i:Nat)(X:List Int):List Int:=U.take i++X++U.drop (i+X.length)
theorem jry{U X:List Int}{i:Nat}(h:i+X.length<=U.length):(winL U i X).length=U.length:=by
 simp only[winL,zB,qb,ji];omega
theorem jrz{U X:List Int}{i k:Nat}(hi:i<=U.length)(hk:k<X.length):(winL U i X)[i+k]? =some (dgt X k):=by
 have hl:(U.take i).length=i:=by rw[qb];omega
 rw[winL,qe,zP (by omega),hl,vi,zK hk];exact jaz (by omega)
theorem jrw{U X:List Int}{i k:Nat}{y:Int}(hi:i<=U.length)(hk:k<X.length):(winL U i X).set (i+k) y=winL U i (X.set k y):=by
 have hl:(U.take i).length=i:=by rw[qb];omega
 rw[winL,winL,qd,qe,qe,List.set_append_right _ _ (by omega),hl,vi,List.set_append_left _ _ hk]
theorem winL_self{U:List Int}{i m:Nat}(h:i+m<=U.length):winL U i ((U.drop i).take m)=U:=by
 have hl:((U.drop i).take m).length=m:=by rw[qb,ji];omega
 rw[winL,hl,qe,<-vF,y7,y7]
theorem mul_step{out v:List Int}{k:Nat}{c n g V:Int}(hi:k<out.length)(h:val out-1048576^k*c=V-g*val (v.take k))(hn:n=dgt out k-c-g*dgt v k):
  val (out.set k (n % 1048576))-1048576^(k+1)* -(n/1048576)=V-g*val (v.take (k+1)):=by
 rw[jgf _ _ _ hi,jbu,jcg];generalize (1048576:Int)^k=p at*;have e0:=qU n 1048576;have e:p*(n % 1048576-dgt out k)-p*1048576* -(n/1048576)=p*(n-dgt out k):=by
  rw[qI,<-jC];congr 1;omega
 have e2:p*(n-dgt out k)= -(p*(g*dgt v k))-p*c:=by
  rw[hn,show dgt out k-c-g*dgt v k-dgt out k= -(g*dgt v k)-c by omega,jC,yY]
 have e3:g*(val (v.take k)+p*dgt v k)=g*val (v.take k)+p*(g*dgt v k):=by rw[qO,jV]
 rw[e3];omega
theorem back_step{out v:List Int}{k:Nat}{c n V:Int}(hi:k<out.length)(h:val out+1048576^k*c=V+val (v.take k))(hn:n=c+dgt out k+dgt v k):
  val (out.set k (n % 1048576))+1048576^(k+1)*(n/1048576)=V+val (v.take (k+1)):=by
 rw[jgf _ _ _ hi,jbu,jcg];generalize (1048576:Int)^k=p at*;have e0:=qU n 1048576;have e:p*(n % 1048576-dgt out k)+p*1048576*(n/1048576)=p*(n-dgt out k):=by
  rw[qI,<-qO];congr 1;omega
 have e2:p*(n-dgt out k)=p*c+p*dgt v k:=by
  rw[hn,show c+dgt out k+dgt v k-dgt out k=c+dgt v k by omega,qO]
 omega
def jh4(w v g:Int):Int:=if 0<=w-g*v then g else g-1
theorem jpo(Z:Nat)(U W v:List Int)(i0 n:Nat)(g:Int)(hW:OkD W)(hv:OkD v)(lW:W.length=n+1)(lv:v.length=n)(hU:i0+(n+1)<=U.length)(h7:U.length<=10000000000000)
  (hg:0<=g/\g<1048576) (hq:0<=val W-g*val v\/0<=val W-(g-1)*val v):
  CtrH G.P 123 [.osl (hp Z) 1 i0 (n+1),.im (ints v),.im (.int g)] [(hp Z,1,(winL U i0 W).map ic)]
   (fun r L'=>r= .im (.int (jh4 (val W) (val v) g))/\L'=[(hp Z,1,(winL U i0 (padD (n+1) (val W-jh4 (val W) (val v) g*val v).toNat)).map ic)]):=by
 have e8:=jdb hW;have c3:=jam hv;have h0:0<=g*val v:=qM hg.1 c3;rw[lW]at e8;have e9:=fun(d:Nat) (h:d<100000)=>hp_ne (n:=d) (b:=Z) h;refine jap [] [] [.tmp 6] Tryz.func123 ?_;simp only[go_sem];refine jar [0,1,2,7,12,13,14] (fun s:Nat×List Int×Int=>⟨[(0,.osl (hp Z) 1 i0 (n+1)),(1,.im (.sl (v.map ic))),(2,.im (.int g)),(7,.im (.int s.2.2)),(12,.osl (hp Z) 1 i0 (n+1)),(13,.im (.int ((n+1:Nat):Int))),(14,.im (.int s.1))],[(hp Z,1,(winL U i0 s.2.1).map ic)],[]⟩)
  (fun s=>s.1<=n+1/\s.2.1.length=n+1/\OkD s.2.1/\0<=s.2.2/\s.2.2<=1048576/\val s.2.1-1048576^s.1*s.2.2=val W-g*val (v.take s.1)) (fun s=>n+1-s.1) (0,W,0) ?_ ja5 rfl
  ⟨zG _,lW,hW,yc _,by dsimp only;omega,by dsimp only;simp[val]⟩ ?_
 ·simp only[Int.natCast_zero,go_sem]
 intro⟨k,X,c⟩ ⟨hk,lX,hX,e4,e3,hinv⟩;dsimp only at hk lX hX e4 e3 hinv;by_cases b4:(k:Int)<((n+1:Nat):Int)
 case pos=>
  have hd:decide ((k:Int)<((n+1:Nat):Int))=true:=zp b4;have h3:=hX.dgt k;have c0:=hv.dgt k;have hmul:=jlg hg c0;have h1:=ja8 ((k:Int)+1);have hy:=jrz (U:=U) (X:=X) (i:=i0) (k:=k) (by omega) (by omega);have w0:=ja8 (g*dgt v k);have w1:=ja8 (dgt X k-c);have w2:=ja8 (dgt X k-c-g*dgt v k);have hs:=mul_step (by omega:k<X.length) hinv rfl;generalize hN:dgt X k-c-g*dgt v k=t at*;have a1:=and20 t;have a2:=ja8 (0-t/1048576);have a6:((winL U i0 X).map ic).set (i0+k) [.sc (.int .i64 (t % 1048576))]=(winL U i0 (X.set k (t % 1048576))).map ic:=by
   rw[<-jrw (by omega) (by omega),qm];rfl
  have e0:0-t/1048576= -(t/1048576):=by omega
  rw[e0]at a2;have fin:(0<= -(t/1048576)/\ -(t/1048576)<=1048576)/\(X.set k (t % 1048576)).length=n+1/\OkD (X.set k (t % 1048576)):=
   ⟨by omega,by rw[qd];exact lX,hX.set (by omega)⟩
  obtain⟨f1,f2,f3⟩:=fin;by_cases b2:(k:Int)<v.length
  ·have b1:decide ((k:Int)<v.length)=true:=zp b2;have b7:=jaz b2;simp only[hd,b4,b1,zq,b7,hy,w0,w1,hN,w2,a1,a2,a6,e0,go_sem];refine jac (k+1,X.set k (t % 1048576),-(t/1048576)) ?_ (SubR.of_eq ?_) rfl ?_ ⟨?_,f2,f3,f1.1,f1.2,hs⟩
   ·simp only[h1,Int.natCast_add,go_sem]
   ·simp only[a6,go_sem]
   ·show n+1-(k+1)<n+1-k;omega
   ·show k+1<=n+1;omega
  ·have b1:decide ((k:Int)<v.length)=false:=ze b2;have b9:dgt v k=0:=jdn (by omega);rw[b9,qW,jG]at hN;rw[hN]at w1;simp only[hd,b4,b1,zq,hy,hN,w1,a1,a2,a6,e0,go_sem];refine jac (k+1,X.set k (t % 1048576),-(t/1048576)) ?_ (SubR.of_eq ?_) rfl ?_ ⟨?_,f2,f3,f1.1,f1.2,hs⟩
   ·simp only[h1,Int.natCast_add,go_sem]
   ·simp only[a6,go_sem]
   ·show n+1-(k+1)<n+1-k;omega
   ·show k+1<=n+1;omega
 case neg=>
  have hd:decide ((k:Int)<((n+1:Nat):Int))=false:=ze b4;have b8:k=n+1:=by omega
  subst b8;rw[jbx (l:=v) (by omega)]at hinv;have e7:=jdb hX;have h6:=jam hX;rw[lX]at e7;by_cases hc:c=0
  ·subst hc;rw[qW,jG]at hinv;have a6:jh4 (val W) (val v) g=g:=iPo;have a8:=pad_eq hX;rw[lX,hinv]at a8;rw[a6];simp only[hd,go_sem];refine jb1 [(hp Z,1,(winL U i0 X).map ic)] (jao jb5) ja5 ?_;simp only[<-a8,jm,go_sem]
  ·have c9:decide (c=0)=false:=ze hc;have hP:=jdd (n+1);have h4:1048576^(n+1)*1<=1048576^(n+1)*c:=qq (by omega) (by omega);have b6:¬0<=val W-g*val v:=by omega
   have a6:jh4 (val W) (val v) g=g-1:=zl b6;have c4:=hq.resolve_left b6;rw[a6];have wg:=ja8 (g-1);simp only[hd,c9,go_sem];refine jar [0,1,2,10,47,48,49] (fun s:Nat×List Int×Int=>⟨[(0,.osl (hp Z) 1 i0 (n+1)),(1,.im (.sl (v.map ic))),(2,.im (.int g)),(10,.im (.int s.2.2)),(47,.osl (hp Z) 1 i0 (n+1)),(48,.im (.int ((n+1:Nat):Int))),(49,.im (.int s.1))],[(hp Z,1,(winL U i0 s.2.1).map ic)],[]⟩)
    (fun s=>s.1<=n+1/\s.2.1.length=n+1/\OkD s.2.1/\0<=s.2.2/\s.2.2<=1/\val s.2.1+1048576^s.1*s.2.2=val X+val (v.take s.1)) (fun s=>n+1-s.1) (0,X,0) ?_ ja5 rfl
    ⟨zG _,lX,hX,yc _,by dsimp only;omega,by dsimp only;simp[val]⟩ ?_
   ·simp only[Int.natCast_zero,go_sem]
   intro⟨k,Y,e⟩ ⟨c5,lY,hY,c7,c6,b0⟩;dsimp only at c5 lY hY c7 c6 b0;by_cases b3:(k:Int)<((n+1:Nat):Int)
   case pos=>
    have b5:decide ((k:Int)<((n+1:Nat):Int))=true:=zp b3;have h2:=hY.dgt k;have c0:=hv.dgt k;have h1:=ja8 ((k:Int)+1);have hy:=jrz (U:=U) (X:=Y) (i:=i0) (k:=k) (by omega) (by omega);have w1:=ja8 (e+dgt Y k);have w2:=ja8 (e+dgt Y k+dgt v k);have hs:=back_step (by omega:k<Y.length) b0 rfl;generalize hN:e+dgt Y k+dgt v k=t at*;have a1:=and20 t;have a7:((winL U i0 Y).map ic).set (i0+k) [.sc (.int .i64 (t % 1048576))]=(winL U i0 (Y.set k (t % 1048576))).map ic:=by
     rw[<-jrw (by omega) (by omega),qm];rfl
    have fin:(0<=t/1048576/\t/1048576<=1)/\(Y.set k (t % 1048576)).length=n+1/\OkD (Y.set k (t % 1048576)):=
     ⟨by omega,by rw[qd];exact lY,hY.set (by omega)⟩
    obtain⟨f1,f2,f3⟩:=fin;by_cases b2:(k:Int)<v.length
    ·have b1:decide ((k:Int)<v.length)=true:=zp b2;have b7:=jaz b2;simp only[b5,b3,b1,zq,b7,hy,w1,hN,w2,a1,a7,go_sem];refine jac (k+1,Y.set k (t % 1048576),t/1048576) ?_ (SubR.of_eq ?_) rfl ?_ ⟨?_,f2,f3,f1.1,f1.2,hs⟩
     ·simp only[h1,Int.natCast_add,go_sem]
     ·simp only[a7,go_sem]
     ·show n+1-(k+1)<n+1-k;omega
     ·show k+1<=n+1;omega
    ·have b1:decide ((k:Int)<v.length)=false:=ze b2;have b9:dgt v k=0:=jdn (by omega);rw[b9,yh]at hN;rw[hN]at w1;simp only[b5,b3,b1,zq,hy,hN,w1,a1,a7,go_sem];refine jac (k+1,Y.set k (t % 1048576),t/1048576) ?_ (SubR.of_eq ?_) rfl ?_ ⟨?_,f2,f3,f1.1,f1.2,hs⟩
     ·simp only[h1,Int.natCast_add,go_sem]
     ·simp only[a7,go_sem]
     ·show n+1-(k+1)<n+1-k;omega
     ·show k+1<=n+1;omega
   case neg=>
    have b5:decide ((k:Int)<((n+1:Nat):Int))=false:=ze b3;have b8:k=n+1:=by omega
    subst b8;rw[jbx (l:=v) (by omega)]at b0;have e6:=jdb hY;have h5:=jam hY;rw[lY]at e6;have e5:val Y=val W-(g-1)*val v:=by
     have e1:(g-1)*val v=g*val v-val v:=by rw[jT];omega
     rw[e1]at c4⊢;have e2:1048576^(n+1)*(c-e)=1048576^(n+1)*c-1048576^(n+1)*e:=jC ..;have c8:c-e=0:=by
      rcases yf (c-e) 0 with h | h | h
      ·have:1048576^(n+1)*(c-e)<=1048576^(n+1)*(-1):=qq (by omega) (by omega);omega
      ·exact h
      ·have:1048576^(n+1)*1<=1048576^(n+1)*(c-e):=qq (by omega) (by omega);omega
     rw[c8,qW]at e2;omega
    have a8:=pad_eq hY;rw[lY,e5]at a8;simp only[b5,wg,go_sem];refine jb1 [(hp Z,1,(winL U i0 Y).map ic)] (jao jb5) ja5 ?_;simp only[<-a8,jm,go_sem]
