/- A part of the proof. No further condition. -/
import Derived.Test.YtgncgpfjldefpaaGreatKR11
set_option linter.all false
set_option maxRecDepth 10000000
set_option maxHeartbeats 16000000
namespace Go.Proofs.YtgncgpfjldefpaaGreat
section
open Go.Abs
theorem jbt{e:Evid}(h:jbe e=0):(pairs e).all fitP=true/\1<=e.mats/\0<=e.houses/\0<=e.scales/\e.places.all (jif e)=true/\jdp e 0 e.moves=0/\saidF e=true:=by
 unfold jbe at h;split at h
 ·cases h
 ·split at h
  ·cases h
  ·split at h
   ·cases h
   ·split at h
    ·cases h
    ·split at h
     ·cases h
     ·split at h
      ·rename_i h6;exact absurd h h6
      ·split at h
       ·rename_i h1 h2 h3 h4 h5 h6 h7;simp at h1 h2 h3 h4 h5 h6;exact⟨by simpa using h1,by omega,by omega,by omega,by simpa using h5,h6,h7⟩
       ·cases h
theorem jny{e:Evid}:∀{ms:List Move} {d:Int},jdp e d ms=0->∀m∈ms,moveF e m=true
 | [],_,_,m,hm=>by cases hm
 | x::r,d,h,m,hm=>by
  rw[jdp]at h;split at h
  ·cases h
  ·split at h
   ·cases h
   ·split at h
    ·cases h
    ·rename_i h3;rcases zT.1 hm with rfl | hm
     ·simpa using h3
     ·exact jny h m hm
theorem ji0{e:Evid}(h:jbe e=0):∀x∈e.moves,(0<=x.fr/\x.fr<(e.places.length:Int))/\(0<=x.to/\x.to<(e.places.length:Int)):=by
 intro x hx;have:=jny (jbt h).2.2.2.2.2.1 x hx;simp only[moveF,zB,jnk]at this;exact⟨this.1.1.1.1.1.1.1,this.1.1.1.1.1.1.2⟩
theorem purF_iff{e:Evid}{p:Purity}:purF e p=true↔(0<=p.move/\p.move<(e.moves.length:Int))/\(0<=p.mat/\p.mat<e.mats)/\0<=p.least/\p.least<=p.most/\p.most<=1000:=by
 simp only[purF,zB,jnk,yx,qi];omega
theorem jhm{e:Evid}(h:jbe e=0):∀p∈e.purs,purF e p=true:=by
 have:=(jbt h).2.2.2.2.2.2;simp only[saidF,zB,List.all_eq_true]at this;exact this.2
theorem check_purs'{e:Evid}(h:jbe e=0):∀p∈e.purs,(0<=p.mat/\p.mat<e.mats)/\(-9223372036854775808<=p.least/\p.least<=9223372036854775807)/\(-9223372036854775808<=p.most/\p.most<=9223372036854775807):=by
 intro p hp;have:=purF_iff.1 (jhm h p hp);omega
end
end Go.Proofs.YtgncgpfjldefpaaGreat
namespace Go.Abs
section
theorem jks{a q:List Int}{m:Nat}{b R lo:Int}(hm:m<q.length)(h:val (a.drop (m+1))=val (q.drop (m+1))*b+R):
  val (a.drop m)=val ((q.set m lo).drop m)*b+(dgt a m+1048576*R-lo*b):=by
 rw[jd2 a m,jd2 (q.set m lo) m,h];have h1:dgt (q.set m lo) m=lo:=by simp[dgt,hm]
 have h2:(q.set m lo).drop (m+1)=q.drop (m+1):=by
  rw[List.drop_set_of_lt (by omega)]
 rw[h1,h2,yu,qJ,qE];omega
theorem jr1{x q b R:Int}(h:x=q*b+R)(h0:0<=R)(h1:R<b):q=x/b/\R=x % b:=by
 have hb:0<b:=by omega
 have h2:x/b=q:=by
  rw[h,Int.add_comm,Int.add_mul_ediv_right _ _ (by omega),Int.ediv_eq_zero_of_lt h0 h1,yY]
 refine⟨h2.symm,?_⟩;have:=qL x b;rw[h2]at this;rw[yf]at this;omega
end
section
theorem jcv(n:Int):(BitVec.ofInt 64 n).toNat=(n % 18446744073709551616).toNat:=by
 rw[BitVec.toNat_ofInt];rfl
theorem and20(n:Int):bits .and .i64 n 1048575=n % 1048576:=by
 have h1:(BitVec.ofInt 64 n&&&BitVec.ofInt 64 1048575).toNat=(n % 1048576).toNat:=by
  rw[BitVec.toNat_and,jcv,jcv];have e:((1048575:Int) % 18446744073709551616).toNat=2^20-1:=by decide
  rw[e,jK];have:(n % 18446744073709551616) % 1048576=n % 1048576:=Int.emod_emod_of_dvd n ⟨17592186044416,by decide⟩;omega
 have h2:bits .and .i64 n 1048575=IntKind.i64.wrap ((BitVec.ofInt 64 n&&&BitVec.ofInt 64 1048575).toNat:Nat):=rfl;rw[h2,h1];have h3:=jR n (show(1048576:Int)≠0 by decide);have h4:=jC n (show(0:Int)<1048576 by decide);rw[yN h3];exact IntWalk.i64_in _ (by omega)
theorem or20(r a:Int)(hr:0<=r/\r<8796093022208)(ha:0<=a/\a<1048576):bits .or .i64 (r*1048576) a=r*1048576+a:=by
 have h1:(BitVec.ofInt 64 (r*1048576) ||| BitVec.ofInt 64 a).toNat=(r*1048576+a).toNat:=by
  rw[BitVec.toNat_or,jcv,jcv,jF (by omega) (by omega),jF (by omega) (by omega)];have e1:(r*1048576).toNat=2^20*r.toNat:=by omega
  rw[e1,<-vG (by omega:a.toNat<2^20)];omega
 have h2:bits .or .i64 (r*1048576) a=IntKind.i64.wrap ((BitVec.ofInt 64 (r*1048576) ||| BitVec.ofInt 64 a).toNat:Nat):=rfl;rw[h2,h1,yN (by omega)];exact IntWalk.i64_in _ (by omega)
theorem fd20(n:Int):n.fdiv 1048576=n/1048576:=yo n (by decide)
theorem and1(n:Int)(h: -9223372036854775808<=n/\n<=9223372036854775807):bits .and .i64 n 1=n % 2:=by
 have h1:(BitVec.ofInt 64 n&&&BitVec.ofInt 64 1).toNat=(n % 2).toNat:=by
  rw[BitVec.toNat_and,jcv,jcv];have e:((1:Int) % 18446744073709551616).toNat=2^1-1:=by decide
  rw[e,jK];omega
 have h2:bits .and .i64 n 1=IntKind.i64.wrap ((BitVec.ofInt 64 n&&&BitVec.ofInt 64 1).toNat:Nat):=rfl;rw[h2,h1,yN (by omega)];exact IntWalk.i64_in _ (by omega)
theorem js0{out a b:List Int}{i:Nat}{c n:Int}(hi:i<out.length)(hz:dgt out i=0)(h:val out+1048576^i*c=val (a.take i)+val (b.take i))(hn:n=dgt a i+dgt b i+c):
  val (out.set i (n % 1048576))+1048576^(i+1)*(n/1048576)=val (a.take (i+1))+val (b.take (i+1)):=by
 rw[jg9 _ _ _ hi,hz,jm,jcq,jcq,jdh];generalize (1048576:Int)^i=p at*;have e:p*(n % 1048576)+p*1048576*(n/1048576)=p*n:=by
  rw[qJ,<-qE,qL]
 have e2:p*n=p*dgt a i+p*dgt b i+p*c:=by rw[hn,qE,qE]
 omega
theorem sub_step{out b:List Int}{i:Nat}{c n V:Int}(hi:i<out.length)(h:val out-1048576^i*c=V-val (b.take i))(hn:n=dgt out i-dgt b i-c):
  val (out.set i (n % 1048576))-1048576^(i+1)* -(n/1048576)=V-val (b.take (i+1)):=by
 rw[jg9 _ _ _ hi,jcq,jdh];generalize (1048576:Int)^i=p at*;have e0:=qL n 1048576;have e:p*(n % 1048576-dgt out i)-p*1048576* -(n/1048576)=p*(n-dgt out i):=by
  rw[qJ,<-va];congr 1;omega
 have e2:p*(n-dgt out i)= -(p*dgt b i)-p*c:=by
  rw[hn,show dgt out i-dgt b i-c-dgt out i= -dgt b i-c by omega,va,jv]
 omega
theorem jmn{l:List Int}{i j:Nat}{v:Int}(h:i≠j):dgt (l.set i v) j=dgt l j:=by
 unfold dgt;rw[yG h]
theorem mb20:min 20 64=(20:Nat):=rfl
theorem pw20:(2:Int)^20=1048576:=by decide
end
end Go.Abs
namespace Go.Proofs.YtgncgpfjldefpaaGreat
section
open Go.Abs
attribute [local go_sem] ints ic mb20 pw20 fd20
theorem t_short(a:List Int)(d:Int)(ha:OkD a)(hd:1<=d/\d<1048576)(la:a.length<=1000000000000):Ctr G.P 140 [ints a,.int d] (· = .tup [ints (dig (val a/d).toNat),.int (val a % d)]):=by
 have w1:=ja9 (n:=(a.length:Int)-1) (by omega);have w0:(a.length:Int)*8<=140737488355328:=by omega
 refine ja4 [.tmp 4,.tmp 5] Tryz.func140 ?_;simp only[w1,w0,go_sem];refine jao [0,1,6,7,8] [11] (fun g:Nat×List Int×Int=>⟨[(0,.im (.sl (a.map ic))),(1,.im (.int d)),(6,.gsl 11 3 1 a.length),(7,.im (.int g.2.2)),(8,.im (.int ((g.1:Int)-1)))],[(11,1,g.2.1.map ic)],[]⟩)
  (fun g=>g.1<=a.length/\g.2.1.length=a.length/\OkD g.2.1/\0<=g.2.2/\g.2.2<d/\val (a.drop g.1)=val (g.2.1.drop g.1)*d+g.2.2) (fun g=>g.1) (a.length,List.replicate a.length 0,0) ?_
  ⟨zu _,zN,OkD.replicate _,yp _,by dsimp only;omega,by
   dsimp only;rw[zY (zu _),zY (by rw[zN];exact zu _)];simp[val]⟩ ?_
 ·simp only[w1,yF,zN,go_sem]
 intro⟨n,q,r⟩ ⟨h1,h2,h3,h4,h5,h6⟩;dsimp only at h1 h2 h3 h4 h5 h6;rcases n with _ | m
 ·have hg:decide ((0:Int)<=((0:Nat):Int)-1)=false:=by decide
  rw[ym,ym]at h6;obtain⟨e1,e2⟩:=jr1 h6 h4 h5;have ht:=jf5 q h3 (by omega);rw[e1]at ht;rw[<-e2];simp only[ints]at ht;have hql:a.length<=q.length:=by omega
  have htk:(q.map ic).take a.length=q.map ic:=zD (by rw[zh];omega);simp only[hg,hql,htk,go_sem];refine ja1 ht ?_;simp only[go_sem]
 ·have e1:((m+1:Nat):Int)-1=m:=by omega
  have hg:decide ((0:Int)<=(m:Int))=true:=zk (by omega);have hx:=jba (l:=a) (i:=m) (by omega);have hda:=ha.dgt m;have hq:(m:Int)<a.length:=by omega
  have hqx:=jba (l:=q) (i:=m) (by omega);have w2:=ja9 (n:=r*1048576) (by omega);have w3:=or20 r (dgt a m) (by omega) hda;generalize hR:r*1048576+dgt a m=R at*;have hR0:0<=R:=by omega
  have hRd:R<d*1048576:=by omega
  have hlo:R/d<1048576:=jG (by omega) (by rw[yf];exact hRd);have hlo0:0<=R/d:=jA hR0 (by omega);have w4:IntKind.i64.wrap (R.tdiv d)=R/d:=by
   rw[vO hR0];exact ja9 (by omega)
  have w5:R.tmod d=R % d:=vM hR0;have w6:decide (d=0)=false:=za (by omega);have w7:=ja9 (n:=(m:Int)-1) (by omega);have d0:¬d=0:=by omega
  have hs:=jks (lo:=R/d) (by omega:m<q.length) h6;have hmod:=jR R (by omega:d≠0);have hmod2:=jC R (by omega:0<d);have hdm:dgt a m+1048576*r-R/d*d=R % d:=by
   have:=qL R d;rw[yf (R/d) d];omega
  rw[hdm]at hs;simp only[e1,hg,hq,zq,hx,hqx,w2,w3,w4,w5,w6,d0,<-qn,go_sem];refine jad (m,q.set m (R/d),R % d) ?_ ?_ ⟨?_,?_,?_,hmod,hmod2,hs⟩
  ·simp only[w7,qn,go_sem]
  ·show m<m+1;omega
  ·show m<=a.length;omega
  ·show(q.set m (R/d)).length=a.length;rw[zZ];exact h2
  ·exact h3.set ⟨hlo0,hlo⟩
end
section
open Go.Abs
attribute [local go_sem] ints ic mb20 pw20 fd20
def padD(n v:Nat):List Int:=dig v++List.replicate (n-(dig v).length) 0
theorem val_zeros{l:List Int}(hl:OkD l)(h:val l=0):l=List.replicate l.length 0:=by
 induction l with
 | nil=>rfl
 | cons d l ih=>
  have h1:=hl.head;have h2:=jb2 hl.tail;simp only[val]at h;have h3:=ih hl.tail (by omega);rw[List.length_cons,List.replicate_succ,<-h3,show d=0 by omega]
theorem pad_eq{l:List Int}(hl:OkD l):l=padD l.length (val l).toNat:=by
 have hlen:(dig (val l).toNat).length<=l.length:=by
  refine jc7 ?_;rw[yN (jb2 hl)];exact jek hl
 have h0:=jb2 hl;have hv:val (dig (val l).toNat)=val l:=by rw[jb7];omega
 have h1:=jdd l (dig (val l).toNat).length;have hlt:val l<1048576^(dig (val l).toNat).length:=by
  have:=jek (jc6 (val l).toNat);rw[hv]at this;exact this
 have h2:=jf9 hl hlt;have h3:=val_zeros (hl.drop (dig (val l).toNat).length) h2;have h4:=jix hl hlt;have h5:l.take (dig (val l).toNat).length=dig (val l).toNat:=by
  have:∀(a b:List Int),OkD a->OkD b->a.length=b.length->val a=val b->a=b:=by
   intro a
   induction a with
   | nil=>intro b _ _ h _;exact(zO h.symm).symm
   | cons d a ih=>
    intro b ha hb h hv;cases b with
    | nil=>simp at h
    | cons e b=>
     have g1:=ha.head;have g2:=hb.head;simp only[val]at hv;rw[show d=e by omega,ih b ha.tail hb.tail (by simpa using h) (by omega)]
  refine this _ _ (hl.take _) (jc6 _) (by rw[qe];omega) (by rw[h4,hv])
 conv=>lhs;rw[<-ja (dig (val l).toNat).length l]
 rw[h5,h3,jq];rfl
theorem jr8{a b out:List Int}{i:Nat}{c:Int}(hl:i+b.length<out.length)(ho:OkD out)(hz:∀j,i+b.length<=j->dgt out j=0)(hc:0<=c/\c<1048576)
  (hv:val out+1048576^(i+b.length)*c=val (a.take i)*val b+1048576^i*(dgt a i*val b)):
  OkD (out.set (i+b.length) c)/\(out.set (i+b.length) c).length=out.length/\val (out.set (i+b.length) c)=val (a.take (i+1))*val b/\∀j,i+1+b.length<=j->dgt (out.set (i+b.length) c) j=0:=by
 refine⟨ho.set hc,zZ,?_,fun j hj=> ?_⟩
 ·rw[jg9 _ _ _ hl,hz _ (zu _),jm,hv,jcq,yu,qJ]
 ·have:=hz j (by omega);unfold dgt at this⊢;rw[yG (by omega)];exact this
theorem t_pmul(a b:List Int)(ha:OkD a)(hb:OkD b)(la:a.length<=100000000000)(lb:b.length<=100000000000):Ctr G.P 121 [ints a,ints b] (· =ints (dig (val a*val b).toNat)):=by
 have w0:=ja9 (n:=(a.length:Int)+b.length) (by omega);have w00:((a.length:Int)+b.length)*8<=140737488355328:=by omega
 have w01:(0:Int)<=(a.length:Int)+b.length:=by omega
 have w02:((a.length:Int)+b.length).toNat=a.length+b.length:=by omega
 refine ja4 [.tmp 4] Tryz.func121 ?_;simp only[w0,w00,w01,w02,go_sem];refine jao [1,5,18,19,20] [17] (fun g:Nat×List Int=>⟨[(1,.im (.sl (b.map ic))),(5,.gsl 17 3 1 (a.length+b.length)),(18,.im (.sl (a.map ic))),(19,.im (.int a.length)),(20,.im (.int g.1))],[(17,1,g.2.map ic)],[]⟩)
  (fun g=>g.1<=a.length/\g.2.length=a.length+b.length/\OkD g.2/\val g.2=val (a.take g.1)*val b/\∀j,g.1+b.length<=j->dgt g.2 j=0) (fun g=>a.length-g.1) (0,List.replicate (a.length+b.length) 0) ?_
  ⟨zG _,zN,OkD.replicate _,by dsimp only;rw[jdu];simp[val],fun j _=>by
   unfold dgt;rw[qH];split<;>rfl⟩ ?_
 ·simp only[Int.natCast_zero,yF,zN,go_sem]
 intro⟨i,out0⟩ ⟨hi,hl0,ho0,hv0,hz0⟩;dsimp only at hi hl0 ho0 hv0 hz0;by_cases hp:(i:Int)<a.length
 case neg=>
  have hd:decide ((i:Int)<a.length)=false:=za hp;rw[jca (l:=a) (i:=i) (by omega)]at hv0;have ht:=jf5 out0 ho0 (by omega);rw[hv0]at ht;have hall:(out0.map ic).take (a.length+b.length)=out0.map ic:=zD (by rw[zh];omega);have hle:a.length+b.length<=out0.length:=by omega
  simp only[ints]at ht;simp only[hd,hle,hall,go_sem];refine ja1 ht ?_;simp only[go_sem]
 case pos=>
  have hd:decide ((i:Int)<a.length)=true:=zk hp;have hx:=jba hp;have h1:=ja9 (n:=(i:Int)+1) (by omega);simp only[hd,zq,hx,go_sem];refine jao [1,5,6,7,8,18,19,20,25,26,27] [17] (fun g:Nat×List Int×Int=>⟨[(1,.im (.sl (b.map ic))),(5,.gsl 17 3 1 (a.length+b.length)),(6,.im (.int i)),(7,.im (.int (dgt a i))),(8,.im (.int g.2.2)),(18,.im (.sl (a.map ic))),(19,.im (.int a.length)),(20,.im (.int i)),(25,.im (.sl (b.map ic))),(26,.im (.int b.length)),(27,.im (.int g.1))],[(17,1,g.2.1.map ic)],[]⟩)
   (fun g=>g.1<=b.length/\g.2.1.length=a.length+b.length/\OkD g.2.1/\0<=g.2.2/\g.2.2<1048576/\val g.2.1+1048576^(i+g.1)*g.2.2=val (a.take i)*val b+1048576^i*(dgt a i*val (b.take g.1))/\∀j,i+b.length<=j->dgt g.2.1 j=0)
   (fun g=>b.length-g.1) (0,out0,0) ?_ ⟨zG _,hl0,ho0,yp _,by dsimp only;omega,by dsimp only;rw[List.take_zero,hv0];simp[val],hz0⟩ ?_
  ·simp only[Int.natCast_zero,go_sem]
  intro⟨k,out,c⟩ ⟨hk,hl,ho,hc0,hc1,hv,hz⟩;dsimp only at hk hl ho hc0 hc1 hv hz;by_cases hkl:(k:Int)<b.length
  case neg=>
   have d1:decide ((k:Int)<b.length)=false:=za hkl;have hkb:k=b.length:=by omega
   subst hkb;rw[jca (l:=b) (zu _)]at hv;obtain⟨g1,g2,g3,g4⟩:=jr8 (a:=a) (by omega) ho hz ⟨hc0,hc1⟩ hv;have w1:=ja9 (n:=(i:Int)+b.length) (by omega);have hjn:((i:Int)+b.length).toNat=i+b.length:=by omega
   have hj0:(0:Int)<=(i:Int)+b.length:=by omega
   have hjl:(i:Int)+b.length<((a.length+b.length:Nat):Int):=by omega
   have hy:out[i+b.length]? =some (dgt out (i+b.length)):=jba (by omega);rw[hz _ (zu _)]at hy;have w2:=ja9 (n:=0+c) (by omega);rw[yY]at w2;simp only[d1,w1,hjn,hj0,hjl,zq,hy,w2,yY,go_sem];refine jad (i+1,out.set (i+b.length) c) ?_ ?_ ⟨?_,?_,g1,g3,g4⟩
   ·simp only[h1,Int.natCast_add,qn,go_sem]
   ·show a.length-(i+1)<a.length-i;omega
   ·show i+1<=a.length;omega
   ·show(out.set (i+b.length) c).length=_;rw[g2];exact hl
  case pos=>
   have d1:decide ((k:Int)<b.length)=true:=zk hkl;have hyb:=jba hkl;have hda:=ha.dgt i;have hdb:=hb.dgt k;have hdo:=ho.dgt (i+k);have hmul:=jkw hda hdb;have w1:=ja9 (n:=(i:Int)+k) (by omega);have w2:=ja9 (n:=dgt a i*dgt b k) (by omega);have w3:=ja9 (n:=dgt out (i+k)+dgt a i*dgt b k) (by omega);have w4:=ja9 (n:=dgt out (i+k)+dgt a i*dgt b k+c) (by omega);have w5:=ja9 (n:=(k:Int)+1) (by omega);have hjn:((i:Int)+k).toNat=i+k:=by omega
   have hj0:(0:Int)<=(i:Int)+k:=by omega
   have hjl:(i:Int)+k<((a.length+b.length:Nat):Int):=by omega
   have hy:out[i+k]? =some (dgt out (i+k)):=jba (by omega);have hs:=jm0 (out:=out) (b:=b) (j:=i+k) (i:=i) (k:=k) (c:=c) (x:=dgt a i) (V:=val (a.take i)*val b) rfl (by omega) hv rfl;generalize hn:dgt out (i+k)+dgt a i*dgt b k+c=n at*;have a1:=and20 n;simp only[d1,zq,hyb,w1,w2,hjn,hj0,hjl,hy,w3,hn,w4,a1,go_sem];refine jad (k+1,out.set (i+k) (n % 1048576),n/1048576) ?_ ?_ ⟨?_,?_,ho.set (by omega),?_,?_,hs,fun j hj=> ?_⟩
   ·simp only[w5,hn,w4,Int.natCast_add,qn,go_sem]
   ·show b.length-(k+1)<b.length-k;omega
   ·show k+1<=b.length;omega
   ·show(out.set (i+k) _).length=_;rw[zZ];exact hl
   ·show 0<=n/1048576;omega
   ·show n/1048576<1048576;omega
   ·have:=hz j hj;unfold dgt at this⊢;rw[yG (by omega)];exact this
theorem t_pmulO(a b:List Int)(ha:OkD a)(hb:OkD b)(la:a.length<=100000000000)(lb:b.length<=100000000000):
  CtrM G.P 121 [.im (ints a),.im (ints b)] [] (fun r Es new=>r= .gsl 901 3 1 (dig (val a*val b).toNat).length/\Es=[]/\new=some (1,(padD (a.length+b.length) (val a*val b).toNat).map ic)):=by
 have w0:=ja9 (n:=(a.length:Int)+b.length) (by omega);have w00:((a.length:Int)+b.length)*8<=140737488355328:=by omega
 have w01:(0:Int)<=(a.length:Int)+b.length:=by omega
 have w02:((a.length:Int)+b.length).toNat=a.length+b.length:=by omega
 refine jnr good _ _ [.tmp 4] Tryz.func121 rfl rfl (by decide+kernel) rfl rfl (by simp) ?_;simp only[w0,w00,w01,w02,go_sem];refine jao [1,5,18,19,20] [17] (fun g:Nat×List Int=>⟨[(1,.im (.sl (b.map ic))),(5,.gsl 17 3 1 (a.length+b.length)),(18,.im (.sl (a.map ic))),(19,.im (.int a.length)),(20,.im (.int g.1))],[(17,1,g.2.map ic)],[]⟩)
  (fun g=>g.1<=a.length/\g.2.length=a.length+b.length/\OkD g.2/\val g.2=val (a.take g.1)*val b/\∀j,g.1+b.length<=j->dgt g.2 j=0) (fun g=>a.length-g.1) (0,List.replicate (a.length+b.length) 0) ?_
  ⟨zG _,zN,OkD.replicate _,by dsimp only;rw[jdu];simp[val],fun j _=>by
   unfold dgt;rw[qH];split<;>rfl⟩ ?_
 ·simp only[Int.natCast_zero,yF,zN,go_sem]
 intro⟨i,out0⟩ ⟨hi,hl0,ho0,hv0,hz0⟩;dsimp only at hi hl0 ho0 hv0 hz0;by_cases hp:(i:Int)<a.length
 case neg=>
  have hd:decide ((i:Int)<a.length)=false:=za hp;rw[jca (l:=a) (i:=i) (by omega)]at hv0;have ht:=t_ptrimO out0 ho0 (by omega);rw[hv0,hl0]at ht;have hpad:=pad_eq ho0;rw[hl0,hv0]at hpad;have hall:(out0.map ic).take (a.length+b.length)=out0.map ic:=zD (by rw[zh];omega);have hle:a.length+b.length<=out0.length:=by omega
  simp only[hd,hle,hall,go_sem];refine jlt [(900,17)] (ht) (by decide) (by simp) (by simp[rnm,look]) (by repeat' (first | exact trivial | refine⟨rfl,?_⟩)) rfl rfl rfl rfl ?_ rfl;simp only[hpad,j0,go_sem]
 case pos=>
  have hd:decide ((i:Int)<a.length)=true:=zk hp;have hx:=jba hp;have h1:=ja9 (n:=(i:Int)+1) (by omega);simp only[hd,zq,hx,go_sem];refine jao [1,5,6,7,8,18,19,20,25,26,27] [17] (fun g:Nat×List Int×Int=>⟨[(1,.im (.sl (b.map ic))),(5,.gsl 17 3 1 (a.length+b.length)),(6,.im (.int i)),(7,.im (.int (dgt a i))),(8,.im (.int g.2.2)),(18,.im (.sl (a.map ic))),(19,.im (.int a.length)),(20,.im (.int i)),(25,.im (.sl (b.map ic))),(26,.im (.int b.length)),(27,.im (.int g.1))],[(17,1,g.2.1.map ic)],[]⟩)
   (fun g=>g.1<=b.length/\g.2.1.length=a.length+b.length/\OkD g.2.1/\0<=g.2.2/\g.2.2<1048576/\val g.2.1+1048576^(i+g.1)*g.2.2=val (a.take i)*val b+1048576^i*(dgt a i*val (b.take g.1))/\∀j,i+b.length<=j->dgt g.2.1 j=0)
   (fun g=>b.length-g.1) (0,out0,0) ?_ ⟨zG _,hl0,ho0,yp _,by dsimp only;omega,by dsimp only;rw[List.take_zero,hv0];simp[val],hz0⟩ ?_
  ·simp only[Int.natCast_zero,go_sem]
  intro⟨k,out,c⟩ ⟨hk,hl,ho,hc0,hc1,hv,hz⟩;dsimp only at hk hl ho hc0 hc1 hv hz;by_cases hkl:(k:Int)<b.length
  case neg=>
   have d1:decide ((k:Int)<b.length)=false:=za hkl;have hkb:k=b.length:=by omega
   subst hkb;rw[jca (l:=b) (zu _)]at hv;obtain⟨g1,g2,g3,g4⟩:=jr8 (a:=a) (by omega) ho hz ⟨hc0,hc1⟩ hv;have w1:=ja9 (n:=(i:Int)+b.length) (by omega);have hjn:((i:Int)+b.length).toNat=i+b.length:=by omega
   have hj0:(0:Int)<=(i:Int)+b.length:=by omega
   have hjl:(i:Int)+b.length<((a.length+b.length:Nat):Int):=by omega
   have hy:out[i+b.length]? =some (dgt out (i+b.length)):=jba (by omega);rw[hz _ (zu _)]at hy;have w2:=ja9 (n:=0+c) (by omega);rw[yY]at w2;simp only[d1,w1,hjn,hj0,hjl,zq,hy,w2,yY,go_sem];refine jad (i+1,out.set (i+b.length) c) ?_ ?_ ⟨?_,?_,g1,g3,g4⟩
   ·simp only[h1,Int.natCast_add,qn,go_sem]
   ·show a.length-(i+1)<a.length-i;omega
   ·show i+1<=a.length;omega
   ·show(out.set (i+b.length) c).length=_;rw[g2];exact hl
  case pos=>
   have d1:decide ((k:Int)<b.length)=true:=zk hkl;have hyb:=jba hkl;have hda:=ha.dgt i;have hdb:=hb.dgt k;have hdo:=ho.dgt (i+k);have hmul:=jkw hda hdb;have w1:=ja9 (n:=(i:Int)+k) (by omega);have w2:=ja9 (n:=dgt a i*dgt b k) (by omega);have w3:=ja9 (n:=dgt out (i+k)+dgt a i*dgt b k) (by omega);have w4:=ja9 (n:=dgt out (i+k)+dgt a i*dgt b k+c) (by omega);have w5:=ja9 (n:=(k:Int)+1) (by omega);have hjn:((i:Int)+k).toNat=i+k:=by omega
   have hj0:(0:Int)<=(i:Int)+k:=by omega
   have hjl:(i:Int)+k<((a.length+b.length:Nat):Int):=by omega
   have hy:out[i+k]? =some (dgt out (i+k)):=jba (by omega);have hs:=jm0 (out:=out) (b:=b) (j:=i+k) (i:=i) (k:=k) (c:=c) (x:=dgt a i) (V:=val (a.take i)*val b) rfl (by omega) hv rfl;generalize hn:dgt out (i+k)+dgt a i*dgt b k+c=n at*;have a1:=and20 n;simp only[d1,zq,hyb,w1,w2,hjn,hj0,hjl,hy,w3,hn,w4,a1,go_sem];refine jad (k+1,out.set (i+k) (n % 1048576),n/1048576) ?_ ?_ ⟨?_,?_,ho.set (by omega),?_,?_,hs,fun j hj=> ?_⟩
   ·simp only[w5,hn,w4,Int.natCast_add,qn,go_sem]
   ·show b.length-(k+1)<b.length-k;omega
   ·show k+1<=b.length;omega
   ·show(out.set (i+k) _).length=_;rw[zZ];exact hl
   ·show 0<=n/1048576;omega
   ·show n/1048576<1048576;omega
   ·have:=hz j hj;unfold dgt at this⊢;rw[yG (by omega)];exact this
end
section
open Go.Abs
attribute [local go_sem] ints ic
end
section
open Go.Abs
attribute [local go_sem] ints ic
end
section
open Go.Abs
attribute [local go_sem] ints ic
def okd(d:Int):Bool:= !decide (d<0)&& !decide (1048576<=d)
def jem(s:Int)(l:List Int):Bool:=
 l.all okd&&(!decide (s< -1)&&(!decide (1<s)&&((decide ((l.length:Int)=0)==decide (s=0))&&(decide ((l.length:Int)=0) || !decide (dgt l (l.length-1)=0)))))
theorem okd_iff{d:Int}:okd d=true↔0<=d/\d<1048576:=by simp[okd]
theorem all_okd{l:List Int}:l.all okd=true↔OkD l:=by
 rw[List.all_eq_true];exact⟨fun h d hd=>okd_iff.1 (h d hd),fun h d hd=>okd_iff.2 (h d hd)⟩
theorem all_okd_succ{l:List Int}{i:Nat}(h:(i:Int)<l.length):(l.take (i+1)).all okd=((l.take i).all okd&&okd (dgt l i)):=by
 have hx:=jba h;rw[yV,hx,List.all_append];simp
end
section
open Go.Abs
def big(z:Int):IV:= .agg [.int z.sign,ints (dig z.natAbs)]
theorem jko(z:Int):jem z.sign (dig z.natAbs)=true:=by
 have h1:(dig z.natAbs).all okd=true:=all_okd.2 (jc6 _);have hs: -1<=z.sign/\z.sign<=1:=by
  rcases qZ z 0 with h | h | h
  ·rw[zR h];omega
  ·subst h;decide
  ·rw[zW h];omega
 have hz:(dig z.natAbs=[])↔z.sign=0:=by
  rw[dig_nil,yB];omega
 simp only[jem,h1,qx,zB,yx,qi,yL,qG,zU];refine⟨by omega,by omega,?_,?_⟩
 ·rw[yy,<-hz];constructor
  ·intro h;exact jz.1 (by omega)
  ·intro h;rw[h];rfl
 ·by_cases h:dig z.natAbs=[]
  ·left;rw[h];rfl
  ·right;intro h2;have h3:=jnh z.natAbs;rw[yQ]at h3;have h4:=qM.2 h;have h5:=jba (l:=dig z.natAbs) (i:=(dig z.natAbs).length-1) (by omega);rw[h5,h2]at h3;exact h3 rfl
theorem jiy(z:Int): -1<=z.sign/\z.sign<=1:=by
 rcases qZ z 0 with h | h | h
 ·rw[zR h];omega
 ·subst h;decide
 ·rw[zW h];omega
attribute [local go_sem] ints ic big
theorem jl0{a b:Nat}{k m:Nat}(ha:(dig a).length<=k)(hb:(dig b).length<=m):(dig (a*b)).length<=k+m:=by
 refine jc7 ?_;have h1:(a:Int)<1048576^k:=by
  have:=jek (jc6 a);rw[jb7]at this;exact vg this (by
   have h3:=j9.2 (q7 (n:=1048576) (by omega) ha);rw[Int.natCast_pow,Int.natCast_pow]at h3;exact h3)
 have h2:(b:Int)<1048576^m:=by
  have:=jek (jc6 b);rw[jb7]at this;exact vg this (by
   have h3:=j9.2 (q7 (n:=1048576) (by omega) hb);rw[Int.natCast_pow,Int.natCast_pow]at h3;exact h3)
 have g1:a<1048576^k:=vt.1 (by rw[Int.natCast_pow];exact h1);have g2:b<1048576^m:=vt.1 (by rw[Int.natCast_pow];exact h2);have g3:=vt.2 (Nat.mul_lt_mul'' g1 g2);rw[<-Nat.pow_add,Int.natCast_pow]at g3;exact g3
end
section
open Go.Abs
attribute [local go_sem] ints ic big
def cmpI(a b:Int):Int:=if a<b then-1 else if a=b then 0 else 1
theorem sign_lt{a b:Int}(h:a.sign<b.sign):a<b:=by
 rcases qZ a 0 with h1 | h1 | h1<;>rcases qZ b 0 with h2 | h2 | h2<;>
  simp[zR,zW, *]at h<;>omega
end
section
open Go.Abs
attribute [local go_sem] ints ic big
theorem jhh{n k:Nat}(h:(dig n).length<=k):(n:Int)<1048576^k:=by
 have:=jek (jc6 n);rw[jb7]at this;exact vg this (by
  have h3:=j9.2 (q7 (n:=1048576) (by omega) h);rw[Int.natCast_pow,Int.natCast_pow]at h3;exact h3)
theorem len_add{n a b k:Nat}(ha:(dig a).length<=k)(hb:(dig b).length<=k)(h:n<=a+b):(dig n).length<=k+1:=by
 refine jc7 ?_;have h1:=jhh ha;have h2:=jhh hb;rw[jdh];omega
end
section
open Go.Abs
attribute [local go_sem] ints ic
end
section
open Go.Abs
attribute [local go_sem] ints ic big
theorem jdb{n m k:Nat}(h:n<=m)(hm:(dig m).length<=k):(dig n).length<=k:=jc7 (by have:=jhh hm;omega)
end
section
open Go.Abs
attribute [local go_sem] ints ic mb20 pw20 fd20
theorem t_nan(x:Int):Ctr G.P 120 [.int x] (· = .bool false):=by
 refine ja4 [.tmp 2] Tryz.func120 ?_;simp only[j0,go_sem]
theorem t_cmp(x y:Int):Ctr G.P 94 [.int x,.int y] (· = .int (cmpI x y)):=by
 have h1:=t_nan x;have h2:=t_nan y;refine ja4 [.tmp 4] Tryz.func94 ?_;simp only[go_sem];refine ja1 h1 ?_;simp only[go_sem];refine ja1 h2 ?_;simp only[go_sem];refine jde (fun d1 d1'=> ?_) (fun d1 d1'=> ?_)
 ·have:cmpI x y= -1:=zn d1';rw[this];simp only[d1,go_sem]
 ·simp only[d1,go_sem];refine jde (fun d2 d2'=> ?_) (fun d2 d2'=> ?_)
  ·have:cmpI x y=1:=by rw[cmpI,zp d1',zp (by omega)]
   rw[this];simp only[d1,d2,go_sem]
  ·have:cmpI x y=0:=by rw[cmpI,zp d1',zn (by omega)]
   rw[this];simp only[d1,d2,go_sem]
theorem cmp_len{n m:Nat}(h:(dig n).length≠(dig m).length):cmpI ((dig n).length:Int) ((dig m).length:Int)=cmpI (n:Int) (m:Int):=by
 rcases ve h with h1 | h1
 ·have:n<m:=by
   rcases zX n m with h2 | h2
   ·exact h2
   ·have:=jdb h2 (zu _);omega
  rw[cmpI,cmpI,zn (by omega),zn (by omega)]
 ·have:m<n:=by
   rcases zX m n with h2 | h2
   ·exact h2
   ·have:=jdb h2 (zu _);omega
  rw[cmpI,cmpI,zp (by omega),zp (by omega),zp (by omega),zp (by omega)]
theorem cmp_dgt{a b:List Int}(ha:OkD a)(hb:OkD b){m:Nat}(h:∀j,m<j->dgt a j=dgt b j)(hne:dgt a m≠dgt b m):cmpI (dgt a m) (dgt b m)=cmpI (val a) (val b):=by
 rcases q8 hne with h1 | h1
 ·have:=lt_at ha hb m h h1;rw[cmpI,cmpI,zn h1,zn this]
 ·have:=lt_at hb ha m (fun j hj=>(h j hj).symm) h1;rw[cmpI,cmpI,zp (by omega),zp (by omega),zp (by omega),zp (by omega)]
theorem jfs(x y:Nat)(lx:(dig x).length<=1000000000000)(ly:(dig y).length<=1000000000000):Ctr G.P 95 [ints (dig x),ints (dig y)] (· = .int (cmpI (x:Int) (y:Int))):=by
 by_cases hl:(dig x).length=(dig y).length
 case neg=>
  have hc:=t_cmp ((dig x).length:Int) ((dig y).length:Int);rw[cmp_len hl]at hc;have hd:decide (((dig x).length:Int)=(dig y).length)=false:=za (by omega);refine ja4 [.tmp 4] Tryz.func95 ?_;simp only[hd,go_sem];refine ja1 hc ?_;simp only[go_sem]
 case pos=>
  have hvx:=jb7 x;have hvy:=jb7 y;have hox:=jc6 x;have hoy:=jc6 y;generalize dig x=a at*;generalize dig y=b at*;rw[<-hvx,<-hvy];have hli:(a.length:Int)=b.length:=by omega
  have hw:=ja9 (n:=(b.length:Int)-1) (by omega);refine ja4 [.tmp 4] Tryz.func95 ?_;simp only[hli,j0,hw,go_sem];refine jao [0,1,5] [] (fun n:Nat=>⟨[(0,.im (.sl (a.map ic))),(1,.im (.sl (b.map ic))),(5,.im (.int ((n:Int)-1)))],[],[]⟩) (fun n=>n<=b.length/\∀j,n<=j->dgt a j=dgt b j) (fun n=>n) b.length ?_
   ⟨zu _,fun j hj=>by rw[jex (by omega),jex (by omega)]⟩ ?_
  ·simp only[hw,go_sem]
  intro n ⟨hn,hz⟩;rcases n with _ | m
  ·have hd:decide ((0:Int)<=((0:Nat):Int)-1)=false:=by decide
   have hv:val a=val b:=jqs fun j=>hz j (zG _);have hv':cmpI (val a) (val b)=0:=by rw[cmpI,zp (by omega),zn hv]
   rw[hv'];simp only[hd,go_sem]
  ·have h2:((m+1:Nat):Int)-1=m:=by omega
   have hd:decide ((0:Int)<=(m:Int))=true:=zk (by omega);have h3:=ja9 (n:=(m:Int)-1) (by omega);have hx:=jba (l:=a) (i:=m) (by omega);have hy:=jba (l:=b) (i:=m) (by omega);simp only[h2,hd,go_sem];refine jai 9 ?_;simp only[h2,zq,hx,hy,go_sem];refine jde (fun he he'=> ?_) (fun he he'=> ?_)
   ·simp only[h2,he,go_sem];refine jad m ?_ (by omega) ⟨by omega,fun j hj=> ?_⟩
    ·simp only[h2,h3,go_sem]
    ·rcases zX m j with h | h
     ·exact hz j h
     ·rw[show j=m by omega];exact he'
   ·have hc:=t_cmp (dgt a m) (dgt b m);rw[cmp_dgt hox hoy (fun j hj=>hz j hj) he']at hc;simp only[h2,he,go_sem];refine jai 10 ?_;simp only[h2,zq,hx,hy,go_sem];refine ja6 hc (by decide) ?_;simp only[go_sem]
end
section
open Go.Abs
attribute [local go_sem] ints ic mb20 pw20 fd20
def winL(U:List Int)(i:Nat)(X:List Int):List Int:=U.take i++X++U.drop (i+X.length)
theorem jqj{U X:List Int}{i:Nat}(h:i+X.length<=U.length):(winL U i X).length=U.length:=by
 simp only[winL,zF,qe,jq];omega
theorem jqk{U X:List Int}{i k:Nat}(hi:i<=U.length)(hk:k<X.length):(winL U i X)[i+k]? =some (dgt X k):=by
 have hl:(U.take i).length=i:=by rw[qe];omega
 rw[winL,qz,zV (by omega),hl,j5,zQ hk];exact jba (by omega)
theorem jqh{U X:List Int}{i k:Nat}{y:Int}(hi:i<=U.length)(hk:k<X.length):(winL U i X).set (i+k) y=winL U i (X.set k y):=by
 have hl:(U.take i).length=i:=by rw[qe];omega
 rw[winL,winL,zZ,qz,qz,vq _ _ (by omega),hl,j5,List.set_append_left _ _ hk]
theorem winL_self{U:List Int}{i m:Nat}(h:i+m<=U.length):winL U i ((U.drop i).take m)=U:=by
 have hl:((U.drop i).take m).length=m:=by rw[qe,jq];omega
 rw[winL,hl,qz,<-vw,ja,ja]
theorem mul_step{out v:List Int}{k:Nat}{c n g V:Int}(hi:k<out.length)(h:val out-1048576^k*c=V-g*val (v.take k))(hn:n=dgt out k-c-g*dgt v k):
  val (out.set k (n % 1048576))-1048576^(k+1)* -(n/1048576)=V-g*val (v.take (k+1)):=by
 rw[jg9 _ _ _ hi,jcq,jdh];generalize (1048576:Int)^k=p at*;have e0:=qL n 1048576;have e:p*(n % 1048576-dgt out k)-p*1048576* -(n/1048576)=p*(n-dgt out k):=by
  rw[qJ,<-va];congr 1;omega
 have e2:p*(n-dgt out k)= -(p*(g*dgt v k))-p*c:=by
  rw[hn,show dgt out k-c-g*dgt v k-dgt out k= -(g*dgt v k)-c by omega,va,jv]
 have e3:g*(val (v.take k)+p*dgt v k)=g*val (v.take k)+p*(g*dgt v k):=by rw[qE,j2]
 rw[e3];omega
theorem back_step{out v:List Int}{k:Nat}{c n V:Int}(hi:k<out.length)(h:val out+1048576^k*c=V+val (v.take k))(hn:n=c+dgt out k+dgt v k):
  val (out.set k (n % 1048576))+1048576^(k+1)*(n/1048576)=V+val (v.take (k+1)):=by
 rw[jg9 _ _ _ hi,jcq,jdh];generalize (1048576:Int)^k=p at*;have e0:=qL n 1048576;have e:p*(n % 1048576-dgt out k)+p*1048576*(n/1048576)=p*(n-dgt out k):=by
  rw[qJ,<-qE];congr 1;omega
 have e2:p*(n-dgt out k)=p*c+p*dgt v k:=by
  rw[hn,show c+dgt out k+dgt v k-dgt out k=c+dgt v k by omega,qE]
 omega
def jh0(w v g:Int):Int:=if 0<=w-g*v then g else g-1
theorem jqn(U W v:List Int)(i0 n:Nat)(g:Int)(hW:OkD W)(hv:OkD v)(lW:W.length=n+1)(lv:v.length=n)(hU:i0+(n+1)<=U.length)(hU2:U.length<=10000000000000)
  (hg:0<=g/\g<1048576) (hq:0<=val W-g*val v\/0<=val W-(g-1)*val v):
  CtrM G.P 142 [.osl 900 1 i0 (n+1),.im (ints v),.im (.int g)] [(900,1,(winL U i0 W).map ic)]
   (fun r Es new=>r= .im (.int (jh0 (val W) (val v) g))/\Es=[(winL U i0 (padD (n+1) (val W-jh0 (val W) (val v) g*val v).toNat)).map ic]/\new=none):=by
 have hWl:=jek hW;have hv0:=jb2 hv;have hgv:0<=g*val v:=qN hg.1 hv0;rw[lW]at hWl;refine jnr good _ _ [.tmp 6] Tryz.func142 rfl rfl (by decide+kernel) rfl rfl (by simp) ?_;simp only[go_sem];refine jao [0,1,2,7,12,13,14] [900] (fun s:Nat×List Int×Int=>⟨[(0,.osl 900 1 i0 (n+1)),(1,.im (.sl (v.map ic))),(2,.im (.int g)),(7,.im (.int s.2.2)),(12,.osl 900 1 i0 (n+1)),(13,.im (.int ((n+1:Nat):Int))),(14,.im (.int s.1))],[(900,1,(winL U i0 s.2.1).map ic)],[]⟩)
  (fun s=>s.1<=n+1/\s.2.1.length=n+1/\OkD s.2.1/\0<=s.2.2/\s.2.2<=1048576/\val s.2.1-1048576^s.1*s.2.2=val W-g*val (v.take s.1)) (fun s=>n+1-s.1) (0,W,0) ?_
  ⟨zG _,lW,hW,yp _,by dsimp only;omega,by dsimp only;simp[val]⟩ ?_
 ·simp only[Int.natCast_zero,go_sem]
 intro⟨k,X,c⟩ ⟨hk,lX,hX,hc0,hc1,hinv⟩;dsimp only at hk lX hX hc0 hc1 hinv;by_cases hp:(k:Int)<((n+1:Nat):Int)
 case pos=>
  have hd:decide ((k:Int)<((n+1:Nat):Int))=true:=zk hp;have hdX:=hX.dgt k;have hdv:=hv.dgt k;have hmul:=jkw hg hdv;have h1:=ja9 (n:=(k:Int)+1) (by omega);have hy:=jqk (U:=U) (X:=X) (i:=i0) (k:=k) (by omega) (by omega);have w0:=ja9 (n:=g*dgt v k) (by omega);have w1:=ja9 (n:=dgt X k-c) (by omega);have w2:=ja9 (n:=dgt X k-c-g*dgt v k) (by omega);have hs:=mul_step (by omega:k<X.length) hinv rfl;generalize hN:dgt X k-c-g*dgt v k=t at*;have a1:=and20 t;have a2:=ja9 (n:=0-t/1048576) (by omega);have hset:((winL U i0 X).map ic).set (i0+k) [.sc (.int .i64 (t % 1048576))]=(winL U i0 (X.set k (t % 1048576))).map ic:=by
   rw[<-jqh (by omega) (by omega),qn];rfl
  have e0:0-t/1048576= -(t/1048576):=by omega
  rw[e0]at a2;have fin:(0<= -(t/1048576)/\ -(t/1048576)<=1048576)/\(X.set k (t % 1048576)).length=n+1/\OkD (X.set k (t % 1048576)):=
   ⟨by omega,by rw[zZ];exact lX,hX.set (by omega)⟩
  obtain⟨f1,f2,f3⟩:=fin;by_cases hbl:(k:Int)<v.length
  ·have hd2:decide ((k:Int)<v.length)=true:=zk hbl;have hxb:=jba hbl;simp only[hd,hp,hd2,zq,hxb,hy,w0,w1,hN,w2,a1,a2,hset,e0,go_sem];refine jad (k+1,X.set k (t % 1048576),-(t/1048576)) ?_ ?_ ⟨?_,f2,f3,f1.1,f1.2,hs⟩
   ·simp only[h1,Int.natCast_add,go_sem]
   ·show n+1-(k+1)<n+1-k;omega
   ·show k+1<=n+1;omega
  ·have hd2:decide ((k:Int)<v.length)=false:=za hbl;have hb0:dgt v k=0:=jex (by omega);rw[hb0,yj,jm]at hN;rw[hN]at w1;simp only[hd,hp,hd2,zq,hy,hN,w1,a1,a2,hset,e0,go_sem];refine jad (k+1,X.set k (t % 1048576),-(t/1048576)) ?_ ?_ ⟨?_,f2,f3,f1.1,f1.2,hs⟩
   ·simp only[h1,Int.natCast_add,go_sem]
   ·show n+1-(k+1)<n+1-k;omega
   ·show k+1<=n+1;omega
 case neg=>
  have hd:decide ((k:Int)<((n+1:Nat):Int))=false:=za hp;have hkn:k=n+1:=by omega
  subst hkn;rw[jca (l:=v) (by omega)]at hinv;have hXl:=jek hX;have hX0:=jb2 hX;rw[lX]at hXl;by_cases hc:c=0
  ·subst hc;rw[yj,jm]at hinv;have hset:jh0 (val W) (val v) g=g:=zn (by omega);have hpad:=pad_eq hX;rw[lX,hinv]at hpad;rw[hset];simp only[hd,<-hpad,j0,go_sem]
  ·have hcd:decide (c=0)=false:=za hc;have hP:=jdx (n+1);have hcm:1048576^(n+1)*1<=1048576^(n+1)*c:=qg (by omega) (by omega);have hneg:¬0<=val W-g*val v:=by omega
   have hset:jh0 (val W) (val v) g=g-1:=zp hneg;have hq':=hq.resolve_left hneg;rw[hset];have wg:=ja9 (n:=g-1) (by omega);simp only[hd,hcd,go_sem];refine jao [0,1,2,10,47,48,49] [900] (fun s:Nat×List Int×Int=>⟨[(0,.osl 900 1 i0 (n+1)),(1,.im (.sl (v.map ic))),(2,.im (.int g)),(10,.im (.int s.2.2)),(47,.osl 900 1 i0 (n+1)),(48,.im (.int ((n+1:Nat):Int))),(49,.im (.int s.1))],[(900,1,(winL U i0 s.2.1).map ic)],[]⟩)
    (fun s=>s.1<=n+1/\s.2.1.length=n+1/\OkD s.2.1/\0<=s.2.2/\s.2.2<=1/\val s.2.1+1048576^s.1*s.2.2=val X+val (v.take s.1)) (fun s=>n+1-s.1) (0,X,0) ?_
    ⟨zG _,lX,hX,yp _,by dsimp only;omega,by dsimp only;simp[val]⟩ ?_
   ·simp only[Int.natCast_zero,go_sem]
   intro⟨k,Y,e⟩ ⟨hk2,lY,hY,he0,he1,hinv2⟩;dsimp only at hk2 lY hY he0 he1 hinv2;by_cases hp2:(k:Int)<((n+1:Nat):Int)
   case pos=>
    have hd3:decide ((k:Int)<((n+1:Nat):Int))=true:=zk hp2;have hdY:=hY.dgt k;have hdv:=hv.dgt k;have h1:=ja9 (n:=(k:Int)+1) (by omega);have hy:=jqk (U:=U) (X:=Y) (i:=i0) (k:=k) (by omega) (by omega);have w1:=ja9 (n:=e+dgt Y k) (by omega);have w2:=ja9 (n:=e+dgt Y k+dgt v k) (by omega);have hs:=back_step (by omega:k<Y.length) hinv2 rfl;generalize hN:e+dgt Y k+dgt v k=t at*;have a1:=and20 t;have hset2:((winL U i0 Y).map ic).set (i0+k) [.sc (.int .i64 (t % 1048576))]=(winL U i0 (Y.set k (t % 1048576))).map ic:=by
     rw[<-jqh (by omega) (by omega),qn];rfl
    have fin:(0<=t/1048576/\t/1048576<=1)/\(Y.set k (t % 1048576)).length=n+1/\OkD (Y.set k (t % 1048576)):=
     ⟨by omega,by rw[zZ];exact lY,hY.set (by omega)⟩
    obtain⟨f1,f2,f3⟩:=fin;by_cases hbl:(k:Int)<v.length
    ·have hd2:decide ((k:Int)<v.length)=true:=zk hbl;have hxb:=jba hbl;simp only[hd3,hp2,hd2,zq,hxb,hy,w1,hN,w2,a1,hset2,go_sem];refine jad (k+1,Y.set k (t % 1048576),t/1048576) ?_ ?_ ⟨?_,f2,f3,f1.1,f1.2,hs⟩
     ·simp only[h1,Int.natCast_add,go_sem]
     ·show n+1-(k+1)<n+1-k;omega
     ·show k+1<=n+1;omega
    ·have hd2:decide ((k:Int)<v.length)=false:=za hbl;have hb0:dgt v k=0:=jex (by omega);rw[hb0,yw]at hN;rw[hN]at w1;simp only[hd3,hp2,hd2,zq,hy,hN,w1,a1,hset2,go_sem];refine jad (k+1,Y.set k (t % 1048576),t/1048576) ?_ ?_ ⟨?_,f2,f3,f1.1,f1.2,hs⟩
     ·simp only[h1,Int.natCast_add,go_sem]
     ·show n+1-(k+1)<n+1-k;omega
     ·show k+1<=n+1;omega
   case neg=>
    have hd3:decide ((k:Int)<((n+1:Nat):Int))=false:=za hp2;have hkn:k=n+1:=by omega
    subst hkn;rw[jca (l:=v) (by omega)]at hinv2;have hYl:=jek hY;have hY0:=jb2 hY;rw[lY]at hYl;have hYv:val Y=val W-(g-1)*val v:=by
     have e1:(g-1)*val v=g*val v-val v:=by rw[jN];omega
     rw[e1]at hq'⊢;have e2:1048576^(n+1)*(c-e)=1048576^(n+1)*c-1048576^(n+1)*e:=va ..;have hce:c-e=0:=by
      rcases qZ (c-e) 0 with h | h | h
      ·have:1048576^(n+1)*(c-e)<=1048576^(n+1)*(-1):=qg (by omega) (by omega);omega
      ·exact h
      ·have:1048576^(n+1)*1<=1048576^(n+1)*(c-e):=qg (by omega) (by omega);omega
     rw[hce,yj]at e2;omega
    have hpad:=pad_eq hY;rw[lY,hYv]at hpad;simp only[hd3,wg,<-hpad,j0,go_sem]
end
end Go.Proofs.YtgncgpfjldefpaaGreat
namespace Go.Abs
section
theorem ex2(x y D:Int):(x*1048576+y)*D=1048576*(x*D)+y*D:=by
 rw[yu,yf x,qJ]
theorem ex3(g x y D z:Int):g*((x*1048576+y)*D+z)=1048576*(g*x*D)+g*y*D+g*z:=by
 rw[ex2,qE,qE,j2 g,<-qJ g,<-qJ g]
theorem knuth_first{g rest top v1 v2 w V W D Vl Wl:Int}(hD:0<D)(hV:V=(v1*1048576+v2)*D+Vl)(hVl:0<=Vl)(hv2:0<=v2)(hW:W=(top*1048576+w)*D+Wl)(hWl:Wl<D)
  (hw:w<1048576) (hg:g*v1+rest=top) (hr:rest<v1) (g0:0<=g):W<(g+1)*V:=by
 have h1:0<=g*(v2*D):=qN g0 (qN hv2 (by omega));have h1':0<=g*Vl:=qN g0 hVl;have h1'':0<=v2*D:=qN hv2 (by omega);have h2:(top+1)*D<=(g*v1+v1)*D:=qo (by omega) (by omega);have h3:w*D<=1048575*D:=qo (by omega) (by omega);have e:(g+1)*V=g*V+V:=by rw[yu,yH]
 rw[yu,yu,yH]at h2;rw[<-qJ]at h1;have e2:g*V=1048576*(g*v1*D)+g*v2*D+g*Vl:=by rw[hV,ex3]
 have e3:V=1048576*(v1*D)+v2*D+Vl:=by rw[hV,ex2]
 have e4:W=1048576*(top*D)+w*D+Wl:=by rw[hW,ex2]
 rw[e,e2,e3,e4];clear hV hW e e2 e3 e4;omega
theorem knuth_down{g rest top v1 v2 w V W D Vl Wl:Int}(hD:0<D)(hV:V=(v1*1048576+v2)*D+Vl)(hVl:0<=Vl)(hW:W=(top*1048576+w)*D+Wl)(hWl:Wl<D)
  (hg:g*v1+rest=top) (g0:0<=g) (h:rest*1048576+w<g*v2):W<g*V:=by
 have h1:0<=g*Vl:=qN g0 hVl;have h2:(rest*1048576+w+1)*D<=(g*v2)*D:=qo (by omega) (by omega);have h3:(g*v1+rest)*D=top*D:=by rw[hg]
 rw[yu,ex2,yH]at h2;rw[yu]at h3;have e2:g*V=1048576*(g*v1*D)+g*v2*D+g*Vl:=by rw[hV,ex3]
 have e4:W=1048576*(top*D)+w*D+Wl:=by rw[hW,ex2]
 rw[e2,e4];clear hV hW e2 e4;omega
theorem jmd{g rest top v1 v2 w V W D Vl Wl:Int}(hD:0<D)(hV:V=(v1*1048576+v2)*D+Vl)(hVl:Vl<D)(hW:W=(top*1048576+w)*D+Wl)(hWl:0<=Wl)
  (hg:g*v1+rest=top) (g0:1<=g) (g1:g<1048576) (hv1:1<=v1) (hv2:0<=v2/\v2<1048576) (hw:0<=w) (h:1048576<=rest\/g*v2<=rest*1048576+w):(g-1)*V<=W:=by
 have h0:g*v2<=rest*1048576+w:=by
  rcases h with h | h
  ·have:g*v2<=1048575*1048575:=jX (by omega) (by omega) hv2.1 (by omega);omega
  ·exact h
 have h1:(g-1)*Vl<=(g-1)*D:=qg (by omega) (by omega);have h2:(g*v2)*D<=(rest*1048576+w)*D:=qo h0 (by omega);have h3:(g*v1+rest)*D=top*D:=by rw[hg]
 have h4:(g-1)*D<=(v1*1048576+v2)*D:=qo (by omega) (by omega);rw[ex2]at h2;rw[yu]at h3;rw[ex2]at h4;have e:(g-1)*V=g*V-V:=by rw[jN,yH]
 have e2:g*V=1048576*(g*v1*D)+g*v2*D+g*Vl:=by rw[hV,ex3]
 have e3:V=1048576*(v1*D)+v2*D+Vl:=by rw[hV,ex2]
 have e4:W=1048576*(top*D)+w*D+Wl:=by rw[hW,ex2]
 have e5:(g-1)*Vl=g*Vl-Vl:=by rw[jN,yH]
 have e6:(g-1)*D=g*D-D:=by rw[jN,yH]
 rw[e5,e6]at h1;rw[e6]at h4;rw[e,e2,e3,e4];clear hV hW e e2 e3 e4 e5 e6;omega
theorem joo{g V W:Int}(hV:0<V)(h1:W<(g+1)*V)(h2:0<=W-g*V\/0<=W-(g-1)*V):
  (if 0<=W-g*V then g else g-1)=W/V/\W-(if 0<=W-g*V then g else g-1)*V=W % V:=by
 have key:∀q:Int,0<=W-q*V->W-q*V<V->q=W/V/\W-q*V=W % V:=fun q hq0 hq1=>by
  have hq:W/V=q:=by
   rw[show W=(W-q*V)+q*V by omega,Int.add_mul_ediv_right _ _ (by omega),Int.ediv_eq_zero_of_lt hq0 hq1,yY]
  refine⟨hq.symm,?_⟩;have:=qL W V;rw[hq,yf]at this;omega
 have e1:(g+1)*V=g*V+V:=by rw[yu,yH]
 have e2:(g-1)*V=g*V-V:=by rw[jN,yH]
 split
 ·rename_i h;exact key g h (by omega)
 ·rename_i h;exact key (g-1) (h2.resolve_left h) (by omega)
end
end Go.Abs
namespace Go.Proofs.YtgncgpfjldefpaaGreat
section
open Go.Abs
attribute [local go_sem] ints ic mb20 pw20 fd20
theorem dgt_drop(l:List Int)(i j:Nat):dgt (l.drop i) j=dgt l (i+j):=by unfold dgt;rw[qU]
theorem dgt_take_lt{l:List Int}{n j:Nat}(h:j<n):dgt (l.take n) j=dgt l j:=by unfold dgt;rw[qf,zn h]
theorem top_two{l:List Int}{n:Nat}(hl:OkD l)(hn:2<=n)(hlen:l.length=n):∃Vl,val l=(dgt l (n-1)*1048576+dgt l (n-2))*1048576^(n-2)+Vl/\0<=Vl/\Vl<1048576^(n-2):=by
 refine⟨val (l.take (n-2)),?_,jb2 (hl.take _),jdr hl _⟩;have h1:=jdd l (n-2);have h2:=jd2 l (n-2);have h3:=jd2 l (n-2+1);rw[show n-2+1=n-1 by omega]at h2 h3;rw[zY (by omega:l.length<=n-1+1),show val []=0 from rfl,yj,yw]at h3;rw[h3]at h2;rw[h2]at h1;rw[h1,yf (1048576^(n-2))];have:dgt l (n-2)+1048576*dgt l (n-1)=dgt l (n-1)*1048576+dgt l (n-2):=by omega
 rw[this];omega
theorem top_three{l:List Int}{n:Nat}(hl:OkD l)(hn:2<=n)(hlen:l.length=n+1):∃Wl,val l=((dgt l n*1048576+dgt l (n-1))*1048576+dgt l (n-2))*1048576^(n-2)+Wl/\0<=Wl/\Wl<1048576^(n-2):=by
 refine⟨val (l.take (n-2)),?_,jb2 (hl.take _),jdr hl _⟩;have h1:=jdd l (n-2);have h2:=jd2 l (n-2);have h3:=jd2 l (n-2+1);rw[show n-2+1=n-1 by omega]at h2 h3;have h4:=jd2 l (n-1+1);rw[show n-1+1=n by omega]at h3 h4;rw[zY (by omega:l.length<=n+1),show val []=0 from rfl,yj,yw]at h4;rw[h4]at h3;rw[h3]at h2;rw[h2]at h1;rw[h1,yf (1048576^(n-2))];have:dgt l (n-2)+1048576*(dgt l (n-1)+1048576*dgt l n)=(dgt l n*1048576+dgt l (n-1))*1048576+dgt l (n-2):=by omega
 rw[this];omega
theorem shifted{y s n:Nat}(hn:(dig y).length=n)(hn1:1<=n)(h1:524288<=dgt (dig y) (n-1)*s)(h2:(dgt (dig y) (n-1)+1)*s<=1048576):
  (dig (y*s)).length=n/\524288<=dgt (dig (y*s)) (n-1)/\(524288:Int)*1048576^(n-1)<=((y*s:Nat):Int):=by
 have hv:=jb7 y;have ho:=jc6 y;have hs:=jdd (dig y) (n-1);have hd:=jd2 (dig y) (n-1);rw[zY (by omega:(dig y).length<=n-1+1),show val []=0 from rfl,yj,yw]at hd;rw[hd,hv]at hs;have h3:=jdr ho (n-1);have h4:=jb2 (ho.take (n-1));have hp:=jdx (n-1);have hpn:(1048576:Int)^n=1048576^(n-1)*1048576:=by rw[<-jdh,show n-1+1=n by omega]
 generalize dgt (dig y) (n-1)=t at*;generalize val ((dig y).take (n-1))=lo at*;generalize hP:(1048576:Int)^(n-1)=P at*;have hys:((y*s:Nat):Int)=lo*s+P*(t*s):=by rw[Int.natCast_mul,hs,yu,qJ]
 have hs0:(0:Int)<=s:=Int.natCast_nonneg s;have e1:0<=lo*s:=qN h4 hs0;have e2:P*524288<=P*(t*s):=qg h1 (by omega);have e3:lo*s<=(P-1)*s:=qo (by omega) hs0;have e4:(P-1)*s=P*s-s:=by rw[jN,yH]
 have e5:P*((t+1)*s)<=P*1048576:=qg h2 (by omega);have e6:P*((t+1)*s)=P*(t*s)+P*s:=by rw[yu,yH,qE]
 have hspos:(1:Int)<=s:=by
  rcases yE s with h | h
  ·subst h;simp at h1
  ·omega
 have lo1:(524288:Int)*P<=((y*s:Nat):Int):=by rw[hys,yf 524288];omega
 have hi1:((y*s:Nat):Int)<1048576^n:=by rw[hys,hpn];omega
 have hle:(dig (y*s)).length<=n:=jc7 hi1;have hvv:=jb7 (y*s);have hoo:=jc6 (y*s);have hlen:(dig (y*s)).length=n:=by
  rcases zX (dig (y*s)).length n with h | h
  ·have g1:=jdr hoo (n-1);rw[jca (by omega:(dig (y*s)).length<=n-1),hvv,hP]at g1;omega
  ·omega
 refine⟨hlen,?_,lo1⟩;have g1:=jdd (dig (y*s)) (n-1);have g2:=jd2 (dig (y*s)) (n-1);rw[zY (by omega:(dig (y*s)).length<=n-1+1),show val []=0 from rfl,yj,yw]at g2;have g3:=jdr hoo (n-1);rw[g2,hvv,hP]at g1;rw[hP]at g3;generalize dgt (dig (y*s)) (n-1)=t' at*;rcases yn t' 524288 with h | h
 ·have:P*t'<=P*524287:=qg (by omega) (by omega);omega
 ·exact h
