/- A part of the proof. No further condition. -/
import Derived.Test.YtgncgpfjldefpaaGreatKN11
set_option linter.all false
set_option maxRecDepth 10000000
set_option maxHeartbeats 16000000
namespace Go.Proofs.YtgncgpfjldefpaaGreat
section
open Go.Abs
theorem jcb{e:Evid}(h:jc5 e=0):(pairs e).all fitP=true/\1<=e.mats/\0<=e.houses/\0<=e.scales/\e.places.all (jiq e)=true/\jdw e 0 e.moves=0/\saidF e=true:=by
 unfold jc5 at h;split at h
 ·cases h
 ·split at h
  ·cases h
  ·split at h
   ·cases h
   ·split at h
    ·cases h
    ·split at h
     ·cases h
     ·split at h
      ·rename_i h6;exact absurd h h6
      ·split at h
       ·rename_i h1 h2 h3 h4 h5 h6 h7;simp at h1 h2 h3 h4 h5 h6;exact⟨by simpa using h1,by omega,by omega,by omega,by simpa using h5,h6,h7⟩
       ·cases h
theorem joh{e:Evid}:∀{ms:List Move} {d:Int},jdw e d ms=0->∀m∈ms,moveF e m=true
 | [],_,_,m,hm=>by cases hm
 | x::r,d,h,m,hm=>by
  rw[jdw]at h;split at h
  ·cases h
  ·split at h
   ·cases h
   ·split at h
    ·cases h
    ·rename_i h3;rcases zW.1 hm with rfl | hm
     ·simpa using h3
     ·exact joh h m hm
theorem jgr{e:Evid}(h:jc5 e=0):∀x∈e.moves,(0<=x.fr/\x.fr<(e.places.length:Int))/\(0<=x.to/\x.to<(e.places.length:Int)):=by
 intro x hx;have:=joh (jcb h).2.2.2.2.2.1 x hx;simp only[moveF,zu,jo5]at this;exact⟨this.1.1.1.1.1.1.1,this.1.1.1.1.1.1.2⟩
theorem purF_iff{e:Evid}{p:Purity}:purF e p=true↔(0<=p.move/\p.move<(e.moves.length:Int))/\(0<=p.mat/\p.mat<e.mats)/\0<=p.least/\p.least<=p.most/\p.most<=1000:=by
 simp only[purF,zu,jo5,ya,qm];omega
theorem jhs{e:Evid}(h:jc5 e=0):∀p∈e.purs,purF e p=true:=by
 have:=(jcb h).2.2.2.2.2.2;simp only[saidF,zu,List.all_eq_true]at this;exact this.2
theorem check_purs'{e:Evid}(h:jc5 e=0):∀p∈e.purs,(0<=p.mat/\p.mat<e.mats)/\(-9223372036854775808<=p.least/\p.least<=9223372036854775807)/\(-9223372036854775808<=p.most/\p.most<=9223372036854775807):=by
 intro p hp;have:=purF_iff.1 (jhs h p hp);omega
end
end Go.Proofs.YtgncgpfjldefpaaGreat
namespace Go.Abs
section
theorem jir{a q:List Int}{m:Nat}{b R lo:Int}(hm:m<q.length)(h:val (a.drop (m+1))=val (q.drop (m+1))*b+R):
  val (a.drop m)=val ((q.set m lo).drop m)*b+(dgt a m+1048576*R-lo*b):=by
 rw[jd7 a m,jd7 (q.set m lo) m,h];have h1:dgt (q.set m lo) m=lo:=by simp[dgt,hm]
 have h2:(q.set m lo).drop (m+1)=q.drop (m+1):=by
  rw[List.drop_set_of_lt (by omega)]
 rw[h1,h2,yp,qE,qK];omega
theorem jnu{x q b R:Int}(h:x=q*b+R)(h0:0<=R)(h1:R<b):q=x/b/\R=x % b:=by
 have hb:0<b:=by omega
 have h2:x/b=q:=by
  rw[h,Int.add_comm,Int.add_mul_ediv_right _ _ (by omega),Int.ediv_eq_zero_of_lt h0 h1,jq]
 refine⟨h2.symm,?_⟩;have:=qU x b;rw[h2]at this;rw[qW]at this;omega
end
section
theorem jcx(n:Int):(BitVec.ofInt 64 n).toNat=(n % 18446744073709551616).toNat:=by
 rw[BitVec.toNat_ofInt];rfl
theorem and20(n:Int):bits .and .i64 n 1048575=n % 1048576:=by
 have h1:(BitVec.ofInt 64 n&&&BitVec.ofInt 64 1048575).toNat=(n % 1048576).toNat:=by
  rw[BitVec.toNat_and,jcx,jcx];have e:((1048575:Int) % 18446744073709551616).toNat=2^20-1:=by decide
  rw[e,jT];have:(n % 18446744073709551616) % 1048576=n % 1048576:=Int.emod_emod_of_dvd n ⟨17592186044416,by decide⟩;omega
 have h2:bits .and .i64 n 1048575=IntKind.i64.wrap ((BitVec.ofInt 64 n&&&BitVec.ofInt 64 1048575).toNat:Nat):=rfl;rw[h2,h1];have h3:=j2 n (show(1048576:Int)≠0 by decide);have h4:=jI n (show(0:Int)<1048576 by decide);rw[qQ h3];exact IntWalk.i64_in _ (by omega)
theorem or20(r a:Int)(hr:0<=r/\r<8796093022208)(ha:0<=a/\a<1048576):bits .or .i64 (r*1048576) a=r*1048576+a:=by
 have h1:(BitVec.ofInt 64 (r*1048576) ||| BitVec.ofInt 64 a).toNat=(r*1048576+a).toNat:=by
  rw[BitVec.toNat_or,jcx,jcx,jP (by omega) (by omega),jP (by omega) (by omega)];have e1:(r*1048576).toNat=2^20*r.toNat:=by omega
  rw[e1,<-v6 (by omega:a.toNat<2^20)];omega
 have h2:bits .or .i64 (r*1048576) a=IntKind.i64.wrap ((BitVec.ofInt 64 (r*1048576) ||| BitVec.ofInt 64 a).toNat:Nat):=rfl;rw[h2,h1,qQ (by omega)];exact IntWalk.i64_in _ (by omega)
theorem fd20(n:Int):n.fdiv 1048576=n/1048576:=yM n (by decide)
theorem and1(n:Int)(h: -9223372036854775808<=n/\n<=9223372036854775807):bits .and .i64 n 1=n % 2:=by
 have h1:(BitVec.ofInt 64 n&&&BitVec.ofInt 64 1).toNat=(n % 2).toNat:=by
  rw[BitVec.toNat_and,jcx,jcx];have e:((1:Int) % 18446744073709551616).toNat=2^1-1:=by decide
  rw[e,jT];omega
 have h2:bits .and .i64 n 1=IntKind.i64.wrap ((BitVec.ofInt 64 n&&&BitVec.ofInt 64 1).toNat:Nat):=rfl;rw[h2,h1,qQ (by omega)];exact IntWalk.i64_in _ (by omega)
theorem jst{out a b:List Int}{i:Nat}{c n:Int}(hi:i<out.length)(hz:dgt out i=0)(h:val out+1048576^i*c=val (a.take i)+val (b.take i))(hn:n=dgt a i+dgt b i+c):
  val (out.set i (n % 1048576))+1048576^(i+1)*(n/1048576)=val (a.take (i+1))+val (b.take (i+1)):=by
 rw[jgd _ _ _ hi,hz,jy,jc6,jc6,jcq];generalize (1048576:Int)^i=p at*;have e:p*(n % 1048576)+p*1048576*(n/1048576)=p*n:=by
  rw[qE,<-qK,qU]
 have e2:p*n=p*dgt a i+p*dgt b i+p*c:=by rw[hn,qK,qK]
 omega
theorem sub_step{out b:List Int}{i:Nat}{c n V:Int}(hi:i<out.length)(h:val out-1048576^i*c=V-val (b.take i))(hn:n=dgt out i-dgt b i-c):
  val (out.set i (n % 1048576))-1048576^(i+1)* -(n/1048576)=V-val (b.take (i+1)):=by
 rw[jgd _ _ _ hi,jc6,jcq];generalize (1048576:Int)^i=p at*;have e0:=qU n 1048576;have e:p*(n % 1048576-dgt out i)-p*1048576* -(n/1048576)=p*(n-dgt out i):=by
  rw[qE,<-jn];congr 1;omega
 have e2:p*(n-dgt out i)= -(p*dgt b i)-p*c:=by
  rw[hn,show dgt out i-dgt b i-c-dgt out i= -dgt b i-c by omega,jn,yW]
 omega
theorem jn1{l:List Int}{i j:Nat}{v:Int}(h:i≠j):dgt (l.set i v) j=dgt l j:=by
 unfold dgt;rw[yP h]
theorem mb20:min 20 64=(20:Nat):=rfl
theorem pw20:(2:Int)^20=1048576:=by decide
end
end Go.Abs
namespace Go.Proofs.YtgncgpfjldefpaaGreat
section
open Go.Abs
attribute [local go_sem] ints ic mb20 pw20 fd20
theorem t_short(a:List Int)(d:Int)(ha:OkD a)(hd:1<=d/\d<1048576)(la:a.length<=1000000000000):Ctr G.P 140 [ints a,.int d] (· = .tup [ints (dig (val a/d).toNat),.int (val a % d)]):=by
 have w1:=ja6 (n:=(a.length:Int)-1) (by omega);have w0:(a.length:Int)*8<=140737488355328:=by omega
 refine ja3 [.tmp 4,.tmp 5] Tryz.func140 ?_;simp only[w1,w0,go_sem];refine jaj [0,1,6,7,8] [11] (fun g:Nat×List Int×Int=>⟨[(0,.im (.sl (a.map ic))),(1,.im (.int d)),(6,.gsl 11 3 1 a.length),(7,.im (.int g.2.2)),(8,.im (.int ((g.1:Int)-1)))],[(11,1,g.2.1.map ic)],[]⟩)
  (fun g=>g.1<=a.length/\g.2.1.length=a.length/\OkD g.2.1/\0<=g.2.2/\g.2.2<d/\val (a.drop g.1)=val (g.2.1.drop g.1)*d+g.2.2) (fun g=>g.1) (a.length,List.replicate a.length 0,0) ?_
  ⟨zB _,zM,OkD.replicate _,yj _,by dsimp only;omega,by
   dsimp only;rw[zV (zB _),zV (by rw[zM];exact zB _)];simp[val]⟩ ?_
 ·simp only[w1,yh,zM,go_sem]
 intro⟨n,q,r⟩ ⟨h1,h2,h3,h4,h5,h6⟩;dsimp only at h1 h2 h3 h4 h5 h6;rcases n with _ | m
 ·have hg:decide ((0:Int)<=((0:Nat):Int)-1)=false:=by decide
  rw[yi,yi]at h6;obtain⟨e1,e2⟩:=jnu h6 h4 h5;have ht:=jfa q h3 (by omega);rw[e1]at ht;rw[<-e2];simp only[ints]at ht;have hql:a.length<=q.length:=by omega
  have htk:(q.map ic).take a.length=q.map ic:=zD (by rw[zw];omega);simp only[hg,hql,htk,go_sem];refine ja1 ht ?_;simp only[go_sem]
 ·have e1:((m+1:Nat):Int)-1=m:=by omega
  have hg:decide ((0:Int)<=(m:Int))=true:=zk (by omega);have hx:=jb7 (l:=a) (i:=m) (by omega);have hda:=ha.dgt m;have hq:(m:Int)<a.length:=by omega
  have hqx:=jb7 (l:=q) (i:=m) (by omega);have w2:=ja6 (n:=r*1048576) (by omega);have w3:=or20 r (dgt a m) (by omega) hda;generalize hR:r*1048576+dgt a m=R at*;have hR0:0<=R:=by omega
  have hRd:R<d*1048576:=by omega
  have hlo:R/d<1048576:=jQ (by omega) (by rw[qW];exact hRd);have hlo0:0<=R/d:=jF hR0 (by omega);have w4:IntKind.i64.wrap (R.tdiv d)=R/d:=by
   rw[yL hR0];exact ja6 (by omega)
  have w5:R.tmod d=R % d:=yZ hR0;have w6:decide (d=0)=false:=za (by omega);have w7:=ja6 (n:=(m:Int)-1) (by omega);have d0:¬d=0:=by omega
  have hs:=jir (lo:=R/d) (by omega:m<q.length) h6;have hmod:=j2 R (by omega:d≠0);have hmod2:=jI R (by omega:0<d);have hdm:dgt a m+1048576*r-R/d*d=R % d:=by
   have:=qU R d;rw[qW (R/d) d];omega
  rw[hdm]at hs;simp only[e1,hg,hq,zq,hx,hqx,w2,w3,w4,w5,w6,d0,<-qk,go_sem];refine ja7 (m,q.set m (R/d),R % d) ?_ ?_ ⟨?_,?_,?_,hmod,hmod2,hs⟩
  ·simp only[w7,qk,go_sem]
  ·show m<m+1;omega
  ·show m<=a.length;omega
  ·show(q.set m (R/d)).length=a.length;rw[zZ];exact h2
  ·exact h3.set ⟨hlo0,hlo⟩
end
section
open Go.Abs
attribute [local go_sem] ints ic mb20 pw20 fd20
def padD(n v:Nat):List Int:=dig v++List.replicate (n-(dig v).length) 0
theorem val_zeros{l:List Int}(hl:OkD l)(h:val l=0):l=List.replicate l.length 0:=by
 induction l with
 | nil=>rfl
 | cons d l ih=>
  have h1:=hl.head;have h2:=jay hl.tail;simp only[val]at h;have h3:=ih hl.tail (by omega);rw[List.length_cons,List.replicate_succ,<-h3,show d=0 by omega]
theorem pad_eq{l:List Int}(hl:OkD l):l=padD l.length (val l).toNat:=by
 have hlen:(dig (val l).toNat).length<=l.length:=by
  refine jbg ?_;rw[qQ (jay hl)];exact jdr hl
 have h0:=jay hl;have hv:val (dig (val l).toNat)=val l:=by rw[jax];omega
 have h1:=jdi l (dig (val l).toNat).length;have hlt:val l<1048576^(dig (val l).toNat).length:=by
  have:=jdr (jbn (val l).toNat);rw[hv]at this;exact this
 have h2:=jfe hl hlt;have h3:=val_zeros (hl.drop (dig (val l).toNat).length) h2;have h4:=jfv hl hlt;have h5:l.take (dig (val l).toNat).length=dig (val l).toNat:=by
  have:∀(a b:List Int),OkD a->OkD b->a.length=b.length->val a=val b->a=b:=by
   intro a
   induction a with
   | nil=>intro b _ _ h _;exact(zP h.symm).symm
   | cons d a ih=>
    intro b ha hb h hv;cases b with
    | nil=>simp at h
    | cons e b=>
     have g1:=ha.head;have g2:=hb.head;simp only[val]at hv;rw[show d=e by omega,ih b ha.tail hb.tail (by simpa using h) (by omega)]
  refine this _ _ (hl.take _) (jbn _) (by rw[qa];omega) (by rw[h4,hv])
 conv=>lhs;rw[<-jh (dig (val l).toNat).length l]
 rw[h5,h3,je];rfl
theorem jrw{a b out:List Int}{i:Nat}{c:Int}(hl:i+b.length<out.length)(ho:OkD out)(hz:∀j,i+b.length<=j->dgt out j=0)(hc:0<=c/\c<1048576)
  (hv:val out+1048576^(i+b.length)*c=val (a.take i)*val b+1048576^i*(dgt a i*val b)):
  OkD (out.set (i+b.length) c)/\(out.set (i+b.length) c).length=out.length/\val (out.set (i+b.length) c)=val (a.take (i+1))*val b/\∀j,i+1+b.length<=j->dgt (out.set (i+b.length) c) j=0:=by
 refine⟨ho.set hc,zZ,?_,fun j hj=> ?_⟩
 ·rw[jgd _ _ _ hl,hz _ (zB _),jy,hv,jc6,yp,qE]
 ·have:=hz j (by omega);unfold dgt at this⊢;rw[yP (by omega)];exact this
theorem t_pmul(a b:List Int)(ha:OkD a)(hb:OkD b)(la:a.length<=100000000000)(lb:b.length<=100000000000):Ctr G.P 121 [ints a,ints b] (· =ints (dig (val a*val b).toNat)):=by
 have w0:=ja6 (n:=(a.length:Int)+b.length) (by omega);have w00:((a.length:Int)+b.length)*8<=140737488355328:=by omega
 have w01:(0:Int)<=(a.length:Int)+b.length:=by omega
 have w02:((a.length:Int)+b.length).toNat=a.length+b.length:=by omega
 refine ja3 [.tmp 4] Tryz.func121 ?_;simp only[w0,w00,w01,w02,go_sem];refine jaj [1,5,18,19,20] [17] (fun g:Nat×List Int=>⟨[(1,.im (.sl (b.map ic))),(5,.gsl 17 3 1 (a.length+b.length)),(18,.im (.sl (a.map ic))),(19,.im (.int a.length)),(20,.im (.int g.1))],[(17,1,g.2.map ic)],[]⟩)
  (fun g=>g.1<=a.length/\g.2.length=a.length+b.length/\OkD g.2/\val g.2=val (a.take g.1)*val b/\∀j,g.1+b.length<=j->dgt g.2 j=0) (fun g=>a.length-g.1) (0,List.replicate (a.length+b.length) 0) ?_
  ⟨zF _,zM,OkD.replicate _,by dsimp only;rw[jdj];simp[val],fun j _=>by
   unfold dgt;rw[qO];split<;>rfl⟩ ?_
 ·simp only[Int.natCast_zero,yh,zM,go_sem]
 intro⟨i,out0⟩ ⟨hi,hl0,ho0,hv0,hz0⟩;dsimp only at hi hl0 ho0 hv0 hz0;by_cases hp:(i:Int)<a.length
 case neg=>
  have hd:decide ((i:Int)<a.length)=false:=za hp;rw[jbu (l:=a) (i:=i) (by omega)]at hv0;have ht:=jfa out0 ho0 (by omega);rw[hv0]at ht;have hall:(out0.map ic).take (a.length+b.length)=out0.map ic:=zD (by rw[zw];omega);have hle:a.length+b.length<=out0.length:=by omega
  simp only[ints]at ht;simp only[hd,hle,hall,go_sem];refine ja1 ht ?_;simp only[go_sem]
 case pos=>
  have hd:decide ((i:Int)<a.length)=true:=zk hp;have hx:=jb7 hp;have h1:=ja6 (n:=(i:Int)+1) (by omega);simp only[hd,zq,hx,go_sem];refine jaj [1,5,6,7,8,18,19,20,25,26,27] [17] (fun g:Nat×List Int×Int=>⟨[(1,.im (.sl (b.map ic))),(5,.gsl 17 3 1 (a.length+b.length)),(6,.im (.int i)),(7,.im (.int (dgt a i))),(8,.im (.int g.2.2)),(18,.im (.sl (a.map ic))),(19,.im (.int a.length)),(20,.im (.int i)),(25,.im (.sl (b.map ic))),(26,.im (.int b.length)),(27,.im (.int g.1))],[(17,1,g.2.1.map ic)],[]⟩)
   (fun g=>g.1<=b.length/\g.2.1.length=a.length+b.length/\OkD g.2.1/\0<=g.2.2/\g.2.2<1048576/\val g.2.1+1048576^(i+g.1)*g.2.2=val (a.take i)*val b+1048576^i*(dgt a i*val (b.take g.1))/\∀j,i+b.length<=j->dgt g.2.1 j=0)
   (fun g=>b.length-g.1) (0,out0,0) ?_ ⟨zF _,hl0,ho0,yj _,by dsimp only;omega,by dsimp only;rw[List.take_zero,hv0];simp[val],hz0⟩ ?_
  ·simp only[Int.natCast_zero,go_sem]
  intro⟨k,out,c⟩ ⟨hk,hl,ho,hc0,hc1,hv,hz⟩;dsimp only at hk hl ho hc0 hc1 hv hz;by_cases hkl:(k:Int)<b.length
  case neg=>
   have d1:decide ((k:Int)<b.length)=false:=za hkl;have hkb:k=b.length:=by omega
   subst hkb;rw[jbu (l:=b) (zB _)]at hv;obtain⟨g1,g2,g3,g4⟩:=jrw (a:=a) (by omega) ho hz ⟨hc0,hc1⟩ hv;have w1:=ja6 (n:=(i:Int)+b.length) (by omega);have hjn:((i:Int)+b.length).toNat=i+b.length:=by omega
   have hj0:(0:Int)<=(i:Int)+b.length:=by omega
   have hjl:(i:Int)+b.length<((a.length+b.length:Nat):Int):=by omega
   have hy:out[i+b.length]? =some (dgt out (i+b.length)):=jb7 (by omega);rw[hz _ (zB _)]at hy;have w2:=ja6 (n:=0+c) (by omega);rw[jq]at w2;simp only[d1,w1,hjn,hj0,hjl,zq,hy,w2,jq,go_sem];refine ja7 (i+1,out.set (i+b.length) c) ?_ ?_ ⟨?_,?_,g1,g3,g4⟩
   ·simp only[h1,Int.natCast_add,qk,go_sem]
   ·show a.length-(i+1)<a.length-i;omega
   ·show i+1<=a.length;omega
   ·show(out.set (i+b.length) c).length=_;rw[g2];exact hl
  case pos=>
   have d1:decide ((k:Int)<b.length)=true:=zk hkl;have hyb:=jb7 hkl;have hda:=ha.dgt i;have hdb:=hb.dgt k;have hdo:=ho.dgt (i+k);have hmul:=jit hda hdb;have w1:=ja6 (n:=(i:Int)+k) (by omega);have w2:=ja6 (n:=dgt a i*dgt b k) (by omega);have w3:=ja6 (n:=dgt out (i+k)+dgt a i*dgt b k) (by omega);have w4:=ja6 (n:=dgt out (i+k)+dgt a i*dgt b k+c) (by omega);have w5:=ja6 (n:=(k:Int)+1) (by omega);have hjn:((i:Int)+k).toNat=i+k:=by omega
   have hj0:(0:Int)<=(i:Int)+k:=by omega
   have hjl:(i:Int)+k<((a.length+b.length:Nat):Int):=by omega
   have hy:out[i+k]? =some (dgt out (i+k)):=jb7 (by omega);have hs:=jjc (out:=out) (b:=b) (j:=i+k) (i:=i) (k:=k) (c:=c) (x:=dgt a i) (V:=val (a.take i)*val b) rfl (by omega) hv rfl;generalize hn:dgt out (i+k)+dgt a i*dgt b k+c=n at*;have a1:=and20 n;simp only[d1,zq,hyb,w1,w2,hjn,hj0,hjl,hy,w3,hn,w4,a1,go_sem];refine ja7 (k+1,out.set (i+k) (n % 1048576),n/1048576) ?_ ?_ ⟨?_,?_,ho.set (by omega),?_,?_,hs,fun j hj=> ?_⟩
   ·simp only[w5,hn,w4,Int.natCast_add,qk,go_sem]
   ·show b.length-(k+1)<b.length-k;omega
   ·show k+1<=b.length;omega
   ·show(out.set (i+k) _).length=_;rw[zZ];exact hl
   ·show 0<=n/1048576;omega
   ·show n/1048576<1048576;omega
   ·have:=hz j hj;unfold dgt at this⊢;rw[yP (by omega)];exact this
theorem t_pmulO(a b:List Int)(ha:OkD a)(hb:OkD b)(la:a.length<=100000000000)(lb:b.length<=100000000000):
  CtrM G.P 121 [.im (ints a),.im (ints b)] [] (fun r Es new=>r= .gsl 901 3 1 (dig (val a*val b).toNat).length/\Es=[]/\new=some (1,(padD (a.length+b.length) (val a*val b).toNat).map ic)):=by
 have w0:=ja6 (n:=(a.length:Int)+b.length) (by omega);have w00:((a.length:Int)+b.length)*8<=140737488355328:=by omega
 have w01:(0:Int)<=(a.length:Int)+b.length:=by omega
 have w02:((a.length:Int)+b.length).toNat=a.length+b.length:=by omega
 refine job good _ _ [.tmp 4] Tryz.func121 rfl rfl (by decide+kernel) rfl rfl (by simp) ?_;simp only[w0,w00,w01,w02,go_sem];refine jaj [1,5,18,19,20] [17] (fun g:Nat×List Int=>⟨[(1,.im (.sl (b.map ic))),(5,.gsl 17 3 1 (a.length+b.length)),(18,.im (.sl (a.map ic))),(19,.im (.int a.length)),(20,.im (.int g.1))],[(17,1,g.2.map ic)],[]⟩)
  (fun g=>g.1<=a.length/\g.2.length=a.length+b.length/\OkD g.2/\val g.2=val (a.take g.1)*val b/\∀j,g.1+b.length<=j->dgt g.2 j=0) (fun g=>a.length-g.1) (0,List.replicate (a.length+b.length) 0) ?_
  ⟨zF _,zM,OkD.replicate _,by dsimp only;rw[jdj];simp[val],fun j _=>by
   unfold dgt;rw[qO];split<;>rfl⟩ ?_
 ·simp only[Int.natCast_zero,yh,zM,go_sem]
 intro⟨i,out0⟩ ⟨hi,hl0,ho0,hv0,hz0⟩;dsimp only at hi hl0 ho0 hv0 hz0;by_cases hp:(i:Int)<a.length
 case neg=>
  have hd:decide ((i:Int)<a.length)=false:=za hp;rw[jbu (l:=a) (i:=i) (by omega)]at hv0;have ht:=t_ptrimO out0 ho0 (by omega);rw[hv0,hl0]at ht;have hpad:=pad_eq ho0;rw[hl0,hv0]at hpad;have hall:(out0.map ic).take (a.length+b.length)=out0.map ic:=zD (by rw[zw];omega);have hle:a.length+b.length<=out0.length:=by omega
  simp only[hd,hle,hall,go_sem];refine jm6 [(900,17)] (ht) (by decide) (by simp) (by simp[rnm,look]) (by repeat' (first | exact trivial | refine⟨rfl,?_⟩)) rfl rfl rfl rfl ?_ rfl;simp only[hpad,j5,go_sem]
 case pos=>
  have hd:decide ((i:Int)<a.length)=true:=zk hp;have hx:=jb7 hp;have h1:=ja6 (n:=(i:Int)+1) (by omega);simp only[hd,zq,hx,go_sem];refine jaj [1,5,6,7,8,18,19,20,25,26,27] [17] (fun g:Nat×List Int×Int=>⟨[(1,.im (.sl (b.map ic))),(5,.gsl 17 3 1 (a.length+b.length)),(6,.im (.int i)),(7,.im (.int (dgt a i))),(8,.im (.int g.2.2)),(18,.im (.sl (a.map ic))),(19,.im (.int a.length)),(20,.im (.int i)),(25,.im (.sl (b.map ic))),(26,.im (.int b.length)),(27,.im (.int g.1))],[(17,1,g.2.1.map ic)],[]⟩)
   (fun g=>g.1<=b.length/\g.2.1.length=a.length+b.length/\OkD g.2.1/\0<=g.2.2/\g.2.2<1048576/\val g.2.1+1048576^(i+g.1)*g.2.2=val (a.take i)*val b+1048576^i*(dgt a i*val (b.take g.1))/\∀j,i+b.length<=j->dgt g.2.1 j=0)
   (fun g=>b.length-g.1) (0,out0,0) ?_ ⟨zF _,hl0,ho0,yj _,by dsimp only;omega,by dsimp only;rw[List.take_zero,hv0];simp[val],hz0⟩ ?_
  ·simp only[Int.natCast_zero,go_sem]
  intro⟨k,out,c⟩ ⟨hk,hl,ho,hc0,hc1,hv,hz⟩;dsimp only at hk hl ho hc0 hc1 hv hz;by_cases hkl:(k:Int)<b.length
  case neg=>
   have d1:decide ((k:Int)<b.length)=false:=za hkl;have hkb:k=b.length:=by omega
   subst hkb;rw[jbu (l:=b) (zB _)]at hv;obtain⟨g1,g2,g3,g4⟩:=jrw (a:=a) (by omega) ho hz ⟨hc0,hc1⟩ hv;have w1:=ja6 (n:=(i:Int)+b.length) (by omega);have hjn:((i:Int)+b.length).toNat=i+b.length:=by omega
   have hj0:(0:Int)<=(i:Int)+b.length:=by omega
   have hjl:(i:Int)+b.length<((a.length+b.length:Nat):Int):=by omega
   have hy:out[i+b.length]? =some (dgt out (i+b.length)):=jb7 (by omega);rw[hz _ (zB _)]at hy;have w2:=ja6 (n:=0+c) (by omega);rw[jq]at w2;simp only[d1,w1,hjn,hj0,hjl,zq,hy,w2,jq,go_sem];refine ja7 (i+1,out.set (i+b.length) c) ?_ ?_ ⟨?_,?_,g1,g3,g4⟩
   ·simp only[h1,Int.natCast_add,qk,go_sem]
   ·show a.length-(i+1)<a.length-i;omega
   ·show i+1<=a.length;omega
   ·show(out.set (i+b.length) c).length=_;rw[g2];exact hl
  case pos=>
   have d1:decide ((k:Int)<b.length)=true:=zk hkl;have hyb:=jb7 hkl;have hda:=ha.dgt i;have hdb:=hb.dgt k;have hdo:=ho.dgt (i+k);have hmul:=jit hda hdb;have w1:=ja6 (n:=(i:Int)+k) (by omega);have w2:=ja6 (n:=dgt a i*dgt b k) (by omega);have w3:=ja6 (n:=dgt out (i+k)+dgt a i*dgt b k) (by omega);have w4:=ja6 (n:=dgt out (i+k)+dgt a i*dgt b k+c) (by omega);have w5:=ja6 (n:=(k:Int)+1) (by omega);have hjn:((i:Int)+k).toNat=i+k:=by omega
   have hj0:(0:Int)<=(i:Int)+k:=by omega
   have hjl:(i:Int)+k<((a.length+b.length:Nat):Int):=by omega
   have hy:out[i+k]? =some (dgt out (i+k)):=jb7 (by omega);have hs:=jjc (out:=out) (b:=b) (j:=i+k) (i:=i) (k:=k) (c:=c) (x:=dgt a i) (V:=val (a.take i)*val b) rfl (by omega) hv rfl;generalize hn:dgt out (i+k)+dgt a i*dgt b k+c=n at*;have a1:=and20 n;simp only[d1,zq,hyb,w1,w2,hjn,hj0,hjl,hy,w3,hn,w4,a1,go_sem];refine ja7 (k+1,out.set (i+k) (n % 1048576),n/1048576) ?_ ?_ ⟨?_,?_,ho.set (by omega),?_,?_,hs,fun j hj=> ?_⟩
   ·simp only[w5,hn,w4,Int.natCast_add,qk,go_sem]
   ·show b.length-(k+1)<b.length-k;omega
   ·show k+1<=b.length;omega
   ·show(out.set (i+k) _).length=_;rw[zZ];exact hl
   ·show 0<=n/1048576;omega
   ·show n/1048576<1048576;omega
   ·have:=hz j hj;unfold dgt at this⊢;rw[yP (by omega)];exact this
end
section
open Go.Abs
attribute [local go_sem] ints ic
theorem lt_dgt{a b:List Int}(ha:OkD a)(hb:OkD b){m:Nat}(h:∀j,m<j->dgt a j=dgt b j)(hne:dgt a m≠dgt b m):decide (dgt a m<dgt b m)=decide (val a<val b):=by
 rcases qH hne with h1 | h1
 ·have:=lt_at ha hb m h h1;simp[h1,this]
 ·have:=lt_at hb ha m (fun j hj=>(h j hj).symm) h1;rw[za (by omega),za (by omega)]
theorem t_less(a b:List Int)(ha:OkD a)(hb:OkD b)(la:a.length<=1000000000000)(lb:b.length<=1000000000000):Ctr G.P 164 [ints a,ints b] (· = .bool (decide (val a<val b))):=by
 have hmx:max (a.length:Int) (b.length:Int)=((max a.length b.length:Nat):Int):=by omega
 have hw:=ja6 (n:=((max a.length b.length:Nat):Int)-1) (by omega);refine ja3 [.tmp 4] Tryz.func164 ?_;simp only[hmx,hw,go_sem];refine jaj [0,1,5] [] (fun n:Nat=>⟨[(0,.im (.sl (a.map ic))),(1,.im (.sl (b.map ic))),(5,.im (.int ((n:Int)-1)))],[],[]⟩) (fun n=>n<=max a.length b.length/\∀j,n<=j->dgt a j=dgt b j) (fun n=>n) (max a.length b.length) ?_
  ⟨zB _,fun j hj=>by rw[jdo (by omega),jdo (by omega)]⟩ ?_
 ·simp only[hmx,hw,go_sem]
 ·intro n ⟨hn,hz⟩;rcases n with _ | m
  ·have hd:decide ((0:Int)<=((0:Nat):Int)-1)=false:=by decide
   have hv:val a=val b:=jnn fun j=>hz j (zF _);have hv':decide (val a<val b)=false:=za (by omega);rw[hv'];simp only[hd,go_sem]
  ·have h2:((m+1:Nat):Int)-1=m:=by omega
   have hd:decide ((0:Int)<=(m:Int))=true:=zk (by omega);have h3:=ja6 (n:=(m:Int)-1) (by omega);simp only[h2,hd,go_sem];refine ja1 (ji2 a m) ?_;simp only[h2,go_sem];refine ja1 (ji2 b m) ?_;simp only[h2,go_sem];refine jcz (fun he he'=> ?_) (fun he he'=> ?_)
   ·simp only[h2,go_sem];refine ja7 m ?_ (by omega) ⟨by omega,fun j hj=> ?_⟩
    ·simp only[h2,h3,go_sem]
    ·rcases zX m j with h | h
     ·exact hz j h
     ·rw[show j=m by omega];exact he'
   ·have hlt:=lt_dgt ha hb (m:=m) (fun j hj=>hz j hj) he';simp only[h2,go_sem];refine ja1 (ji2 a m) ?_;simp only[h2,go_sem];refine ja1 (ji2 b m) ?_;simp only[hlt,go_sem]
theorem t_minus(a b:List Int)(ha:OkD a)(hb:OkD b)(hab:val b<=val a)(la:a.length<=100000000000)(lb:b.length<=1000000000000):Ctr G.P 145 [ints a,ints b] (· =ints (dig (val a-val b).toNat)):=by
 refine ja3 [.tmp 4] Tryz.func145 ?_;simp only[go_sem];refine jd5 [0,1,5,6,7] [32] [(5,32,3,1)] (fun g:Nat×List Int×Int=>⟨[(0,.im (.sl (a.map ic))),(1,.im (.sl (b.map ic))),(5,.vec 32 3 1 (g.2.1.map ic)),(6,.im (.int g.2.2)),(7,.im (.int g.1))],[],[(32,1,g.2.1.length)]⟩)
  (fun g=>g.2.1.length=g.1/\OkD g.2.1/\0<=g.2.2/\g.2.2<=1/\val g.2.1-1048576^g.1*g.2.2=val (a.take g.1)-val (b.take g.1)/\g.1<=a.length)
  (fun g=>a.length-g.1) (0,[],0) ?_ ?_ ⟨rfl,OkD.nil,yj _,by decide,rfl,zF _⟩ ?_
 ·simp only[go_sem];simp
 ·simp only[Int.natCast_zero,zC,go_sem]
 ·intro⟨i,out,c⟩ ⟨h1,h2,h3,h4,h5,h6⟩;dsimp only at h1 h2 h3 h4 h5 h6;by_cases hp:(i:Int)<a.length
  ·have hd:decide ((i:Int)<a.length)=true:=zk hp;have hx:=jb7 hp;obtain⟨a0,a1⟩:=ha.dgt i;obtain⟨b0,b1⟩:=hb.dgt i;have w1:=ja6 (n:=dgt a i-dgt b i) (by omega);have w2:=ja6 (n:=dgt a i-dgt b i-c) (by omega);have w3:=ja6 (n:=(i:Int)+1) (by omega);have w4:=ja6 (n:=dgt a i-dgt b i-c+1048576) (by omega);simp only[hd,go_sem];refine jaf 11 ?_;simp only[hd,zq,hx,go_sem];refine ja5 (ji2 b i) (by decide) ?_;simp only[w1,w2,go_sem];refine jcz (fun he he'=> ?_) (fun he he'=> ?_)
   ·have hs:=jmn (c':=1) (d:=dgt a i-dgt b i-c+1048576) h1 h5 rfl (by omega);simp only[he,w4,go_sem];refine⟨jgz _,by simp,by omega,?_⟩;refine ja7 (i+1,out++[dgt a i-dgt b i-c+1048576],1) ?_ ?_ ⟨?_,?_,?_,?_,hs,?_⟩
    ·simp only[w3,Int.natCast_add,ql,zG,go_sem]
    ·show a.length-(i+1)<a.length-i;omega
    ·show(out++[_]).length=i+1;rw[zG,h1];rfl
    ·exact h2.append (OkD.cons (by omega) OkD.nil)
    ·dsimp only;omega
    ·dsimp only;omega
    ·show i+1<=a.length;omega
   ·have hs:=jmn (c':=0) (d:=dgt a i-dgt b i-c) h1 h5 rfl (by omega);simp only[he,go_sem];refine⟨jgz _,by simp,by omega,?_⟩;refine ja7 (i+1,out++[dgt a i-dgt b i-c],0) ?_ ?_ ⟨?_,?_,?_,?_,hs,?_⟩
    ·simp only[w3,Int.natCast_add,ql,zG,go_sem]
    ·show a.length-(i+1)<a.length-i;omega
    ·show(out++[_]).length=i+1;rw[zG,h1];rfl
    ·exact h2.append (OkD.cons (by omega) OkD.nil)
    ·dsimp only;omega
    ·dsimp only;omega
    ·show i+1<=a.length;omega
  ·have hd:decide ((i:Int)<a.length)=false:=za hp;have hi:i=a.length:=by omega
   have hv:val out=val a-val b:=by
    have e1:=jdr ha;have e2:=jdr h2;have e3:=jay h2;rw[h1]at e2;rw[hi]at h5 e2;rw[jfv ha e1,jfv hb (by omega)]at h5;generalize (1048576:Int)^a.length=p at*;have hc:c=0\/c=1:=by omega
    rcases hc with rfl | rfl<;>omega
   have ht:=jmd out h2 (by omega);rw[hv]at ht;simp only[hd,go_sem];refine ja1 ht ?_;simp only[go_sem]
theorem t_made(s:Int)(l:List Int)(hl:OkD l)(ll:l.length<=1000000000000):Ctr G.P 126 [.int s,ints l] (· = .agg [.int (if val l=0 then 0 else s),ints (dig (val l).toNat)]):=by
 have ht:=jmd l hl ll;have h0:=jay hl;by_cases hv:val l=0
 ·rw[hv]at ht;rw[show dig (0:Int).toNat=[]from jbc]at ht;rw[zm hv,hv,show dig (0:Int).toNat=[]from jbc];refine ja3 [.cell 4 67] Tryz.func126 ?_;simp only[go_sem];refine ja1 ht ?_;simp only[go_sem]
 ·rw[zp hv];have hn:dig (val l).toNat≠[]:=fun h=>by rw[dig_nil]at h;omega
  generalize dig (val l).toNat=d at*;have hd:decide ((d.length:Int)=0)=false:=za (by
   have:=qC.2 hn;omega)
  refine ja3 [.cell 4 67] Tryz.func126 ?_;simp only[go_sem];refine ja1 ht ?_;simp only[hd,go_sem]
end
section
open Go.Abs
attribute [local go_sem] ints ic
theorem t_times(a b:List Int)(ha:OkD a)(hb:OkD b)(la:a.length<=100000000000)(lb:b.length<=100000000000):Ctr G.P 165 [ints a,ints b] (· =ints (dig (val a*val b).toNat)):=by
 have hw:=ja6 (n:=(a.length:Int)+b.length) (by omega);have ht:((a.length:Int)+b.length).toNat=a.length+b.length:=by omega
 have h0:(0:Int)<=(a.length:Int)+b.length:=by omega
 have hb8:((a.length:Int)+b.length)*8<=140737488355328:=by omega
 refine ja3 [.tmp 4] Tryz.func165 ?_;simp only[hw,ht,h0,hb8,go_sem];refine jaj [0,1,5,6] [15] (fun g:Nat×List Int=>⟨[(0,.im (.sl (a.map ic))),(1,.im (.sl (b.map ic))),(5,.gsl 15 3 1 (a.length+b.length)),(6,.im (.int g.1))],[(15,1,g.2.map ic)],[]⟩)
  (fun g=>g.1<=a.length/\g.2.length=a.length+b.length/\OkD g.2/\val g.2=val (a.take g.1)*val b) (fun g=>a.length-g.1) (0,List.replicate (a.length+b.length) 0) ?_
  ⟨zF _,zM,OkD.replicate _,by dsimp only;rw[jdj];simp[val]⟩ ?_
 ·simp only[Int.natCast_zero,yh,zM,go_sem]
 ·intro⟨i,out0⟩ ⟨hi,hl0,ho0,hv0⟩;dsimp only at hi hl0 ho0 hv0;by_cases hp:(i:Int)<a.length
  ·have hd:decide ((i:Int)<a.length)=true:=zk hp;have hx:=jb7 hp;have h1:=ja6 (n:=(i:Int)+1) (by omega);simp only[hd,go_sem];refine jaj [0,1,5,6,7,8] [15] (fun g:Nat×List Int×Int=>⟨[(0,.im (.sl (a.map ic))),(1,.im (.sl (b.map ic))),(5,.gsl 15 3 1 (a.length+b.length)),(6,.im (.int i)),(7,.im (.int g.2.2)),(8,.im (.int g.1))],[(15,1,g.2.1.map ic)],[]⟩)
    (fun g=>g.1<=b.length+1/\g.2.1.length=a.length+b.length/\OkD g.2.1/\0<=g.2.2/\g.2.2<1048576/\(b.length<g.1->g.2.2=0)/\val g.2.1+1048576^(i+g.1)*g.2.2=val (a.take i)*val b+1048576^i*(dgt a i*val (b.take g.1)))
    (fun g=>b.length+1-g.1) (0,out0,0) ?_ ⟨zF _,hl0,ho0,yj _,by dsimp only;omega,fun _=>rfl,by dsimp only;rw[List.take_zero,hv0];simp[val]⟩ ?_
   ·simp only[Int.natCast_zero,go_sem]
   ·intro⟨k,out,c⟩ ⟨hk,hl,ho,hc0,hc1,hcl,hv⟩;dsimp only at hk hl ho hc0 hc1 hcl hv;have hda:=ha.dgt i;have hdb:=hb.dgt k;have hdo:=ho.dgt (i+k);have hmul:=jit hda hdb;have w1:=ja6 (n:=(i:Int)+k) (by omega);have w2:=ja6 (n:=dgt a i*dgt b k) (by omega);have w3:=ja6 (n:=dgt out (i+k)+dgt a i*dgt b k) (by omega);have w4:=ja6 (n:=dgt out (i+k)+dgt a i*dgt b k+c) (by omega);have w5:=ja6 (n:=(k:Int)+1) (by omega);have hjn:((i:Int)+k).toNat=i+k:=by omega
    have hj0:(0:Int)<=(i:Int)+k:=by omega
    have hm:(dgt out (i+k)+dgt a i*dgt b k+c).tmod 1048576=(dgt out (i+k)+dgt a i*dgt b k+c) % 1048576:=yZ (by omega);have hq:IntKind.i64.wrap ((dgt out (i+k)+dgt a i*dgt b k+c).tdiv 1048576)=(dgt out (i+k)+dgt a i*dgt b k+c)/1048576:=by
     rw[yL (by omega)];exact ja6 (by omega)
    have nxt:(k<b.length\/0<c)->k+1<=b.length+1/\(out.set (i+k) ((dgt out (i+k)+dgt a i*dgt b k+c) % 1048576)).length=a.length+b.length/\OkD (out.set (i+k) ((dgt out (i+k)+dgt a i*dgt b k+c) % 1048576))/\
      0<=(dgt out (i+k)+dgt a i*dgt b k+c)/1048576/\(dgt out (i+k)+dgt a i*dgt b k+c)/1048576<1048576/\(b.length<k+1->(dgt out (i+k)+dgt a i*dgt b k+c)/1048576=0)/\
      val (out.set (i+k) ((dgt out (i+k)+dgt a i*dgt b k+c) % 1048576))+1048576^(i+(k+1))*((dgt out (i+k)+dgt a i*dgt b k+c)/1048576)=val (a.take i)*val b+1048576^i*(dgt a i*val (b.take (k+1))):=by
     intro hcc;have hkb:k<=b.length:=by
      rcases zX b.length k with h | h
      ·have:=hcl h;omega
      ·exact h
     have hs:=jjc (out:=out) (b:=b) (j:=i+k) (i:=i) (k:=k) (c:=c) (x:=dgt a i) (V:=val (a.take i)*val b) rfl (by omega) hv rfl;have hok:OkD (out.set (i+k) ((dgt out (i+k)+dgt a i*dgt b k+c) % 1048576)):=ho.set (by omega);refine⟨by omega,by rw[zZ];exact hl,hok,by omega,by omega,fun h=> ?_,hs⟩;have hkk:k=b.length:=by omega
     have hs':=hs;rw[jbu (l:=b) (i:=k+1) (by omega)]at hs';exact times_last ha hb hda (jay hok) (by omega) (by rw[<-hkk];exact hs')
    by_cases hkl:(k:Int)<b.length
    ·have hn:k<b.length\/0<c:= .inl (by omega);have d1:decide ((k:Int)<b.length)=true:=zk hkl;have hjl:(i:Int)+k<((a.length+b.length:Nat):Int):=by omega
     have hy:out[i+k]? =some (dgt out (i+k)):=jb7 (by omega);simp only[d1,go_sem];refine jaf 18 ?_;simp only[w1,zq,hx,hy,hjn,hj0,hjl,go_sem];refine ja5 (ji2 b k) (by decide) ?_;simp only[w2,w3,w4,go_sem];simp only[w1,hjn,hj0,hjl,zq,hy,hm,hq,<-qk,go_sem];refine ja7 (k+1,out.set (i+k) ((dgt out (i+k)+dgt a i*dgt b k+c) % 1048576),(dgt out (i+k)+dgt a i*dgt b k+c)/1048576) ?_ ?_ (nxt hn)
     ·simp only[w5,Int.natCast_add,qk,go_sem]
     ·show b.length+1-(k+1)<b.length+1-k;omega
    ·have d1:decide ((k:Int)<b.length)=false:=za hkl;by_cases hcp:0<c
     ·have hn:k<b.length\/0<c:= .inr hcp;have d2:decide (0<c)=true:=zk hcp;have hkb:k<=b.length:=by
       rcases zX b.length k with h | h
       ·have:=hcl h;omega
       ·exact h
      have hjl:(i:Int)+k<((a.length+b.length:Nat):Int):=by omega
      have hy:out[i+k]? =some (dgt out (i+k)):=jb7 (by omega);simp only[d1,d2,go_sem];refine jaf 18 ?_;simp only[w1,zq,hx,hy,hjn,hj0,hjl,go_sem];refine ja5 (ji2 b k) (by decide) ?_;simp only[w2,w3,w4,go_sem];simp only[w1,hjn,hj0,hjl,zq,hy,hm,hq,<-qk,go_sem];refine ja7 (k+1,out.set (i+k) ((dgt out (i+k)+dgt a i*dgt b k+c) % 1048576),(dgt out (i+k)+dgt a i*dgt b k+c)/1048576) ?_ ?_ (nxt hn)
      ·simp only[w5,Int.natCast_add,qk,go_sem]
      ·show b.length+1-(k+1)<b.length+1-k;omega
     ·have d2:decide (0<c)=false:=za hcp;have hc:c=0:=by omega
      have hvv:val out=val (a.take (i+1))*val b:=by
       rw[hc,qV,qN,jbu (l:=b) (i:=k) (by omega)]at hv;rw[hv,jc6,yp,qE]
      simp only[d1,d2,go_sem];refine ja7 (i+1,out) ?_ ?_ ⟨?_,hl,ho,hvv⟩
      ·simp only[h1,Int.natCast_add,go_sem]
      ·show a.length-(i+1)<a.length-i;omega
      ·show i+1<=a.length;omega
  ·have hd:decide ((i:Int)<a.length)=false:=za hp;rw[jbu (l:=a) (i:=i) (by omega)]at hv0;have ht:=jmd out0 ho0 (by omega);rw[hv0]at ht;have hall:(out0.map ic).take (a.length+b.length)=out0.map ic:=zD (by rw[zw];omega);have hle:a.length+b.length<=(out0.map ic).length:=by rw[zw];omega
   simp only[hd,hl0,zB,hall,go_sem];refine ja1 ht ?_;simp only[go_sem]
end
section
open Go.Abs
attribute [local go_sem] ints ic
def okd(d:Int):Bool:= !decide (d<0)&& !decide (1048576<=d)
def jds(s:Int)(l:List Int):Bool:=
 l.all okd&&(!decide (s< -1)&&(!decide (1<s)&&((decide ((l.length:Int)=0)==decide (s=0))&&(decide ((l.length:Int)=0) || !decide (dgt l (l.length-1)=0)))))
theorem okd_iff{d:Int}:okd d=true↔0<=d/\d<1048576:=by simp[okd]
theorem all_okd{l:List Int}:l.all okd=true↔OkD l:=by
 rw[List.all_eq_true];exact⟨fun h d hd=>okd_iff.1 (h d hd),fun h d hd=>okd_iff.2 (h d hd)⟩
theorem jkb{l:List Int}{i:Nat}(h:(i:Int)<l.length):(l.take (i+1)).all okd=((l.take i).all okd&&okd (dgt l i)):=by
 have hx:=jb7 h;rw[jz,hx,vZ];simp
theorem t_right(s:Int)(l:List Int)(hl:l.length<=1000000000000000):Ctr G.P 122 [.agg [.int s,ints l]] (· = .bool (jds s l)):=by
 refine ja3 [.tmp 2] Tryz.func122 ?_;simp only[go_sem];refine jaj [1,3] [1] (fun i:Nat=>⟨[(1,.loc 1 2 0 0),(3,.im (.int i))],[(1,2,[[.int s,ints l]])],[]⟩) (fun i=>i<=l.length/\(l.take i).all okd=true) (fun i=>l.length-i) 0 ?_ ⟨zF _,rfl⟩ ?_
 ·simp only[Int.natCast_zero,go_sem]
 ·intro i ⟨hi,ha⟩;by_cases hp:(i:Int)<l.length
  ·have hd:decide ((i:Int)<l.length)=true:=zk hp;have hx:=jb7 hp;have h1:=ja6 (n:=(i:Int)+1) (by omega);have hs:=jkb hp;have hno:okd (dgt l i)=false->jds s l=false:=fun h=>by
    have:l.all okd=false:=by
     rw[vy];exact⟨_,zl hx,by simp[h]⟩
    simp[jds,this]
   simp only[hd,zq,hx,go_sem];refine jc3 (fun d1=> ?_) (fun d1=> ?_)
   ·rw[hno (by simp[okd,d1])];simp only[d1,go_sem]
   ·simp only[d1,zq,hx,go_sem];refine jc3 (fun d2=> ?_) (fun d2=> ?_)
    ·rw[hno (by simp only[okd,d1,d2];rfl)];simp only[go_sem]
    ·simp only[go_sem];refine ja7 (i+1) ?_ (by omega) ⟨by omega,by rw[hs,ha];simp only[okd,d1,d2];rfl⟩;simp only[h1,Int.natCast_add,go_sem]
  ·have hd:decide ((i:Int)<l.length)=false:=za hp;rw[zD (by omega)]at ha;rw[jds,ha,z8];simp only[hd,go_sem];clear hd hp hi;refine jc3 (fun d1=> ?_) (fun d1=> ?_)
   ·simp only[d1,go_sem]
   ·simp only[d1,go_sem];refine jc3 (fun d2=> ?_) (fun d2=> ?_)
    ·simp only[d1,d2,go_sem]
    ·by_cases h0:l=[]
     ·subst h0;simp only[d1,d2,vu,Int.natCast_zero,go_sem];refine jc3 (fun d3=> ?_) (fun d3=> ?_)
      ·simp only[d1,d2,d3,vu,go_sem]
      ·simp only[d1,d2,d3,vu,go_sem]
     ·have hpos:=qC.2 h0;have hz:decide ((l.length:Int)=0)=false:=za (by omega);have hlast:l[l.length-1]? =some (dgt l (l.length-1)):=jb7 (by omega);have hw:=ja6 (n:=(l.length:Int)-1) (by omega);have hn:((l.length:Int)-1).toNat=l.length-1:=by omega
      have hn0:(0:Int)<=(l.length:Int)-1:=by omega
      have hn1:(l.length:Int)-1<l.length:=by omega
      rw[hz];simp only[d1,d2,hz,wv,go_sem];refine jc3 (fun d3=> ?_) (fun d3=> ?_)
      ·simp only[d1,d2,d3,hz,wv,go_sem]
      ·simp only[d1,d2,d3,hz,hw,hn,hn0,hn1,zq,hlast,wv,go_sem]
end
section
open Go.Abs
def big(z:Int):IV:= .agg [.int z.sign,ints (dig z.natAbs)]
theorem jio(z:Int):jds z.sign (dig z.natAbs)=true:=by
 have h1:(dig z.natAbs).all okd=true:=all_okd.2 (jbn _);have hs: -1<=z.sign/\z.sign<=1:=by
  rcases yx z 0 with h | h | h
  ·rw[zQ h];omega
  ·subst h;decide
  ·rw[zT h];omega
 have hz:(dig z.natAbs=[])↔z.sign=0:=by
  rw[dig_nil,q7];omega
 simp only[jds,h1,z8,zu,ya,qm,yS,qI,zS];refine⟨by omega,by omega,?_,?_⟩
 ·rw[yn,<-hz];constructor
  ·intro h;exact jd.1 (by omega)
  ·intro h;rw[h];rfl
 ·by_cases h:dig z.natAbs=[]
  ·left;rw[h];rfl
  ·right;intro h2;have h3:=jo2 z.natAbs;rw[y5]at h3;have h4:=qC.2 h;have h5:=jb7 (l:=dig z.natAbs) (i:=(dig z.natAbs).length-1) (by omega);rw[h5,h2]at h3;exact h3 rfl
theorem jh3(z:Int): -1<=z.sign/\z.sign<=1:=by
 rcases yx z 0 with h | h | h
 ·rw[zQ h];omega
 ·subst h;decide
 ·rw[zT h];omega
theorem jgf(z:Int)(h:(dig z.natAbs).length<=1000000000000):Ctr G.P 122 [big z] (· = .bool true):=by
 have:=t_right z.sign (dig z.natAbs) (by omega);rw[jio]at this;exact this
theorem jnj(s z:Int)(n:Nat)(hn:n=z.natAbs)(hs:z≠0->s=z.sign)(h:(dig z.natAbs).length<=1000000000000):Ctr G.P 126 [.int s,ints (dig n)] (· =big z):=by
 subst hn;have:=t_made s (dig z.natAbs) (jbn _) h;rw[jax]at this;have e:(if(z.natAbs:Int)=0 then 0 else s)=z.sign:=by
  by_cases hz:z=0
  ·subst hz;rfl
  ·rw[zp (by omega),hs hz]
 rw[e,Int.toNat_natCast]at this;exact this
attribute [local go_sem] ints ic big
theorem jle{a b:Nat}{k m:Nat}(ha:(dig a).length<=k)(hb:(dig b).length<=m):(dig (a*b)).length<=k+m:=by
 refine jbg ?_;have h1:(a:Int)<1048576^k:=by
  have:=jdr (jbn a);rw[jax]at this;exact vE this (by
   have h3:=vf.2 (yc (n:=1048576) (by omega) ha);rw[Int.natCast_pow,Int.natCast_pow]at h3;exact h3)
 have h2:(b:Int)<1048576^m:=by
  have:=jdr (jbn b);rw[jax]at this;exact vE this (by
   have h3:=vf.2 (yc (n:=1048576) (by omega) hb);rw[Int.natCast_pow,Int.natCast_pow]at h3;exact h3)
 have g1:a<1048576^k:=vP.1 (by rw[Int.natCast_pow];exact h1);have g2:b<1048576^m:=vP.1 (by rw[Int.natCast_pow];exact h2);have g3:=vP.2 (Nat.mul_lt_mul'' g1 g2);rw[<-Nat.pow_add,Int.natCast_pow]at g3;exact g3
theorem t_neg(z:Int)(h:(dig z.natAbs).length<=1000000000000):Ctr G.P 123 [big z] (· =big (-z)):=by
 have rz:=jgf z h;have hm:=jnj (0-z.sign) (-z) z.natAbs (by rw[qT]) (fun _=>by rw[Int.sign_neg];omega) (by rw[qT];exact h);have w:=ja6 (n:=0-z.sign) (by have:=jh3 z;omega);refine ja3 [.cell 2 67] Tryz.func123 ?_;simp only[go_sem];refine ja1 rz ?_;simp only[w,go_sem];refine ja1 hm ?_;simp only[go_sem]
end
section
open Go.Abs
attribute [local go_sem] ints ic big
def cmpI(a b:Int):Int:=if a<b then-1 else if a=b then 0 else 1
theorem sign_lt{a b:Int}(h:a.sign<b.sign):a<b:=by
 rcases yx a 0 with h1 | h1 | h1<;>rcases yx b 0 with h2 | h2 | h2<;>
  simp[zQ,zT, *]at h<;>omega
end
section
open Go.Abs
attribute [local go_sem] ints ic big
theorem jhk{n k:Nat}(h:(dig n).length<=k):(n:Int)<1048576^k:=by
 have:=jdr (jbn n);rw[jax]at this;exact vE this (by
  have h3:=vf.2 (yc (n:=1048576) (by omega) h);rw[Int.natCast_pow,Int.natCast_pow]at h3;exact h3)
theorem len_add{n a b k:Nat}(ha:(dig a).length<=k)(hb:(dig b).length<=k)(h:n<=a+b):(dig n).length<=k+1:=by
 refine jbg ?_;have h1:=jhk ha;have h2:=jhk hb;rw[jcq];omega
end
section
open Go.Abs
attribute [local go_sem] ints ic
theorem t_over(a b:List Int)(ha:OkD a)(hb:OkD b)(hb0:0<val b)(la:a.length<=100000000000)(lb:b.length<=50000000000):
  Ctr G.P 143 [ints a,ints b] (· = .tup [ints (dig (val a/val b).toNat),ints (dig (val a % val b).toNat)]):=by
 have hw:=ja6 (n:=(a.length:Int)-1) (by omega);have ht:((a.length:Int)).toNat=a.length:=by omega
 have hb8:(a.length:Int)*8<=140737488355328:=by omega
 have hbl:=jdr hb;refine ja3 [.tmp 4,.tmp 5] Tryz.func143 ?_;simp only[hw,ht,hb8,go_sem];refine jd5 [0,1,6,7,8] [14] [(7,0,0,0)] (fun g:Nat×List Int×Nat=>⟨[(0,.im (.sl (a.map ic))),(1,.im (.sl (b.map ic))),(6,.gsl 14 3 1 a.length),(7,.im (.sl ((dig g.2.2).map ic))),(8,.im (.int ((g.1:Int)-1)))],[(14,1,g.2.1.map ic)],[]⟩)
  (fun g=>g.1<=a.length/\g.2.1.length=a.length/\OkD g.2.1/\(g.2.2:Int)<val b/\val (a.drop g.1)=val (g.2.1.drop g.1)*val b+g.2.2) (fun g=>g.1) (a.length,List.replicate a.length 0,0) ?_ ?_
  ⟨zB _,zM,OkD.replicate _,hb0,by dsimp only;rw[zV (zB _),zV (by rw[zM];exact zB _)];simp[val]⟩ ?_
 ·simp only[go_sem]
 ·simp only[jbc,zC,yh,zM,go_sem]
 ·intro⟨n,q,R⟩ ⟨hn,hl,hq,hR,hv⟩;dsimp only at hn hl hq hR hv;rcases n with _ | m
  ·have hd:decide ((0:Int)<=((0:Nat):Int)-1)=false:=by decide
   rw[yi,yi]at hv;obtain⟨e1,e2⟩:=jnu hv (by omega) hR;have htr:=jmd q hq (by omega);rw[e1]at htr;have hRn:R=(val a % val b).toNat:=by omega
   have hall:(q.map ic).take a.length=q.map ic:=zD (by rw[zw];omega);simp only[hd,hl,zB,hall,go_sem];refine ja1 htr ?_;simp only[hRn,go_sem]
  ·have h2:((m+1:Nat):Int)-1=m:=by omega
   have hd:decide ((0:Int)<=(m:Int))=true:=zk (by omega);have hx:=jb7 (l:=a) (i:=m) (by omega);have hmi:(m:Int)<a.length:=by omega
   have had:=ha.dgt m;have hw3:=ja6 (n:=(m:Int)-1) (by omega);have hlR:(dig R).length<=b.length:=jbg (by omega);have hok:OkD (dgt a m::dig R):=OkD.cons had (jbn _);have htr:=jmd (dgt a m::dig R) hok (by rw[List.length_cons];omega);have hvr:val (dgt a m::dig R)=dgt a m+1048576*R:=by
    show dgt a m+1048576*val (dig R)=_;rw[jax]
   rw[hvr]at htr;obtain⟨R',hR'⟩:∃R':Nat,(R':Int)=dgt a m+1048576*R:=⟨(dgt a m+1048576*R).toNat,by omega⟩;rw[<-hR',Int.toNat_natCast]at htr;have hRB:(R':Int)<1048576*val b:=by omega
   have hlR':(dig R').length<=b.length+1:=jbg (by rw[jcq];omega);simp only[h2,hd,zq,hx,go_sem];refine⟨by simp,jgz _,by omega,?_⟩;refine ja1 htr ?_;simp only[go_sem];refine jaj [0,1,6,7,8,9,10] [14] (fun g:Int×Int=>⟨[(0,.im (.sl (a.map ic))),(1,.im (.sl (b.map ic))),(6,.gsl 14 3 1 a.length),(7,.im (.sl ((dig R').map ic))),(8,.im (.int m)),(9,.im (.int g.1)),(10,.im (.int g.2))],[(14,1,q.map ic)],[]⟩)
    (fun g=>0<=g.1/\g.1<g.2/\g.2<=1048576/\g.1*val b<=R'/\(R':Int)<g.2*val b) (fun g=>(g.2-g.1).toNat) (0,1048576) ?_ ⟨yj _,by decide,yj _,by dsimp only;omega,hRB⟩ ?_
   ·simp only[h2,go_sem]
   ·intro⟨lo,hi⟩ ⟨g1,g2,g3,g4,g5⟩;dsimp only at g1 g2 g3 g4 g5;have w1:=ja6 (n:=hi-lo) (by omega);have w2:=ja6 (n:=lo+hi) (by omega);by_cases hp:1<hi-lo
    ·have hdp:decide (1<hi-lo)=true:=zk hp;obtain⟨mid,hmid⟩:∃mid,mid=(lo+hi)/2:=⟨_,rfl⟩;have hq2:IntKind.i64.wrap ((lo+hi).tdiv 2)=mid:=by
      rw[yL (by omega),<-hmid];exact ja6 (by omega)
     have hmo:OkD [mid]:=OkD.cons (by omega) OkD.nil;have htm:=t_times b [mid] hb hmo (by omega) (by simp);rw[jja]at htm;have hbm:0<=val b*mid:=qL (by omega) (by omega);have hbm2:val b*mid<=val b*1048576:=qq (by omega) (by omega);have hlm:(dig (val b*mid).toNat).length<=b.length+1:=jbg (by rw[jcq];omega);have hls:=t_less (dig R') (dig (val b*mid).toNat) (jbn _) (jbn _) (by omega) (by omega);rw[jax,jax,qQ hbm]at hls;simp only[ints,ic,zr,zC]at htm;simp only[w1,w2,hdp,hq2,go_sem];refine ja1 htm ?_;simp only[go_sem];refine ja1 hls ?_;simp only[go_sem];refine jcz (fun he he'=> ?_) (fun he he'=> ?_)
     ·simp only[go_sem];refine ja7 (lo,mid) ?_ (by dsimp only;omega) ⟨g1,by dsimp only;omega,by dsimp only;omega,g4,by dsimp only;rw[qW];exact he'⟩;simp only[go_sem]
     ·simp only[go_sem];refine ja7 (mid,hi) ?_ (by dsimp only;omega) ⟨by dsimp only;omega,by dsimp only;omega,g3,by dsimp only;rw[qW];omega,g5⟩;simp only[go_sem]
    ·have hdp:decide (1<hi-lo)=false:=za hp;have hhi:hi=lo+1:=by omega
     subst hhi;rw[yp,yH]at g5;have hlo:OkD [lo]:=OkD.cons (by omega) OkD.nil;have htl:=jmd [lo] hlo (by simp);rw[jja]at htl;have hll:(dig lo.toNat).length<=1:=jbg (by omega);have htm:=t_times b (dig lo.toNat) hb (jbn _) (by omega) (by omega);rw[jax,qQ g1]at htm;have hbl2:0<=val b*lo:=qL (by omega) g1;have hcm:=qW (val b) lo;have hlm:(dig (val b*lo).toNat).length<=b.length+1:=jbg (by rw[jcq];omega);have hmn:=t_minus (dig R') (dig (val b*lo).toNat) (jbn _) (jbn _) (by rw[jax,jax,qQ hbl2];omega) (by omega) (by omega);rw[jax,jax,qQ hbl2]at hmn;have hst:=jir (lo:=lo) (by omega:m<q.length) hv;simp only[ints,ic,zr,zC]at htl;simp only[w1,hdp,hmi,go_sem];have hqx:=jb7 (l:=q) (i:=m) (by omega);simp only[zq,hqx,<-qk,hmi,go_sem];refine ja1 htl ?_;simp only[go_sem];refine ja1 htm ?_;simp only[go_sem];refine ja1 hmn ?_;simp only[go_sem];refine ja7 (m,q.set m lo,((R':Int)-val b*lo).toNat) ?_ (by dsimp only;omega) ⟨by dsimp only;omega,by dsimp only;rw[zZ];exact hl,hq.set (by omega),by dsimp only;omega,?_⟩
     ·simp only[hw3,qk,go_sem]
     ·dsimp only;rw[hst,qQ (by omega)];omega
end
section
open Go.Abs
attribute [local go_sem] ints ic big
theorem jcv{n m k:Nat}(h:n<=m)(hm:(dig m).length<=k):(dig n).length<=k:=jbg (by have:=jhk hm;omega)
theorem t_overn(x y:Nat)(hy:0<y)(lx:(dig x).length<=100000000000)(ly:(dig y).length<=50000000000):Ctr G.P 143 [ints (dig x),ints (dig y)] (· = .tup [ints (dig (x/y)),ints (dig (x % y))]):=by
 have:=t_over (dig x) (dig y) (jbn _) (jbn _) (by rw[jax];omega) lx ly;rw[jax,jax,<-Int.natCast_ediv,<-Int.natCast_emod,Int.toNat_natCast,Int.toNat_natCast]at this;exact this
theorem t_gcd(a b:Int)(la:(dig a.natAbs).length<=50000000000)(lb:(dig b.natAbs).length<=50000000000):Ctr G.P 124 [big a,big b] (· = .tup [big (Nat.gcd a.natAbs b.natAbs:Nat),.int 0]):=by
 have ra:=jgf a (by omega);have rb:=jgf b (by omega);refine ja3 [.cell 4 67,.tmp 5] Tryz.func124 ?_;simp only[go_sem];refine ja1 ra ?_;simp only[go_sem];refine ja1 rb ?_;simp only[go_sem];refine jaj [4,6,7] [4] (fun g:Nat×Nat=>⟨[(4,.loc 4 2 0 0),(6,.im (.sl ((dig g.1).map ic))),(7,.im (.sl ((dig g.2).map ic)))],[(4,2,[[.int 0,.sl []]])],[]⟩)
  (fun g=>Nat.gcd g.1 g.2=Nat.gcd a.natAbs b.natAbs/\(dig g.1).length<=50000000000/\(dig g.2).length<=50000000000) (fun g=>g.2) (a.natAbs,b.natAbs) ?_ ⟨rfl,la,lb⟩ ?_
 ·simp only[go_sem]
 ·intro⟨x,y⟩ ⟨hg,lx,ly⟩;dsimp only at hg lx ly;by_cases hy:y=0
  ·subst hy;rw[Nat.gcd_zero_right]at hg;rw[<-hg];have hm:=jnj 1 x x (by omega) (fun h=>(zT (by omega)).symm) (by rw[Int.natAbs_natCast];omega);simp only[jbc,zC,go_sem];refine ja1 hm ?_;simp only[go_sem]
  ·have hne:dig y≠[]:=fun h=>hy (dig_nil.1 h);have hlp:=qC.2 hne;have hd:decide (0<((dig y).length:Int))=true:=zk (by omega);have ho:=t_overn x y (by omega) (by omega) ly;have hlt:=jH x (by omega:y>0);simp only[hd,go_sem];refine ja1 ho ?_;simp only[go_sem];refine ja7 (y,x % y) ?_ hlt ⟨?_,ly,jcv (by omega) ly⟩
   ·simp only[go_sem]
   ·show Nat.gcd y (x % y)=_;rw[<-hg,ve x y,Nat.gcd_rec y x,ve]
theorem t_div(a b:Int)(hb:b≠0)(hd:b.natAbs ∣ a.natAbs)(la:(dig a.natAbs).length<=50000000000)(lb:(dig b.natAbs).length<=50000000000):Ctr G.P 125 [big a,big b] (· = .tup [big (a/b),big 0,.int 0]):=by
 have ra:=jgf a (by omega);have rb:=jgf b (by omega);have hbs:decide (b.sign=0)=false:=za fun h=>hb (q7.1 h);have ho:=t_overn a.natAbs b.natAbs (by omega) (by omega) lb;have hmod:a.natAbs % b.natAbs=0:=Nat.mod_eq_zero_of_dvd hd;rw[hmod,jbc]at ho;have hq:a.natAbs/b.natAbs=(a/b).natAbs:=by
  rw[Int.natAbs_ediv_of_dvd (Int.natAbs_dvd_natAbs.1 hd)]
 have hql:(dig (a/b).natAbs).length<=50000000000:=by rw[<-hq];exact jcv (vX _ _) la
 have hsg:a/b≠0->a.sign*b.sign=(a/b).sign:=fun h=>by
  obtain⟨c,hc⟩:=Int.natAbs_dvd_natAbs.1 hd;subst hc;rw[Int.mul_ediv_cancel_left _ hb]at h⊢;rw[j6,qW,<-qE];have:b.sign*b.sign=1:=by
   rcases qH hb with h1 | h1
   ·rw[zQ h1];rfl
   ·rw[zT h1];rfl
  rw[this,yH]
 rw[hq]at ho;have w:=ja6 (n:=a.sign*b.sign) (by rw[<-j6];have:=jh3 (a*b);omega);have hm:=jnj (a.sign*b.sign) (a/b) (a/b).natAbs rfl hsg (by omega);have hm2:=jnj a.sign 0 0 rfl (fun h=>absurd rfl h) (by rw[show(0:Int).natAbs=0 from rfl,jbc];simp);rw[jbc]at hm2;refine ja3 [.cell 4 67,.cell 5 67,.tmp 6] Tryz.func125 ?_;simp only[go_sem];refine ja1 ra ?_;simp only[go_sem];refine ja1 rb ?_;simp only[hbs,go_sem];refine ja1 ho ?_;simp only[w,go_sem];refine jc3 (fun d=> ?_) (fun d=> ?_)
 ·simp only[d,go_sem];refine jan ?_;simp only[w,go_sem];refine ja5 hm (by decide) ?_;simp only[go_sem];refine ja5 hm2 (by decide) ?_;simp only[go_sem]
 ·simp only[d,zC,Int.natCast_zero,decide_true,go_sem];refine jan ?_;simp only[w,go_sem];refine ja5 hm (by decide) ?_;simp only[go_sem];refine ja5 hm2 (by decide) ?_;simp only[go_sem]
