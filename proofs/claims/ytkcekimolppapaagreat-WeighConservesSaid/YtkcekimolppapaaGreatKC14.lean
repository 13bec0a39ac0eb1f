/- A part of the proof. No further condition. -/
import Derived.Test.YtkcekimolppapaaGreatKC13
set_option linter.all false
set_option maxRecDepth 10000000
set_option maxHeartbeats 16000000
namespace Go.Proofs.YtkcekimolppapaaGreat
section
open Go.Abs
attribute [local go_sem] ints ic big
theorem jlk(z:Int)(h:(dig z.natAbs).length<=1000000000000):Ctr G.P 116 [big z] (· =big (-z)):=by
 have rz:=jcb z (by omega);have hc:=jjw (dig z.natAbs) (by omega);have hs:=je0 (0-z.sign) (-z) z.natAbs (by rw[yi]) (fun _=>by rw[Int.sign_neg];omega) (by rw[yi];omega);have w:=ja8 (n:=0-z.sign) (by have:=jig z;omega);refine ja5 [.cell 2 33] Tryz.func116 ?_;simp only[go_sem];refine ja1 rz ?_;simp only[go_sem];refine jap ?_;simp only[w,go_sem];refine ja4 hc (by decide) ?_;simp only[go_sem];refine ja4 hs (by decide) ?_;simp only[go_sem]
theorem t_or(a b:Int):Ctr G.P 126 [.sl [[.int a],[.int b]]] (· = .int (if a=0 then b else a)):=by
 refine ja5 [.tmp 2] Tryz.func126 ?_;simp only[go_sem];refine jau [3,6,7,8] [] (fun i:Nat=>⟨[(3,.im (.int 0)),(6,.im (.sl [[.int a],[.int b]])),(7,.im (.int 2)),(8,.im (.int i))],[],[]⟩)
  (fun i=>i<=2/\(1<=i->a=0)/\(2<=i->b=0)) (fun i=>2-i) 0 ?_ ⟨by omega,by omega,by omega⟩ ?_
 ·simp only[go_sem]
 intro i ⟨hi,h1,h2⟩
 match i,hi,h1,h2 with
 | 0,_,_,_=>
  simp only[go_sem];refine jd8 (fun d d'=> ?_) (fun d d'=> ?_)
  ·simp only[d,go_sem];refine jac 1 ?_ (by omega) ⟨by omega,fun _=>d',by omega⟩;simp only[show IntKind.i64.wrap 1=1 from by decide,go_sem]
  ·rw[zn d'];simp only[d,go_sem]
 | 1,_,h1,_=>
  rw[zm (h1 (by omega))];simp only[go_sem];refine jd8 (fun d d'=> ?_) (fun d d'=> ?_)
  ·simp only[d,go_sem];refine jac 2 ?_ (by omega) ⟨by omega,fun _=>h1 (by omega),fun _=>d'⟩;simp only[show IntKind.i64.wrap 2=2 from by decide,go_sem]
  ·simp only[d,go_sem]
 | 2,_,h1,h2=>
  rw[zm (h1 (by omega)),h2 (by omega)];simp only[go_sem]
theorem add_same{a b:Int}(h:0<=a.sign*b.sign):a.natAbs+b.natAbs=(a+b).natAbs/\(a+b≠0->(if a.sign=0 then b.sign else a.sign)=(a+b).sign):=by
 rcases q8 a 0 with ha | ha | ha
 ·have e1:=zM ha;have hb:b<=0:=by
   rcases yE 0 b with h1 | h1
   ·rw[e1,zQ h1]at h;omega
   ·exact h1
  refine⟨by omega,fun _=> ?_⟩;rw[e1,zM (show a+b<0 by omega)];rfl
 ·subst ha;refine⟨by simp,fun _=> ?_⟩;simp
 ·have e1:=zQ ha;have hb:0<=b:=by
   rcases yE b 0 with h1 | h1
   ·rw[e1,zM h1]at h;omega
   ·exact h1
  refine⟨by omega,fun _=> ?_⟩;rw[e1,zQ (show 0<a+b by omega)];rfl
theorem jr0{a b:Int}(h:¬0<=a.sign*b.sign)(hl:a.natAbs<b.natAbs):b.natAbs-a.natAbs=(a+b).natAbs/\b.sign=(a+b).sign:=by
 rcases q8 a 0 with ha | ha | ha
 ·have e1:=zM ha;have hb:0<b:=by
   rcases yE 0 b with h1 | h1
   ·exact h1
   ·rw[e1]at h;have:b.sign<=0:=by
     rcases yE b 0 with h2 | h2
     ·rw[zM h2];omega
     ·have:b=0:=by omega
      subst this;simp
    omega
  refine⟨by omega,?_⟩;rw[zQ hb,zQ (by omega)]
 ·subst ha;simp at h
 ·have e1:=zQ ha;have hb:b<0:=by
   rcases yE b 0 with h1 | h1
   ·exact h1
   ·rw[e1]at h;have:0<=b.sign:=by
     rcases yE 0 b with h2 | h2
     ·rw[zQ h2];omega
     ·have:b=0:=by omega
      subst this;simp
    omega
  refine⟨by omega,?_⟩;rw[zM hb,zM (by omega)]
theorem cmpI_lt{a b:Int}:cmpI a b<0↔a<b:=by
 unfold cmpI;split<;>(try split)<;>omega
theorem t_paddb(a b:Int)(la:(dig a.natAbs).length<=90000000000)(lb:(dig b.natAbs).length<=90000000000):Ctr G.P 71 [big a,big b] (· = .tup [big (a+b),.int 0]):=by
 have ra:=jcb a (by omega);have rb:=jcb b (by omega);have hc:=jjx (a+b);have ls:=jig a;have lt:=jig b;have w:=ja8 (n:=a.sign*b.sign) (by rw[<-vh];have:=jig (a*b);omega);have hlen:(dig (a+b).natAbs).length<=1000000000000:=by have:=len_add (k:=90000000000) la lb (by omega:(a+b).natAbs<=a.natAbs+b.natAbs);omega
 simp only[big,ints]at ra rb hc;by_cases h1:0<=a.sign*b.sign
 ·have d1:decide (0<=a.sign*b.sign)=true:=zh h1;obtain⟨e1,e2⟩:=add_same h1;have ho:=t_or a.sign b.sign;have ht:=t_padd (dig a.natAbs) (dig b.natAbs) (jbu _) (jbu _) (by omega) (by omega);rw[jb0,jb0,<-Int.natCast_add,Int.toNat_natCast]at ht;have hs:=je0 (if a.sign=0 then b.sign else a.sign) (a+b) (a.natAbs+b.natAbs) e1 e2 hlen;simp only[big,ints]at ht hs;generalize (if a.sign=0 then b.sign else a.sign)=sg at*;refine ja5 [.cell 4 33,.tmp 5] Tryz.func71 ?_;simp only[go_sem];refine ja1 ra ?_;simp only[go_sem];refine ja1 rb ?_;simp only[w,d1,go_sem];refine jap ?_;simp only[go_sem];refine ja4 ho (by decide) ?_;simp only[go_sem];refine ja4 ht (by decide) ?_;simp only[go_sem];refine ja4 hs (by decide) ?_;simp only[go_sem];refine ja4 hc (by decide) ?_;simp only[go_sem]
 ·have d1:decide (0<=a.sign*b.sign)=false:=zw h1;have hk:=jfb a.natAbs b.natAbs (by omega) (by omega);by_cases h2:a.natAbs<b.natAbs
  ·have d2:decide (cmpI (a.natAbs:Int) (b.natAbs:Int)<0)=true:=zh (cmpI_lt.2 (by omega));obtain⟨e1,e2⟩:=jr0 h1 h2;have ht:=t_psub (dig b.natAbs) (dig a.natAbs) (jbu _) (jbu _) (by rw[jb0,jb0];omega) (by omega) (by omega);rw[jb0,jb0,show((b.natAbs:Int)-(a.natAbs:Int)).toNat=b.natAbs-a.natAbs by omega]at ht;have hs:=je0 b.sign (a+b) (b.natAbs-a.natAbs) e1 (fun _=>e2) hlen;simp only[big,ints]at ht hs hk;refine ja5 [.cell 4 33,.tmp 5] Tryz.func71 ?_;simp only[go_sem];refine ja1 ra ?_;simp only[go_sem];refine ja1 rb ?_;simp only[w,d1,go_sem];refine ja1 hk ?_;simp only[d2,go_sem];refine jap ?_;simp only[go_sem];refine ja4 ht (by decide) ?_;simp only[go_sem];refine ja4 hs (by decide) ?_;simp only[go_sem];refine ja4 hc (by decide) ?_;simp only[go_sem]
  ·have d2:decide (cmpI (a.natAbs:Int) (b.natAbs:Int)<0)=false:=zw (fun h=>by rw[cmpI_lt]at h;omega);have e12:a.natAbs-b.natAbs=(a+b).natAbs/\(a+b≠0->a.sign=(a+b).sign):=by
    by_cases h3:a.natAbs=b.natAbs
    ·have:a+b=0:=by
      rcases Int.natAbs_eq_natAbs_iff.1 h3 with h4 | h4
      ·subst h4;refine absurd ?_ h1;rcases q8 a 0 with h5 | h5 | h5
       ·rw[zM h5];decide
       ·rw[h5];decide
       ·rw[zQ h5];decide
      ·omega
     rw[this];exact⟨by simp;omega,fun h=>absurd rfl h⟩
    ·have h5:¬0<=b.sign*a.sign:=by rw[yk];exact h1
     obtain⟨f1,f2⟩:=jr0 h5 (by omega);rw[Int.add_comm]at f1 f2;exact⟨f1,fun _=>f2⟩
   have ht:=t_psub (dig a.natAbs) (dig b.natAbs) (jbu _) (jbu _) (by rw[jb0,jb0];omega) (by omega) (by omega);rw[jb0,jb0,show((a.natAbs:Int)-(b.natAbs:Int)).toNat=a.natAbs-b.natAbs by omega]at ht;have hs:=je0 a.sign (a+b) (a.natAbs-b.natAbs) e12.1 e12.2 hlen;simp only[big,ints]at ht hs hk;refine ja5 [.cell 4 33,.tmp 5] Tryz.func71 ?_;simp only[go_sem];refine ja1 ra ?_;simp only[go_sem];refine ja1 rb ?_;simp only[w,d1,go_sem];refine ja1 hk ?_;simp only[d2,go_sem];refine jap ?_;simp only[go_sem];refine ja4 ht (by decide) ?_;simp only[go_sem];refine ja4 hs (by decide) ?_;simp only[go_sem];refine ja4 hc (by decide) ?_;simp only[go_sem]
end
section
open Go.Abs
attribute [local go_sem] ints ic big mb20 pw20 fd20
theorem and20u(n:Int)(h:0<=n/\n<18446744073709551616):bits .and .u64 n 1048575=n % 1048576:=by
 have h2:bits .and .u64 n 1048575=IntKind.u64.wrap ((BitVec.ofInt 64 n&&&BitVec.ofInt 64 1048575).toNat:Nat):=rfl;rw[h2,BitVec.toNat_and,jcf,jcf,jn (by omega) (by omega),show((1048575:Int) % 18446744073709551616).toNat=2^20-1 from rfl,jt];rw[u64_in _ (by omega)];omega
theorem jnp(s z:Int)(l:List Int)(hl:OkD l)(hv:val l=z.natAbs)(hs:z≠0->s=z.sign)(h:l.length<=1000000000000):Ctr G.P 108 [.int s,ints l] (· =big z):=by
 have ht:=jep l hl h;rw[hv,Int.toNat_natCast]at ht;by_cases hz:z=0
 ·subst hz;rw[Int.natAbs_zero,jbp]at ht;simp only[big,Int.natAbs_zero,jbp,Int.sign_zero];refine ja5 [.cell 4 33] Tryz.func108 ?_;simp only[go_sem];refine ja1 ht ?_;simp only[List.length_nil,Int.natCast_zero,jQ,zp,go_sem]
 ·have hne:decide (((dig z.natAbs).length:Int)=0)=false:=zw fun h=>by
   have:dig z.natAbs=[]:=y3.1 (by omega);rw[dig_nil]at this;omega
  rw[hs hz];refine ja5 [.cell 4 33] Tryz.func108 ?_;simp only[go_sem];refine ja1 ht ?_;simp only[hne,go_sem]
theorem t_pof(z:Int)(hz: -9223372036854775808<=z/\z<=9223372036854775807):Ctr G.P 58 [.int z] (· =big z):=by
 by_cases h0:z<0
 ·have d1:decide (z<0)=true:=zh h0;have w1:IntKind.u64.wrap (0-IntKind.u64.wrap z)=z.natAbs:=by
   rw[IntKind.wrap_u64,IntKind.wrap_u64];omega
  obtain⟨sg,hsg,e⟩:∃sg:Int,(z≠0->sg=z.sign)/\sg= -1:=⟨-1,fun _=>(zM h0).symm,rfl⟩;refine ja5 [.cell 2 33] Tryz.func58 ?_;simp only[d1,w1,go_sem];rw[<-e];refine jfk [2,3,4,5] [2,21] [(5,21,3,1)] (fun g:Int×List Int=>⟨[(2,.loc 2 2 0 0),(3,.im (.int sg)),(4,.im (.sc (.int .u64 g.1))),(5,.vec 21 3 1 (g.2.map ic))],[(2,2,[[.int 0,.sl []]])],[(21,1,g.2.length)]⟩)
   (fun g=>(0<=g.1/\g.1<=z.natAbs)/\OkD g.2/\val g.2+1048576^g.2.length*g.1=z.natAbs/\(g.2.length<=4/\g.1<1048576^(4-g.2.length))) (fun g=>g.1.toNat) ((z.natAbs:Int),[]) ?_ ?_ ⟨by dsimp only;omega,OkD.nil,by simp[val],by dsimp only;simp;omega⟩ ?_
  ·simp only[go_sem];simp
  ·simp only[zp,go_sem]
  ·intro⟨n,l⟩ ⟨⟨n0,n1⟩,hl,hv,hlen,hlt⟩;dsimp only at n0 n1 hl hv hlen hlt;by_cases hn:n=0
   ·subst hn;rw[ya,yo]at hv;have hm:=jnp sg z l hl hv hsg (by omega);simp only[go_sem];refine ja1 hm ?_;simp only[go_sem]
   ·have dn:decide (0<n)=true:=zh (by omega);have ha:=and20u n (by omega);have hc:=ja8 (n:=n % 1048576) (by omega);simp only[dn,ha,hc,go_sem];refine⟨joc _,by simp,by omega,?_⟩;refine jac (n/1048576,l++[n % 1048576]) ?_ (by dsimp only;omega) ⟨by dsimp only;omega,hl.append (OkD.cons (by omega) OkD.nil),of_step hv,by dsimp only;rw[zu,List.length_cons,List.length_nil];exact of_len hn n0 hlen hlt⟩;simp only[qw,zu,go_sem]
 ·have d1:decide (z<0)=false:=zw h0;have w1:IntKind.u64.wrap z=z.natAbs:=by
   rw[IntKind.wrap_u64];omega
  obtain⟨sg,hsg,e⟩:∃sg:Int,(z≠0->sg=z.sign)/\sg=1:=⟨1,fun h=>(zQ (by omega)).symm,rfl⟩;refine ja5 [.cell 2 33] Tryz.func58 ?_;simp only[d1,w1,go_sem];rw[<-e];refine jfk [2,3,4,5] [2,21] [(5,21,3,1)] (fun g:Int×List Int=>⟨[(2,.loc 2 2 0 0),(3,.im (.int sg)),(4,.im (.sc (.int .u64 g.1))),(5,.vec 21 3 1 (g.2.map ic))],[(2,2,[[.int 0,.sl []]])],[(21,1,g.2.length)]⟩)
   (fun g=>(0<=g.1/\g.1<=z.natAbs)/\OkD g.2/\val g.2+1048576^g.2.length*g.1=z.natAbs/\(g.2.length<=4/\g.1<1048576^(4-g.2.length))) (fun g=>g.1.toNat) ((z.natAbs:Int),[]) ?_ ?_ ⟨by dsimp only;omega,OkD.nil,by simp[val],by dsimp only;simp;omega⟩ ?_
  ·simp only[go_sem];simp
  ·simp only[zp,go_sem]
  ·intro⟨n,l⟩ ⟨⟨n0,n1⟩,hl,hv,hlen,hlt⟩;dsimp only at n0 n1 hl hv hlen hlt;by_cases hn:n=0
   ·subst hn;rw[ya,yo]at hv;have hm:=jnp sg z l hl hv hsg (by omega);simp only[go_sem];refine ja1 hm ?_;simp only[go_sem]
   ·have dn:decide (0<n)=true:=zh (by omega);have ha:=and20u n (by omega);have hc:=ja8 (n:=n % 1048576) (by omega);simp only[dn,ha,hc,go_sem];refine⟨joc _,by simp,by omega,?_⟩;refine jac (n/1048576,l++[n % 1048576]) ?_ (by dsimp only;omega) ⟨by dsimp only;omega,hl.append (OkD.cons (by omega) OkD.nil),of_step hv,by dsimp only;rw[zu,List.length_cons,List.length_nil];exact of_len hn n0 hlen hlt⟩;simp only[qw,zu,go_sem]
end
section
open Go.Abs
attribute [local go_sem] ints ic big frac
theorem jm7{p q:Int}(hq:0<q):(Rat.divInt p q).num=p/(Nat.gcd p.natAbs q.natAbs:Nat)/\((Rat.divInt p q).den:Int)=q/(Nat.gcd p.natAbs q.natAbs:Nat):=by
 have hg:(Int.gcd q p:Nat)=Nat.gcd p.natAbs q.natAbs:=Nat.gcd_comm ..;constructor
 ·rw[Rat.num_divInt,zQ hq,yG,hg]
 ·rw[Rat.den_divInt,zn (by omega),hg,Int.natCast_ediv,Int.natAbs_of_nonneg (by omega)]
end
section
open Go.Abs
attribute [local go_sem] ints ic big frac
end
section
open Go.Abs
attribute [local go_sem] ints ic big frac
theorem jc8{a b:Int}{k m:Nat}(ha:(dig a.natAbs).length<=k)(hb:(dig b.natAbs).length<=m):(dig (a*b).natAbs).length<=k+m:=by
 rw[jv];exact jkh ha hb
theorem jgk(a:Rat):(a.den:Int)≠0:=by have:=a.den_nz;omega
end
section
open Go.Abs
attribute [local go_sem] ints ic big frac
theorem jpt(p q:Int)(hq:q≠0)(lp:(dig p.natAbs).length<=40000000000)(lq:(dig q.natAbs).length<=40000000000):Ctr G.P 73 [big p,big q] (· = .tup [frac (Rat.divInt p q),.int 0]):=by
 have rp:=jcb p (by omega);have rq:=jcb q (by omega);have d0:decide (q.sign=0)=false:=zw fun h=>hq (yr.1 h);have main:∀P Q:Int,0<Q->(dig P.natAbs).length<=40000000000->(dig Q.natAbs).length<=40000000000->Rat.divInt P Q=Rat.divInt p q->
   Ctr G.P 119 [big P,big Q] (· = .tup [big (Nat.gcd P.natAbs Q.natAbs:Nat),.int 0])/\
   Ctr G.P 131 [big P,big (Nat.gcd P.natAbs Q.natAbs:Nat)] (· = .tup [big (Rat.divInt p q).num,big (P.fmod (Nat.gcd P.natAbs Q.natAbs:Nat)),.int 0])/\
   Ctr G.P 131 [big Q,big (Nat.gcd P.natAbs Q.natAbs:Nat)] (· = .tup [big ((Rat.divInt p q).den:Int),big (Q.fmod (Nat.gcd P.natAbs Q.natAbs:Nat)),.int 0]):=by
  intro P Q hQ lP lQ he;obtain⟨e1,e2⟩:=jm7 (p:=P) hQ;rw[he]at e1 e2;rw[e1,e2];have hgp:Nat.gcd P.natAbs Q.natAbs≠0:=fun h=>by have:=Nat.eq_zero_of_gcd_eq_zero_right h;omega
  have hgl:(dig (Nat.gcd P.natAbs Q.natAbs)).length<=40000000000:=jd2 (Nat.le_of_dvd (by omega) (Nat.gcd_dvd_right _ _)) lQ;have k1:=t_pdivb P (Nat.gcd P.natAbs Q.natAbs:Nat) (by omega) (by omega) (by rw[Int.natAbs_natCast];omega);have k2:=t_pdivb Q (Nat.gcd P.natAbs Q.natAbs:Nat) (by omega) (by omega) (by rw[Int.natAbs_natCast];omega);rw[jw _ (by omega)]at k1 k2;exact⟨t_pgcd P Q (by omega) (by omega),k1,k2⟩
 rcases yy hq with hlt | hgt
 ·have d1:decide (q.sign<0)=true:=by rw[zM hlt];rfl
  have n1:=jlk p (by omega);have n2:=jlk q (by omega);obtain⟨hg,hd1,hd2⟩:=main (-p) (-q) (by omega) (by rw[yi];exact lp) (by rw[yi];exact lq) (by have:=Rat.divInt_mul_right (n:=p) (d:=q) (a:= -1) (by decide);rwa [y6,y6,jl,jl]at this);simp only[big,frac,ints]at rp rq n1 n2 hg hd1 hd2;refine ja5 [.cell 4 35,.tmp 5] Tryz.func73 ?_;simp only[go_sem];refine ja1 rp ?_;simp only[go_sem];refine ja1 rq ?_;simp only[d0,d1,go_sem];refine jap ?_;simp only[go_sem];refine ja4 n1 (by decide) ?_;simp only[go_sem];refine ja4 n2 (by decide) ?_;simp only[go_sem];refine ja1 hg ?_;simp only[go_sem];refine ja1 hd1 ?_;simp only[go_sem];refine ja1 hd2 ?_;simp only[go_sem]
 ·have d1:decide (q.sign<0)=false:=by rw[zQ hgt];rfl
  obtain⟨hg,hd1,hd2⟩:=main p q hgt lp lq rfl;simp only[big,frac,ints]at rp rq hg hd1 hd2;refine ja5 [.cell 4 35,.tmp 5] Tryz.func73 ?_;simp only[go_sem];refine ja1 rp ?_;simp only[go_sem];refine ja1 rq ?_;simp only[d0,d1,go_sem];refine ja1 hg ?_;simp only[go_sem];refine ja1 hd1 ?_;simp only[go_sem];refine ja1 hd2 ?_;simp only[go_sem]
theorem jki{p:Int}(hp: -9223372036854775808<=p/\p<=9223372036854775807):(dig p.natAbs).length<=4:=jbt (by omega)
theorem t_poff(p q:Int)(hq:q≠0)(hp: -9223372036854775808<=p/\p<=9223372036854775807)(hq': -9223372036854775808<=q/\q<=9223372036854775807):
  Ctr G.P 198 [.int p,.int q] (· = .tup [frac (Rat.divInt p q),.int 0]):=by
 have o1:=t_pof p hp;have o2:=t_pof q hq';have hn:=jpt p q hq (by have:=jki hp;omega) (by have:=jki hq';omega);simp only[big,frac,ints]at o1 o2 hn;refine ja5 [.cell 4 35,.tmp 5] Tryz.func198 ?_;simp only[go_sem];refine ja1 o1 ?_;simp only[go_sem];refine ja1 o2 ?_;simp only[go_sem];refine ja1 hn ?_;simp only[go_sem]
theorem jbz(n:Int)(hn: -9223372036854775808<=n/\n<=9223372036854775807):Ctr G.P 17 [.int n] (· =frac (n:Rat)):=by
 have o1:=t_pof n hn;have o2:=t_pof 1 (by omega);have e1:((n:Rat)).num=n:=rfl;have e2:((n:Rat)).den=1:=rfl;simp only[big,frac,ints,e1,e2]at o1 o2⊢;refine ja5 [.cell 2 35] Tryz.func17 ?_;simp only[go_sem];refine ja1 o1 ?_;simp only[go_sem];refine ja1 o2 ?_;simp only[go_sem]
theorem jl0(a b:Rat):Rat.divInt (a.num*b.den+b.num*a.den) (a.den*b.den)=a+b:=by
 rw[<-Rat.divInt_add_divInt _ _ (jgk a) (jgk b),y7,y7]
theorem jkz(a b:Rat):Rat.divInt (a.num*b.num) (a.den*b.den)=a*b:=by
 rw[<-Rat.divInt_mul_divInt,y7,y7]
theorem jqb{a b:Int}{k:Nat}(ha:(dig a.natAbs).length<=k)(hb:(dig b.natAbs).length<=k):(dig (a+b).natAbs).length<=k+1:=len_add ha hb (by omega)
theorem t_paddf(a b:Rat)(ap:(dig a.num.natAbs).length<=19000000000)(aq:(dig a.den).length<=19000000000)(bp:(dig b.num.natAbs).length<=19000000000)(bq:(dig b.den).length<=19000000000):
  Ctr G.P 24 [frac a,frac b] (· = .tup [frac (a+b),.int 0]):=by
 have ra:=jc5 a (by omega) (by omega);have rb:=jc5 b (by omega) (by omega);have bq':(dig (b.den:Int).natAbs).length<=19000000000:=by rw[Int.natAbs_natCast];exact bq
 have aq':(dig (a.den:Int).natAbs).length<=19000000000:=by rw[Int.natAbs_natCast];exact aq
 have m1:=jef a.num b.den (by omega) (by omega);have m2:=jef b.num a.den (by omega) (by omega);have m3:=jef a.den b.den (by omega) (by omega);have l1:=jc8 ap bq';have l2:=jc8 bp aq';have l3:=jc8 aq' bq';have hs:=t_paddb (a.num*b.den) (b.num*a.den) (by omega) (by omega);have hn:=jpt (a.num*b.den+b.num*a.den) (a.den*b.den) (jG (jgk a) (jgk b)) (by have:=jqb (k:=38000000000) (a:=a.num*b.den) (b:=b.num*a.den) (by omega) (by omega);omega) (by omega);rw[jl0]at hn;simp only[big,frac,ints]at ra rb m1 m2 m3 hs hn;refine ja5 [.cell 4 35,.tmp 5] Tryz.func24 ?_;simp only[go_sem];refine ja1 ra ?_;simp only[go_sem];refine ja1 rb ?_;simp only[go_sem];refine jap ?_;simp only[go_sem];refine ja4 m1 (by decide) ?_;simp only[go_sem];refine ja4 m2 (by decide) ?_;simp only[go_sem];refine ja4 hs (by decide) ?_;simp only[go_sem];refine jap ?_;simp only[go_sem];refine ja4 m3 (by decide) ?_;simp only[go_sem];refine ja4 hn (by decide) ?_;simp only[go_sem]
theorem t_psubf(a b:Rat)(ap:(dig a.num.natAbs).length<=19000000000)(aq:(dig a.den).length<=19000000000)(bp:(dig b.num.natAbs).length<=19000000000)(bq:(dig b.den).length<=19000000000):
  Ctr G.P 124 [frac a,frac b] (· = .tup [frac (a-b),.int 0]):=by
 have ra:=jc5 a (by omega) (by omega);have rb:=jc5 b (by omega) (by omega);have hn:=jlk b.num (by omega);have hs:=t_paddf a (-b) ap aq (by rw[show(-b).num= -b.num from rfl,yi];exact bp) bq;have e:a+ -b=a-b:=by grind
 rw[e]at hs;simp only[big,frac,ints,show(-b).num= -b.num from rfl,show(-b).den=b.den from rfl]at ra rb hn hs;refine ja5 [.cell 4 35,.tmp 5] Tryz.func124 ?_;simp only[go_sem];refine ja1 ra ?_;simp only[go_sem];refine ja1 rb ?_;simp only[go_sem];refine jap ?_;simp only[go_sem];refine ja4 hn (by decide) ?_;simp only[go_sem];refine ja4 hs (by decide) ?_;simp only[go_sem]
end
section
open Go.Abs
attribute [local go_sem] ints ic big frac
theorem t_pmulf(a b:Rat)(ap:(dig a.num.natAbs).length<=19000000000)(aq:(dig a.den).length<=19000000000)(bp:(dig b.num.natAbs).length<=19000000000)(bq:(dig b.den).length<=19000000000):
  Ctr G.P 57 [frac a,frac b] (· = .tup [frac (a*b),.int 0]):=by
 have ra:=jc5 a (by omega) (by omega);have rb:=jc5 b (by omega) (by omega);have bq':(dig (b.den:Int).natAbs).length<=19000000000:=by rw[Int.natAbs_natCast];exact bq
 have aq':(dig (a.den:Int).natAbs).length<=19000000000:=by rw[Int.natAbs_natCast];exact aq
 have m1:=jef a.num b.num (by omega) (by omega);have m2:=jef a.den b.den (by omega) (by omega);have l1:=jc8 ap bp;have l2:=jc8 aq' bq';have hn:=jpt (a.num*b.num) (a.den*b.den) (jG (jgk a) (jgk b)) (by omega) (by omega);rw[jkz]at hn;simp only[big,frac,ints]at ra rb m1 m2 hn;refine ja5 [.cell 4 35,.tmp 5] Tryz.func57 ?_;simp only[go_sem];refine ja1 ra ?_;simp only[go_sem];refine ja1 rb ?_;simp only[go_sem];refine jap ?_;simp only[go_sem];refine ja4 m1 (by decide) ?_;simp only[go_sem];refine ja4 m2 (by decide) ?_;simp only[go_sem];refine ja4 hn (by decide) ?_;simp only[go_sem]
theorem num_ne{b:Rat}(h:b≠0):b.num≠0:=fun e=>h (Rat.num_eq_zero.1 e)
theorem divInt_div'(a b:Rat)(h:b≠0):Rat.divInt (a.num*b.den) (a.den*b.num)=a/b:=by
 have e:b⁻¹=Rat.divInt b.den b.num:=by
  conv=>lhs;rw[<-y7 b]
  rw[Rat.inv_divInt]
 rw[Rat.div_def,e,<-Rat.divInt_mul_divInt,y7]
theorem t_pdivf(a b:Rat)(h:b≠0)(ap:(dig a.num.natAbs).length<=19000000000)(aq:(dig a.den).length<=19000000000)(bp:(dig b.num.natAbs).length<=19000000000)(bq:(dig b.den).length<=19000000000):
  Ctr G.P 219 [frac a,frac b] (· = .tup [frac (a/b),.int 0]):=by
 have ra:=jc5 a (by omega) (by omega);have rb:=jc5 b (by omega) (by omega);have bq':(dig (b.den:Int).natAbs).length<=19000000000:=by rw[Int.natAbs_natCast];exact bq
 have aq':(dig (a.den:Int).natAbs).length<=19000000000:=by rw[Int.natAbs_natCast];exact aq
 have m1:=jef a.num b.den (by omega) (by omega);have m2:=jef a.den b.num (by omega) (by omega);have l1:=jc8 ap bq';have l2:=jc8 aq' bp;have hn:=jpt (a.num*b.den) (a.den*b.num) (jG (jgk a) (num_ne h)) (by omega) (by omega);rw[divInt_div' a b h]at hn;have d0:decide (b.num.sign=0)=false:=zw fun e=>num_ne h (yr.1 e);simp only[big,frac,ints]at ra rb m1 m2 hn;refine ja5 [.cell 4 35,.tmp 5] Tryz.func219 ?_;simp only[go_sem];refine ja1 ra ?_;simp only[go_sem];refine ja1 rb ?_;simp only[go_sem];simp only[d0,go_sem];refine jap ?_;simp only[go_sem];refine ja4 m1 (by decide) ?_;simp only[go_sem];refine ja4 m2 (by decide) ?_;simp only[go_sem];refine ja4 hn (by decide) ?_;simp only[go_sem]
theorem jno(z:Int)(h:(dig z.natAbs).length<=1000000000000):Ctr G.P 117 [big z] (· =big z):=by
 have n1:=jlk z h;have n2:=jlk (-z) (by rw[yi];exact h);rw[Int.neg_neg]at n2;simp only[big,ints]at n1 n2;refine ja5 [.cell 2 33] Tryz.func117 ?_;simp only[go_sem];refine ja1 n1 ?_;simp only[go_sem];refine ja1 n2 ?_;simp only[go_sem]
theorem t_pnegf(a:Rat)(ap:(dig a.num.natAbs).length<=50000000000)(aq:(dig a.den).length<=50000000000):Ctr G.P 62 [frac a] (· =frac (-a)):=by
 have ra:=jc5 a (by omega) (by omega);have n1:=jlk a.num (by omega);have n2:=jno a.den (by rw[Int.natAbs_natCast];omega);simp only[big,frac,ints,show(-a).num= -a.num from rfl,show(-a).den=a.den from rfl]at ra n1 n2⊢;refine ja5 [.cell 2 35] Tryz.func62 ?_;simp only[go_sem];refine ja1 ra ?_;simp only[go_sem];refine jap ?_;simp only[go_sem];refine ja4 n1 (by decide) ?_;simp only[go_sem];refine ja4 n2 (by decide) ?_;simp only[go_sem]
theorem t_pmaxf(a b:Rat)(ap:(dig a.num.natAbs).length<=50000000000)(aq:(dig a.den).length<=50000000000)(bp:(dig b.num.natAbs).length<=50000000000)(bq:(dig b.den).length<=50000000000):
  Ctr G.P 168 [frac a,frac b] (· = .tup [frac (if a<b then b else a),.int 0]):=by
 have ra:=jc5 a (by omega) (by omega);have rb:=jc5 b (by omega) (by omega);have hc:=t_pcmpf a b (by omega) (by omega) (by omega) (by omega);have s1:=jno a.num (by omega);have s2:=jno a.den (by rw[Int.natAbs_natCast];omega);have s3:=jno b.num (by omega);have s4:=jno b.den (by rw[Int.natAbs_natCast];omega);have he:Ctr G.P 199 [frac a,frac b,.int 1] (· = .tup [frac (if a<b then b else a),.int 0]):=by
  have hle: -1<=cmpR a b/\cmpR a b<=1:=by unfold cmpR;exact cmpI_le _ _
  have w:=ja8 (n:=cmpR a b*1) (by omega);by_cases h:a<b
  ·have d:decide (cmpR a b*1<0)=true:=zh (by rw[jl];exact cmpR_neg.2 h);rw[zm h];simp only[big,frac,ints]at ra rb hc s3 s4;refine ja5 [.cell 6 35,.tmp 7] Tryz.func199 ?_;simp only[go_sem];refine ja1 ra ?_;simp only[go_sem];refine ja1 rb ?_;simp only[go_sem];refine ja1 hc ?_;simp only[w,d,go_sem];refine jap ?_;simp only[go_sem];refine ja4 s3 (by decide) ?_;simp only[go_sem];refine ja4 s4 (by decide) ?_;simp only[go_sem]
  ·have d:decide (cmpR a b*1<0)=false:=zw (by rw[jl];exact fun e=>h (cmpR_neg.1 e));rw[zn h];simp only[big,frac,ints]at ra rb hc s1 s2;refine ja5 [.cell 6 35,.tmp 7] Tryz.func199 ?_;simp only[go_sem];refine ja1 ra ?_;simp only[go_sem];refine ja1 rb ?_;simp only[go_sem];refine ja1 hc ?_;simp only[w,d,go_sem];refine jap ?_;simp only[go_sem];refine ja4 s1 (by decide) ?_;simp only[go_sem];refine ja4 s2 (by decide) ?_;simp only[go_sem]
 generalize (if a<b then b else a)=c at*;simp only[big,frac,ints]at he;refine ja5 [.cell 4 35,.tmp 5] Tryz.func168 ?_;simp only[go_sem];refine ja1 he ?_;simp only[go_sem]
end
section
open Go.Abs
attribute [local go_sem] ints ic big frac
def FL(k:Nat)(r:Rat):Prop:=(dig r.num.natAbs).length<=k/\(dig r.den).length<=k
theorem FL.mono{k m:Nat}{r:Rat}(h:FL k r)(hk:k<=m):FL m r:=⟨qn h.1 hk,qn h.2 hk⟩
theorem jib{p q:Int}{k:Nat}(hq:q≠0)(hp:(dig p.natAbs).length<=k)(hq':(dig q.natAbs).length<=k):FL k (Rat.divInt p q):=by
 have main:∀P Q:Int,0<Q->(dig P.natAbs).length<=k->(dig Q.natAbs).length<=k->FL k (Rat.divInt P Q):=by
  intro P Q hQ h1 h2;obtain⟨e1,e2⟩:=jm7 (p:=P) hQ;have hg:0<Nat.gcd P.natAbs Q.natAbs:=Nat.gcd_pos_of_pos_right _ (by omega);refine⟨jd2 ?_ h1,jd2 ?_ h2⟩
  ·rw[e1];exact Int.natAbs_ediv_le_natAbs _ _
  ·have h3:(Rat.divInt P Q).den=((Rat.divInt P Q).den:Int).natAbs:=(Int.natAbs_natCast _).symm;rw[h3,e2];exact Int.natAbs_ediv_le_natAbs _ _
 rcases yy hq with h | h
 ·have:=main (-p) (-q) (by omega) (by rw[yi];exact hp) (by rw[yi];exact hq');have e:=Rat.divInt_mul_right (n:=p) (d:=q) (a:= -1) (by decide);rw[y6,y6,jl,jl]at e
  rwa [e]at this
 ·exact main p q h hp hq'
theorem FL_int{n:Int}{k:Nat}(h:(dig n.natAbs).length<=k)(hk:1<=k):FL k (n:Rat):=by
 refine⟨h,?_⟩;have:=jbt (n:=1) (k:=1) (by omega);show(dig 1).length<=k;omega
theorem jbv{n:Int}(h: -9223372036854775808<=n/\n<=9223372036854775807):FL 4 (n:Rat):=FL_int (jki h) (by omega)
theorem jje{a b:Rat}{k m:Nat}(ha:FL k a)(hb:FL m b):FL (k+m+1) (a+b):=by
 rw[<-jl0];have h1:(dig (b.den:Int).natAbs).length<=m:=by rw[Int.natAbs_natCast];exact hb.2
 have h2:(dig (a.den:Int).natAbs).length<=k:=by rw[Int.natAbs_natCast];exact ha.2
 have l1:=jc8 ha.1 h1;have l2:=jc8 hb.1 h2;have l3:=jc8 h2 h1;exact jib (jG (jgk a) (jgk b)) (jqb l1 (by omega)) (by omega)
theorem FL_mul{a b:Rat}{k m:Nat}(ha:FL k a)(hb:FL m b):FL (k+m) (a*b):=by
 rw[<-jkz];have h1:(dig (b.den:Int).natAbs).length<=m:=by rw[Int.natAbs_natCast];exact hb.2
 have h2:(dig (a.den:Int).natAbs).length<=k:=by rw[Int.natAbs_natCast];exact ha.2
 exact jib (jG (jgk a) (jgk b)) (jc8 ha.1 hb.1) (jc8 h2 h1)
theorem jlc{a:Rat}{k:Nat}(ha:FL k a):FL k (-a):=⟨by rw[show(-a).num= -a.num from rfl,yi];exact ha.1,ha.2⟩
theorem FL_sub{a b:Rat}{k m:Nat}(ha:FL k a)(hb:FL m b):FL (k+m+1) (a-b):=by
 have e:a-b=a+ -b:=by grind
 rw[e];exact jje ha (jlc hb)
theorem f_add{a b:Rat}(ha:FL 19000000000 a)(hb:FL 19000000000 b):Ctr G.P 24 [frac a,frac b] (· = .tup [frac (a+b),.int 0]):=t_paddf a b ha.1 ha.2 hb.1 hb.2
theorem f_sub{a b:Rat}(ha:FL 19000000000 a)(hb:FL 19000000000 b):Ctr G.P 124 [frac a,frac b] (· = .tup [frac (a-b),.int 0]):=t_psubf a b ha.1 ha.2 hb.1 hb.2
theorem f_mul{a b:Rat}(ha:FL 19000000000 a)(hb:FL 19000000000 b):Ctr G.P 57 [frac a,frac b] (· = .tup [frac (a*b),.int 0]):=t_pmulf a b ha.1 ha.2 hb.1 hb.2
theorem f_div{a b:Rat}(h:b≠0)(ha:FL 19000000000 a)(hb:FL 19000000000 b):Ctr G.P 219 [frac a,frac b] (· = .tup [frac (a/b),.int 0]):=t_pdivf a b h ha.1 ha.2 hb.1 hb.2
theorem f_neg{a:Rat}(ha:FL 19000000000 a):Ctr G.P 62 [frac a] (· =frac (-a)):=t_pnegf a (by have:=ha.1;omega) (by have:=ha.2;omega)
theorem f_cmp{a b:Rat}(ha:FL 19000000000 a)(hb:FL 19000000000 b):Ctr G.P 28 [frac a,frac b] (· = .int (cmpR a b)):=t_pcmpf a b (by have:=ha.1;omega) (by have:=ha.2;omega) (by have:=hb.1;omega) (by have:=hb.2;omega)
theorem f_max{a b:Rat}(ha:FL 19000000000 a)(hb:FL 19000000000 b):Ctr G.P 168 [frac a,frac b] (· = .tup [frac (if a<b then b else a),.int 0]):=t_pmaxf a b (by have:=ha.1;omega) (by have:=ha.2;omega) (by have:=hb.1;omega) (by have:=hb.2;omega)
theorem jqp{a:Rat}(ha:FL 19000000000 a):Ctr G.P 20 [frac a] (· = .int a.num.sign):=t_psignf a (by have:=ha.1;omega) (by have:=ha.2;omega)
theorem f_right{a:Rat}(ha:FL 19000000000 a):Ctr G.P 63 [frac a] (· = .bool true):=jc5 a (by have:=ha.1;omega) (by have:=ha.2;omega)
end
section
open Go.Abs
structure Place where
 (kind house mat:Int)
 deriving DecidableEq,Inhabited
structure Move where
 (day fr to scale reading:Int)
 all:Bool
 deriving DecidableEq,Inhabited
structure Cert where
 (scale fr until' grams perMille drift:Int)
 deriving DecidableEq,Inhabited
structure Recall where
 (scale since:Int)
 deriving DecidableEq,Inhabited
structure Purity where
 (move mat least most:Int)
 deriving DecidableEq,Inhabited
structure Evid where
 (mats houses scales:Int)
 places:List Place
 moves:List Move
 certs:List Cert
 recalls:List Recall
 purs:List Purity
 deriving DecidableEq,Inhabited
structure Sample where
 move:Int
 grams:List Int
 slack:Int
 deriving DecidableEq,Inhabited
structure Recipe where
 (fr to mat least most:Int)
 deriving DecidableEq,Inhabited
def Place.c(p:Place):List IV:=[.int p.kind,.int p.house,.int p.mat]
def Move.c(p:Move):List IV:=[.int p.day,.int p.fr,.int p.to,.int p.scale,.int p.reading,.bool p.all]
def Cert.c(p:Cert):List IV:=[.int p.scale,.int p.fr,.int p.until',.int p.grams,.int p.perMille,.int p.drift]
def Recall.c(p:Recall):List IV:=[.int p.scale,.int p.since]
def Purity.c(p:Purity):List IV:=[.int p.move,.int p.mat,.int p.least,.int p.most]
def Sample.c(p:Sample):List IV:=[.int p.move,ints p.grams,.int p.slack]
def Recipe.c(p:Recipe):List IV:=[.int p.fr,.int p.to,.int p.mat,.int p.least,.int p.most]
def Evid.c(e:Evid):List IV:=[.int e.mats,.int e.houses,.int e.scales,.sl (e.places.map Place.c),.sl (e.moves.map Move.c),.sl (e.certs.map Cert.c),.sl (e.recalls.map Recall.c),.sl (e.purs.map Purity.c)]
def Evid.iv(e:Evid):IV:= .agg e.c
theorem Place.len(p:Place):p.c.length=3:=rfl
theorem Move.len(p:Move):p.c.length=6:=rfl
theorem Cert.len(p:Cert):p.c.length=6:=rfl
theorem Recall.len(p:Recall):p.c.length=2:=rfl
theorem Purity.len(p:Purity):p.c.length=4:=rfl
theorem Sample.len(p:Sample):p.c.length=3:=rfl
theorem Recipe.len(p:Recipe):p.c.length=5:=rfl
theorem take_succ{α:Type}{l:List α}{i:Nat}{x:α}(h:l[i]? =some x):l.take (i+1)=l.take i++[x]:=by
 rw[yW,h];rfl
end
section
open Go.Abs
def idx(i n:Int):Bool:=decide (0<=i)&&decide (i<n)
def btw(n a b:Int):Bool:=decide (a<=n)&&decide (n<=b)
theorem idx_iff{i n:Int}:idx i n=true↔0<=i/\i<n:=by simp[idx]
theorem btw_iff{n a b:Int}:btw n a b=true↔a<=n/\n<=b:=by simp[btw]
theorem c68(n a b:Int):Ctr G.P 139 [.int n,.int a,.int b] (· = .bool (btw n a b)):=by
 unfold btw;refine ja5 [.tmp 6] Tryz.func139 ?_;simp only[go_sem]
 repeat' (refine jd8 (fun hd hp=> ?_) (fun hd hp=> ?_)<;>simp only[hd,go_sem])
theorem c67(i n:Int):Ctr G.P 101 [.int i,.int n] (· = .bool (idx i n)):=by
 unfold idx;refine ja5 [.tmp 4] Tryz.func101 ?_;simp only[go_sem]
 repeat' (refine jd8 (fun hd hp=> ?_) (fun hd hp=> ?_)<;>simp only[hd,go_sem])
attribute [irreducible] idx btw
end
section
open Go.Abs
attribute [local go_sem] Evid.iv Evid.c Place.c Move.c Cert.c Recall.c Purity.c Sample.c Recipe.c ints ic
theorem jcp{α:Type}{l:List α}{f:α->Bool}{i:Nat}{x:α}(h:l[i]? =some x):(l.take (i+1)).all f=((l.take i).all f&&f x):=by
 rw[take_succ h,List.all_append];simp
theorem jgp{α:Type}{l:List α}{f:α->Bool}{i:Nat}{x:α}(h:l[i]? =some x)(hf:f x=false):l.all f=false:=by
 rw[List.all_eq_false];exact⟨x,zr h,by simp[hf]⟩
def jhu(e:Evid)(p:Place):Bool:=idx p.kind 7&&(if p.kind=0 then idx p.house e.houses&&idx p.mat e.mats else decide (p.house= -1)&&decide (p.mat= -1))
theorem c47(e:Evid)(hl:e.places.length<=1000):Ctr G.P 88 [e.iv] (· = .bool (e.places.all (jhu e))):=by
 refine ja5 [.tmp 2] Tryz.func88 ?_;unfold Evid.iv Evid.c;simp only[go_sem];refine jau [1,6,7,8] [1] (fun i:Nat=>⟨[(1,.loc 1 8 0 0),(6,.im (.sl (e.places.map Place.c))),(7,.im (.int e.places.length)),(8,.im (.int i))],[(1,8,[e.c])],[]⟩)
  (fun i=>i<=e.places.length/\(e.places.take i).all (jhu e)=true) (fun i=>e.places.length-i) 0 ?_ ⟨zH _,rfl⟩ ?_
 ·simp only[Evid.c,Int.natCast_zero,go_sem]
 ·intro i ⟨hi,ha⟩;simp only[go_sem];refine jd8 (fun hd hp=> ?_) (fun hd hp=> ?_)
  ·obtain⟨x,hx⟩:∃x,e.places[i]? =some x:=⟨_,ze (by omega)⟩;have h1:=ja8 (n:=(i:Int)+1) (by omega);have hat:=jcp (f:=jhu e) hx;simp only[hd,zq,hx,Place.c,Evid.c,go_sem]
   repeat' (first | (refine jd7 (fun hd=> ?_) (fun hd=> ?_)<;>simp only[*,go_sem]) | (refine jbs (c67 _ _) (by first | decide | assumption) ?_;simp only[*,go_sem]) | (refine ja4 (c67 _ _) (by decide) ?_;simp only[*,go_sem]))
   all_goals first
    | (refine jac (i+1) ?_ ?_ ⟨?_,?_⟩
       ·simp only[h1,Evid.c,Int.natCast_add,go_sem]
       ·omega
       ·omega
       ·rw[hat,ha,qG];clear hat ha h1;simp_all[jhu]
       done)
    | (rw[jgp hx (by clear hat ha h1;simp_all[jhu])];done)
  ·simp only[hd,go_sem];rw[zG (by omega)]at ha;rw[ha]
end
section
open Go.Abs
attribute [local go_sem] Evid.iv Evid.c Place.c Move.c Cert.c Recall.c Purity.c Sample.c Recipe.c ints ic
end
section
open Go.Abs
attribute [local go_sem] Evid.iv Evid.c Place.c Move.c Cert.c Recall.c Purity.c Sample.c Recipe.c ints ic
end
section
open Go.Abs
attribute [local go_sem] Evid.iv Evid.c Place.c Move.c Cert.c Recall.c Purity.c Sample.c Recipe.c ints ic
def pairC(p:Int×Int):List IV:=[.int p.1,.int p.2]
def pairs(e:Evid):List (Int×Int):=[(e.mats,6),(e.houses,100),(e.scales,30),(e.places.length,100),(e.moves.length,200),(e.certs.length,100),(e.recalls.length,30),(e.purs.length,200)]
def fitP(p:Int×Int):Bool:= !decide (p.2<p.1)
theorem c46(e:Evid):Ctr G.P 87 [e.iv] (· = .bool (!(pairs e).all fitP)):=by
 refine ja5 [.tmp 2] Tryz.func87 ?_;unfold Evid.iv Evid.c;simp only[go_sem];refine jau [34,35,36] [] (fun i:Nat=>⟨[(34,.sx ((pairs e).map pairC)),(35,.im (.int 8)),(36,.im (.int i))],[],[]⟩)
  (fun i=>i<=8/\((pairs e).take i).all fitP=true) (fun i=>8-i) 0 ?_ ⟨zH _,rfl⟩ ?_
 ·simp only[pairs,pairC,Int.natCast_zero,go_sem]
 ·intro i ⟨hi,ha⟩;simp only[go_sem];refine jd8 (fun hd hp=> ?_) (fun hd hp=> ?_)
  ·obtain⟨x,hx⟩:∃x,(pairs e)[i]? =some x:=⟨_,ze (by simp[pairs];omega)⟩;have h1:=ja8 (n:=(i:Int)+1) (by omega);have hat:=jcp (f:=fitP) hx;simp only[hd,zq,hx,pairC,go_sem]
   repeat' (first | (refine jd7 (fun hd=> ?_) (fun hd=> ?_)<;>simp only[*,go_sem]) | (refine jbs (c67 _ _) (by first | decide | assumption) ?_;simp only[*,go_sem]) | (refine ja4 (c67 _ _) (by decide) ?_;simp only[*,go_sem]))
   all_goals first
    | (refine jac (i+1) ?_ ?_ ⟨?_,?_⟩
       ·simp only[h1,Int.natCast_add,go_sem]
       ·omega
       ·omega
       ·rw[hat,ha,qG];clear hat ha h1;simp_all[fitP]
       done)
    | (rw[jgp hx (by clear hat ha h1;simp_all[fitP])];rfl)
  ·simp only[hd,go_sem];rw[zG (by simp[pairs];omega)]at ha;rw[ha];simp only[go_sem]
end
section
open Go.Abs
attribute [local go_sem] Evid.iv Evid.c Place.c Move.c Cert.c Recall.c Purity.c Sample.c Recipe.c ints ic
def jcz(e:Evid)(i:Int):Int:=match e.places[i.toNat]? with
 | some p=>p.kind
 | none=>0
theorem jge{e:Evid}{i:Int}{p:Place}(h:e.places[i.toNat]? =some p):jcz e i=p.kind:=by simp[jcz,h]
def moveF(e:Evid)(m:Move):Bool:=
 idx m.fr e.places.length&&idx m.to e.places.length&& !decide (m.fr=m.to)&& !decide (jcz e m.fr=5)&& !decide (jcz e m.fr=6)&& !(decide (jcz e m.fr=0)&&m.all)&& !decide (jcz e m.to=0)&&
  (if m.scale= -1 then decide (m.reading=0)else idx m.scale e.scales&&btw m.reading 0 1099511627776)
theorem at_idx{α:Type}{l:List α}{i:Int}(h:idx i l.length=true):∃x,l[i.toNat]? =some x/\0<=i:=by
 rw[idx_iff]at h;exact⟨_,ze (by omega),h.1⟩
theorem c48(e:Evid)(m:Move):Ctr G.P 89 [e.iv,.agg m.c] (· = .bool (moveF e m)):=by
 rcases hf:idx m.fr e.places.length with _ | _
 ·have hm:moveF e m=false:=by simp[moveF,hf]
  refine ja5 [.tmp 4] Tryz.func89 ?_;unfold Evid.iv Evid.c Move.c;rw[hm];simp only[go_sem]
  repeat' (first | (refine jd7 (fun hd=> ?_) (fun hd=> ?_)<;>simp only[*,go_sem]) | (refine jbs (c67 _ _) (by first | decide | assumption) ?_;simp only[*,go_sem]) | (refine ja4 (c67 _ _) (by decide) ?_;simp only[*,go_sem]))
 ·obtain⟨p,hp,h0⟩:=at_idx hf;have hkp:=jge hp;rcases ht:idx m.to e.places.length with _ | _
  ·have hm:moveF e m=false:=by simp[moveF,ht]
   refine ja5 [.tmp 4] Tryz.func89 ?_;unfold Evid.iv Evid.c Move.c;rw[hm];simp only[go_sem]
   repeat' (first | (refine jd7 (fun hd=> ?_) (fun hd=> ?_)<;>simp only[*,go_sem]) | (refine jbs (c67 _ _) (by first | decide | assumption) ?_;simp only[*,go_sem]) | (refine ja4 (c67 _ _) (by decide) ?_;simp only[*,go_sem]))
  ·obtain⟨q,hq,h1⟩:=at_idx ht;have hkq:=jge hq;have hm:moveF e m=(!decide (m.fr=m.to)&& !decide (p.kind=5)&& !decide (p.kind=6)&& !(decide (p.kind=0)&&m.all)&& !decide (q.kind=0)&&
    (if m.scale= -1 then decide (m.reading=0)else idx m.scale e.scales&&btw m.reading 0 1099511627776)):=by simp[moveF,hf,ht,hkp,hkq]
   refine ja5 [.tmp 4] Tryz.func89 ?_;unfold Evid.iv Evid.c Move.c;rw[hm];clear hm hkp hkq;simp only[go_sem]
   repeat' (first | (refine jd7 (fun hd=> ?_) (fun hd=> ?_)<;>simp only[*,zq,Place.c,go_sem]) | (refine jbs (c67 _ _) (by first | decide | assumption) ?_;simp only[*,zq,Place.c,go_sem]) | (refine jbs (c68 _ _ _) (by first | decide | assumption) ?_;simp only[*,zq,Place.c,go_sem]) | (refine ja4 (c67 _ _) (by decide) ?_;simp only[*,zq,Place.c,go_sem]) | (refine ja4 (c68 _ _ _) (by decide) ?_;simp only[*,zq,Place.c,go_sem]))
   all_goals simp_all
end
section
open Go.Abs
attribute [local go_sem] Evid.iv Evid.c Place.c Move.c Cert.c Recall.c Purity.c Sample.c Recipe.c ints ic
def certF(e:Evid)(c:Cert):Bool:=decide (0<=c.fr)&&decide (c.fr<=c.until')&&decide (c.until'<=100000)&&idx c.scale e.scales&&btw c.grams 0 1099511627776&&btw c.perMille 0 1000&&btw c.drift 0 10000000
def jij(e:Evid)(r:Recall):Bool:=idx r.scale e.scales&&btw r.since 0 100000
def purF(e:Evid)(p:Purity):Bool:=idx p.move e.moves.length&&idx p.mat e.mats&& !decide (p.least<0)&& !decide (p.most<p.least)&& !decide (1000<p.most)
def saidF(e:Evid):Bool:=e.certs.all (certF e)&&e.recalls.all (jij e)&&e.purs.all (purF e)
theorem jd6{α:Type}{l:List α}{i:Nat}(h:(i:Int)<l.length):∃x,l[i]? =some x:=⟨_,ze (by omega)⟩
theorem c49(e:Evid)(h5:e.certs.length<=1000)(h6:e.recalls.length<=1000)(h7:e.purs.length<=1000):Ctr G.P 90 [e.iv] (· = .bool (saidF e)):=by
 refine ja5 [.tmp 2] Tryz.func90 ?_;unfold Evid.iv Evid.c;simp only[go_sem];refine jau [1,11,12,13] [1] (fun i:Nat=>⟨[(1,.loc 1 8 0 0),(11,.im (.sl (e.certs.map Cert.c))),(12,.im (.int e.certs.length)),(13,.im (.int i))],[(1,8,[e.c])],[]⟩)
  (fun i=>i<=e.certs.length/\(e.certs.take i).all (certF e)=true) (fun i=>e.certs.length-i) 0 ?_ ⟨zH _,rfl⟩ ?_
 ·simp only[Evid.c,Int.natCast_zero,go_sem]
 ·intro i ⟨hi,ha⟩;by_cases hp:(i:Int)<e.certs.length
  ·have hd:decide ((i:Int)<e.certs.length)=true:=zh hp;obtain⟨x,hx⟩:=jd6 hp;have h1:=ja8 (n:=(i:Int)+1) (by omega);have hat:=jcp (f:=certF e) hx;have hn:certF e x=false->saidF e=false:=fun h=>by simp[saidF,jgp hx h]
   simp only[hd,zq,hx,Cert.c,Evid.c,go_sem]
   repeat' (first | (refine jd7 (fun hd=> ?_) (fun hd=> ?_)<;>simp only[*,go_sem]) | (refine jbs (c67 _ _) (by first | decide | assumption) ?_;simp only[*,go_sem]) | (refine jbs (c68 _ _ _) (by first | decide | assumption) ?_;simp only[*,go_sem]) | (refine ja4 (c67 _ _) (by decide) ?_;simp only[*,go_sem]) | (refine ja4 (c68 _ _ _) (by decide) ?_;simp only[*,go_sem]))
   all_goals first
    | (refine jac (i+1) ?_ ?_ ⟨?_,?_⟩
       ·simp only[h1,Evid.c,Int.natCast_add,go_sem]
       ·omega
       ·omega
       ·rw[hat,ha,qG];clear hn hat ha h1;simp_all[certF]
       done)
    | (rw[hn (by clear hn hat ha h1;simp_all[certF]<;>(intros;omega))];done)
  ·have hd:decide ((i:Int)<e.certs.length)=false:=zw hp;rw[zG (by omega)]at ha;simp only[hd,Evid.c,go_sem];clear hd hp hi;refine jau [1,62,63,64] [1] (fun i:Nat=>⟨[(1,.loc 1 8 0 0),(62,.im (.sl (e.recalls.map Recall.c))),(63,.im (.int e.recalls.length)),(64,.im (.int i))],[(1,8,[e.c])],[]⟩)
    (fun i=>i<=e.recalls.length/\(e.recalls.take i).all (jij e)=true) (fun i=>e.recalls.length-i) 0 ?_ ⟨zH _,rfl⟩ ?_
   ·simp only[Evid.c,Int.natCast_zero,go_sem]
   ·intro i ⟨hi,hb⟩;by_cases hp:(i:Int)<e.recalls.length
    ·have hd:decide ((i:Int)<e.recalls.length)=true:=zh hp;obtain⟨x,hx⟩:=jd6 hp;have h1:=ja8 (n:=(i:Int)+1) (by omega);have hat:=jcp (f:=jij e) hx;have hn:jij e x=false->saidF e=false:=fun h=>by simp[saidF,jgp hx h]
     simp only[hd,zq,hx,Recall.c,Evid.c,go_sem]
     repeat' (first | (refine jd7 (fun hd=> ?_) (fun hd=> ?_)<;>simp only[*,go_sem]) | (refine jbs (c67 _ _) (by first | decide | assumption) ?_;simp only[*,go_sem]) | (refine jbs (c68 _ _ _) (by first | decide | assumption) ?_;simp only[*,go_sem]) | (refine ja4 (c67 _ _) (by decide) ?_;simp only[*,go_sem]) | (refine ja4 (c68 _ _ _) (by decide) ?_;simp only[*,go_sem]))
     all_goals first
      | (refine jac (i+1) ?_ ?_ ⟨?_,?_⟩
         ·simp only[h1,Evid.c,Int.natCast_add,go_sem]
         ·omega
         ·omega
         ·rw[hat,hb,qG];clear hn hat hb h1;simp_all[jij]
         done)
      | (rw[hn (by clear hn hat hb h1;simp_all[jij])];done)
    ·have hd:decide ((i:Int)<e.recalls.length)=false:=zw hp;rw[zG (by omega)]at hb;simp only[hd,Evid.c,go_sem];clear hd hp hi;refine jau [1,82,83,84] [1] (fun i:Nat=>⟨[(1,.loc 1 8 0 0),(82,.im (.sl (e.purs.map Purity.c))),(83,.im (.int e.purs.length)),(84,.im (.int i))],[(1,8,[e.c])],[]⟩)
      (fun i=>i<=e.purs.length/\(e.purs.take i).all (purF e)=true) (fun i=>e.purs.length-i) 0 ?_ ⟨zH _,rfl⟩ ?_
     ·simp only[Evid.c,Int.natCast_zero,go_sem]
     ·intro i ⟨hi,hc⟩;by_cases hp:(i:Int)<e.purs.length
      ·have hd:decide ((i:Int)<e.purs.length)=true:=zh hp;obtain⟨x,hx⟩:=jd6 hp;have h1:=ja8 (n:=(i:Int)+1) (by omega);have hat:=jcp (f:=purF e) hx;have hn:purF e x=false->saidF e=false:=fun h=>by simp[saidF,jgp hx h]
       simp only[hd,zq,hx,Purity.c,Evid.c,go_sem]
       repeat' (first | (refine jd7 (fun hd=> ?_) (fun hd=> ?_)<;>simp only[*,go_sem]) | (refine jbs (c67 _ _) (by first | decide | assumption) ?_;simp only[*,go_sem]) | (refine jbs (c68 _ _ _) (by first | decide | assumption) ?_;simp only[*,go_sem]) | (refine ja4 (c67 _ _) (by decide) ?_;simp only[*,go_sem]) | (refine ja4 (c68 _ _ _) (by decide) ?_;simp only[*,go_sem]))
       all_goals first
        | (refine jac (i+1) ?_ ?_ ⟨?_,?_⟩
           ·simp only[h1,Evid.c,Int.natCast_add,go_sem]
           ·omega
           ·omega
           ·rw[hat,hc,qG];clear hn hat hc h1;simp_all[purF]
           done)
        | (rw[hn (by clear hn hat hc h1;simp_all[purF])];done)
      ·have hd:decide ((i:Int)<e.purs.length)=false:=zw hp;rw[zG (by omega)]at hc;simp only[hd,go_sem];simp[saidF,ha,hb,hc]
end
section
open Go.Abs
attribute [local go_sem] Evid.iv Evid.c Place.c Move.c Cert.c Recall.c Purity.c Sample.c Recipe.c ints ic
def jdb(e:Evid):Int->List Move->Int
 | _,[]=>0
 | last,m::r=>if decide (m.day<last)=true then 17 else if decide (100000<m.day)=true then 17 else if moveF e m=false then 1 else jdb e m.day r
def jbi(e:Evid):Int:=
 if(pairs e).all fitP=false then 6 else if decide (e.mats<1)=true then 1 else if decide (e.houses<0)=true then 1 else if decide (e.scales<0)=true then 1 else if e.places.all (jhu e)=false then 1 else
 if jdb e 0 e.moves≠0 then jdb e 0 e.moves else if saidF e=true then 0 else 1
theorem drop_cons{α:Type}{l:List α}{i:Nat}{x:α}(h:l[i]? =some x):l.drop i=x::l.drop (i+1):=by
 obtain⟨hi,rfl⟩:=zt.1 h;exact yp hi
theorem jip{e:Evid}(h:(pairs e).all fitP=true):e.places.length<=100/\e.moves.length<=200/\e.certs.length<=100/\e.recalls.length<=30/\e.purs.length<=200/\e.mats<=6/\e.houses<=100/\e.scales<=30:=by
 simp[pairs,fitP]at h;omega
theorem c21(e:Evid):Ctr G.P 38 [e.iv] (· = .int (jbi e)):=by
 have h46:=c46 e;rcases hf:(pairs e).all fitP with _ | _
 ·have hc:jbi e=6:=by simp[jbi,hf]
  rw[hf]at h46;refine ja5 [.tmp 2] Tryz.func38 ?_;unfold Evid.iv Evid.c;rw[hc];simp only[go_sem];refine ja1 h46 ?_;simp only[go_sem]
 ·obtain⟨l1,l2,l3,l4,l5,_,_,_⟩:=jip hf;have h47:=c47 e (by omega);have h49:=c49 e (by omega) (by omega) (by omega);rw[hf]at h46;have hc:jbi e=if decide (e.mats<1)=true then 1 else if decide (e.houses<0)=true then 1 else if decide (e.scales<0)=true then 1 else if e.places.all (jhu e)=false then 1 else
   if jdb e 0 e.moves≠0 then jdb e 0 e.moves else if saidF e=true then 0 else 1:=by simp[jbi,hf]
  clear hf;refine ja5 [.tmp 2] Tryz.func38 ?_;rw[hc];clear hc;generalize hpl:e.places.all (jhu e)=pl at*;generalize hsd:saidF e=sd at*;unfold Evid.iv Evid.c;simp only[go_sem];refine ja1 h46 ?_;simp only[go_sem]
  repeat' (first | (refine jd7 (fun hd=> ?_) (fun hd=> ?_)<;>simp only[*,go_sem]) | (refine jbs (h47) (by first | decide | assumption) ?_;simp only[*,go_sem]) | (refine ja4 (h47) (by decide) ?_;simp only[*,go_sem]))
  rename_i k1 k2 k3 k4;clear h47 h46;refine jau [1,3,29,30,31] [1] (fun g:Nat×Int=>⟨[(1,.loc 1 8 0 0),(3,.im (.int g.2)),(29,.im (.sl (e.moves.map Move.c))),(30,.im (.int e.moves.length)),(31,.im (.int g.1))],[(1,8,[e.c])],[]⟩)
   (fun g=>g.1<=e.moves.length/\jdb e 0 e.moves=jdb e g.2 (e.moves.drop g.1)) (fun g=>e.moves.length-g.1) (0,0) ?_ ⟨zH _,rfl⟩ ?_
  ·simp only[Evid.c,Int.natCast_zero,go_sem]
  ·intro⟨i,last⟩ ⟨hi,ha⟩;dsimp only at hi ha;by_cases hp:(i:Int)<e.moves.length
   ·have hd:decide ((i:Int)<e.moves.length)=true:=zh hp;obtain⟨x,hx⟩:=jd6 hp;have h1:=ja8 (n:=(i:Int)+1) (by omega);rw[drop_cons hx,jdb]at ha;simp only[hd,zq,hx,Move.c,Evid.c,go_sem]
    repeat' (first | (refine jd7 (fun hd=> ?_) (fun hd=> ?_)<;>simp only[*,go_sem]) | (refine jbs (c48 e x) (by first | decide | assumption) ?_;simp only[*,go_sem]) | (refine ja4 (c48 e x) (by decide) ?_;simp only[*,go_sem]))
    refine jac (i+1,x.day) ?_ ?_ ⟨?_,?_⟩
    ·simp only[h1,Evid.c,Int.natCast_add,go_sem]
    ·show e.moves.length-(i+1)<e.moves.length-i;omega
    ·show i+1<=e.moves.length;omega
    ·rw[ha];simp only[*,yj,Bool.true_eq_false,qp]
   ·have hd:decide ((i:Int)<e.moves.length)=false:=zw hp;have hi':e.moves.drop i=[]:=qd (by omega);rw[hi',jdb]at ha;simp only[hd,Evid.c,go_sem];refine ja1 h49 ?_;simp only[*,go_sem]
    repeat' (first | (refine jd7 (fun hd=> ?_) (fun hd=> ?_)<;>simp only[*,go_sem]) | (refine jbs (h49) (by first | decide | assumption) ?_;simp only[*,go_sem]) | (refine ja4 (h49) (by decide) ?_;simp only[*,go_sem]))
end
section
open Go.Abs
attribute [local go_sem] Evid.iv Evid.c Place.c Move.c Cert.c Recall.c Purity.c Sample.c Recipe.c ints ic
theorem jl3{e:Evid}(h:jbi e=0):e.places.length<=100/\e.moves.length<=200/\e.certs.length<=100/\e.recalls.length<=30/\e.purs.length<=200/\e.mats<=6/\e.houses<=100/\e.scales<=30:=by
 refine jip ?_;by_cases hf:(pairs e).all fitP=true
 ·exact hf
 ·simp only[Bool.not_eq_true]at hf;unfold jbi at h;rw[zm hf]at h;cases h
end
section
open Go.Abs
attribute [local go_sem] Evid.iv Evid.c Place.c Move.c Cert.c Recall.c Purity.c Sample.c Recipe.c ints ic
end
section
open Go.Abs
attribute [local go_sem] Evid.iv Evid.c Place.c Move.c Cert.c Recall.c Purity.c Sample.c Recipe.c ints ic
def purs(l:List Purity):IV:= .sl (l.map Purity.c)
end
section
open Go.Abs
attribute [local go_sem] Evid.iv Evid.c Place.c Move.c Cert.c Recall.c Purity.c Sample.c Recipe.c ints ic
theorem any_take_succ{α:Type}{l:List α}{f:α->Bool}{i:Nat}{x:α}(h:l[i]? =some x):(l.take (i+1)).any f=((l.take i).any f || f x):=by
 rw[take_succ h,List.any_append];simp
theorem any_at{α:Type}{l:List α}{f:α->Bool}{i:Nat}{x:α}(h:l[i]? =some x)(hf:f x=true):l.any f=true:=
 jb.2 ⟨x,zr h,hf⟩
