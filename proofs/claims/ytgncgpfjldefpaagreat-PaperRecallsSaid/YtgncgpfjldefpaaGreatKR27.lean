/- A part of the proof. No further condition. -/
import Derived.Test.YtgncgpfjldefpaaGreatKR26
import Init
set_option linter.all false
set_option maxRecDepth 10000000
set_option maxHeartbeats 16000000
namespace Go.Proofs.YtgncgpfjldefpaaGreat
section
open Go.Abs
attribute [local go_sem] ints ic big frac
theorem jqo(p q:Int)(hq:q≠0)(lp:(dig p.natAbs).length<=40000000000)(lq:(dig q.natAbs).length<=40000000000):Ctr G.P 104 [big p,big q] (· = .tup [frac (Rat.divInt p q),.int 0]):=by
 have rp:=jcs p (by omega);have rq:=jcs q (by omega);have d0:decide (q.sign=0)=false:=za fun h=>hq (yB.1 h);have main:∀P Q:Int,0<Q->(dig P.natAbs).length<=40000000000->(dig Q.natAbs).length<=40000000000->Rat.divInt P Q=Rat.divInt p q->
   Ctr G.P 92 [big P,big Q] (· = .tup [big (Nat.gcd P.natAbs Q.natAbs:Nat),.int 0])/\
   Ctr G.P 89 [big P,big (Nat.gcd P.natAbs Q.natAbs:Nat)] (· = .tup [big (Rat.divInt p q).num,big (P.fmod (Nat.gcd P.natAbs Q.natAbs:Nat)),.int 0])/\
   Ctr G.P 89 [big Q,big (Nat.gcd P.natAbs Q.natAbs:Nat)] (· = .tup [big ((Rat.divInt p q).den:Int),big (Q.fmod (Nat.gcd P.natAbs Q.natAbs:Nat)),.int 0]):=by
  intro P Q hQ lP lQ he;obtain⟨e1,e2⟩:=jmm (p:=P) hQ;rw[he]at e1 e2;rw[e1,e2];have hgp:Nat.gcd P.natAbs Q.natAbs≠0:=fun h=>by have:=Nat.eq_zero_of_gcd_eq_zero_right h;omega
  have hgl:(dig (Nat.gcd P.natAbs Q.natAbs)).length<=40000000000:=jdb (Nat.le_of_dvd (by omega) (Nat.gcd_dvd_right _ _)) lQ;have k1:=jpo P (Nat.gcd P.natAbs Q.natAbs:Nat) (by omega) (by omega) (by rw[Int.natAbs_natCast];omega);have k2:=jpo Q (Nat.gcd P.natAbs Q.natAbs:Nat) (by omega) (by omega) (by rw[Int.natAbs_natCast];omega);rw[yo _ (by omega)]at k1 k2;exact⟨t_pgcd P Q (by omega) (by omega),k1,k2⟩
 rcases q8 hq with hlt | hgt
 ·have d1:decide (q.sign<0)=true:=by rw[zR hlt];rfl
  have n1:=jm1 p (by omega);have n2:=jm1 q (by omega);obtain⟨hg,hd1,hd2⟩:=main (-p) (-q) (by omega) (by rw[ye];exact lp) (by rw[ye];exact lq) (by have:=Rat.divInt_mul_right (n:=p) (d:=q) (a:= -1) (by decide);rwa [jv,jv,je,je]at this);simp only[big,frac,ints]at rp rq n1 n2 hg hd1 hd2;refine ja4 [.cell 4 69,.tmp 5] Tryz.func104 ?_;simp only[go_sem];refine ja1 rp ?_;simp only[go_sem];refine ja1 rq ?_;simp only[d0,d1,go_sem];refine jam ?_;simp only[go_sem];refine ja6 n1 (by decide) ?_;simp only[go_sem];refine ja6 n2 (by decide) ?_;simp only[go_sem];refine ja1 hg ?_;simp only[go_sem];refine ja1 hd1 ?_;simp only[go_sem];refine ja1 hd2 ?_;simp only[go_sem]
 ·have d1:decide (q.sign<0)=false:=by rw[zW hgt];rfl
  obtain⟨hg,hd1,hd2⟩:=main p q hgt lp lq rfl;simp only[big,frac,ints]at rp rq hg hd1 hd2;refine ja4 [.cell 4 69,.tmp 5] Tryz.func104 ?_;simp only[go_sem];refine ja1 rp ?_;simp only[go_sem];refine ja1 rq ?_;simp only[d0,d1,go_sem];refine ja1 hg ?_;simp only[go_sem];refine ja1 hd1 ?_;simp only[go_sem];refine ja1 hd2 ?_;simp only[go_sem]
theorem jl1{p:Int}(hp: -9223372036854775808<=p/\p<=9223372036854775807):(dig p.natAbs).length<=4:=jc7 (by omega)
theorem t_poff(p q:Int)(hq:q≠0)(hp: -9223372036854775808<=p/\p<=9223372036854775807)(hq': -9223372036854775808<=q/\q<=9223372036854775807):
  Ctr G.P 132 [.int p,.int q] (· = .tup [frac (Rat.divInt p q),.int 0]):=by
 have o1:=t_pof p hp;have o2:=t_pof q hq';have hn:=jqo p q hq (by have:=jl1 hp;omega) (by have:=jl1 hq';omega);simp only[big,frac,ints]at o1 o2 hn;refine ja4 [.cell 4 69,.tmp 5] Tryz.func132 ?_;simp only[go_sem];refine ja1 o1 ?_;simp only[go_sem];refine ja1 o2 ?_;simp only[go_sem];refine ja1 hn ?_;simp only[go_sem]
theorem jcg(n:Int)(hn: -9223372036854775808<=n/\n<=9223372036854775807):Ctr G.P 79 [.int n] (· =frac (n:Rat)):=by
 have o1:=t_pof n hn;have o2:=t_pof 1 (by omega);have e1:((n:Rat)).num=n:=rfl;have e2:((n:Rat)).den=1:=rfl;simp only[big,frac,ints,e1,e2]at o1 o2⊢;refine ja4 [.cell 2 69] Tryz.func79 ?_;simp only[go_sem];refine ja1 o1 ?_;simp only[go_sem];refine ja1 o2 ?_;simp only[go_sem]
theorem jlh(a b:Rat):Rat.divInt (a.num*b.den+b.num*a.den) (a.den*b.den)=a+b:=by
 rw[<-Rat.divInt_add_divInt _ _ (jh8 a) (jh8 b),jx,jx]
theorem jlg(a b:Rat):Rat.divInt (a.num*b.num) (a.den*b.den)=a*b:=by
 rw[<-Rat.divInt_mul_divInt,jx,jx]
theorem jrc{a b:Int}{k:Nat}(ha:(dig a.natAbs).length<=k)(hb:(dig b.natAbs).length<=k):(dig (a+b).natAbs).length<=k+1:=len_add ha hb (by omega)
theorem t_paddf(a b:Rat)(ap:(dig a.num.natAbs).length<=19000000000)(aq:(dig a.den).length<=19000000000)(bp:(dig b.num.natAbs).length<=19000000000)(bq:(dig b.den).length<=19000000000):
  Ctr G.P 81 [frac a,frac b] (· = .tup [frac (a+b),.int 0]):=by
 have ra:=jcf a (by omega) (by omega);have rb:=jcf b (by omega) (by omega);have bq':(dig (b.den:Int).natAbs).length<=19000000000:=by rw[Int.natAbs_natCast];exact bq
 have aq':(dig (a.den:Int).natAbs).length<=19000000000:=by rw[Int.natAbs_natCast];exact aq
 have m1:=jew a.num b.den (by omega) (by omega);have m2:=jew b.num a.den (by omega) (by omega);have m3:=jew a.den b.den (by omega) (by omega);have l1:=jcp ap bq';have l2:=jcp bp aq';have l3:=jcp aq' bq';have hs:=t_paddb (a.num*b.den) (b.num*a.den) (by omega) (by omega);have hn:=jqo (a.num*b.den+b.num*a.den) (a.den*b.den) (jQ (jh8 a) (jh8 b)) (by have:=jrc (k:=38000000000) (a:=a.num*b.den) (b:=b.num*a.den) (by omega) (by omega);omega) (by omega);rw[jlh]at hn;simp only[big,frac,ints]at ra rb m1 m2 m3 hs hn;refine ja4 [.cell 4 69,.tmp 5] Tryz.func81 ?_;simp only[go_sem];refine ja1 ra ?_;simp only[go_sem];refine ja1 rb ?_;simp only[go_sem];refine jam ?_;simp only[go_sem];refine ja6 m1 (by decide) ?_;simp only[go_sem];refine ja6 m2 (by decide) ?_;simp only[go_sem];refine ja6 hs (by decide) ?_;simp only[go_sem];refine jam ?_;simp only[go_sem];refine ja6 m3 (by decide) ?_;simp only[go_sem];refine ja6 hn (by decide) ?_;simp only[go_sem]
theorem t_psubf(a b:Rat)(ap:(dig a.num.natAbs).length<=19000000000)(aq:(dig a.den).length<=19000000000)(bp:(dig b.num.natAbs).length<=19000000000)(bq:(dig b.den).length<=19000000000):
  Ctr G.P 84 [frac a,frac b] (· = .tup [frac (a-b),.int 0]):=by
 have ra:=jcf a (by omega) (by omega);have rb:=jcf b (by omega) (by omega);have hn:=jm1 b.num (by omega);have hs:=t_paddf a (-b) ap aq (by rw[show(-b).num= -b.num from rfl,ye];exact bp) bq;have e:a+ -b=a-b:=by grind
 rw[e]at hs;simp only[big,frac,ints,show(-b).num= -b.num from rfl,show(-b).den=b.den from rfl]at ra rb hn hs;refine ja4 [.cell 4 69,.tmp 5] Tryz.func84 ?_;simp only[go_sem];refine ja1 ra ?_;simp only[go_sem];refine ja1 rb ?_;simp only[go_sem];refine jam ?_;simp only[go_sem];refine ja6 hn (by decide) ?_;simp only[go_sem];refine ja6 hs (by decide) ?_;simp only[go_sem]
end
section
open Go.Abs
attribute [local go_sem] ints ic big frac
theorem t_pmulf(a b:Rat)(ap:(dig a.num.natAbs).length<=19000000000)(aq:(dig a.den).length<=19000000000)(bp:(dig b.num.natAbs).length<=19000000000)(bq:(dig b.den).length<=19000000000):
  Ctr G.P 83 [frac a,frac b] (· = .tup [frac (a*b),.int 0]):=by
 have ra:=jcf a (by omega) (by omega);have rb:=jcf b (by omega) (by omega);have bq':(dig (b.den:Int).natAbs).length<=19000000000:=by rw[Int.natAbs_natCast];exact bq
 have aq':(dig (a.den:Int).natAbs).length<=19000000000:=by rw[Int.natAbs_natCast];exact aq
 have m1:=jew a.num b.num (by omega) (by omega);have m2:=jew a.den b.den (by omega) (by omega);have l1:=jcp ap bp;have l2:=jcp aq' bq';have hn:=jqo (a.num*b.num) (a.den*b.den) (jQ (jh8 a) (jh8 b)) (by omega) (by omega);rw[jlg]at hn;simp only[big,frac,ints]at ra rb m1 m2 hn;refine ja4 [.cell 4 69,.tmp 5] Tryz.func83 ?_;simp only[go_sem];refine ja1 ra ?_;simp only[go_sem];refine ja1 rb ?_;simp only[go_sem];refine jam ?_;simp only[go_sem];refine ja6 m1 (by decide) ?_;simp only[go_sem];refine ja6 m2 (by decide) ?_;simp only[go_sem];refine ja6 hn (by decide) ?_;simp only[go_sem]
theorem num_ne{b:Rat}(h:b≠0):b.num≠0:=fun e=>h (Rat.num_eq_zero.1 e)
theorem divInt_div'(a b:Rat)(h:b≠0):Rat.divInt (a.num*b.den) (a.den*b.num)=a/b:=by
 have e:b⁻¹=Rat.divInt b.den b.num:=by
  conv=>lhs;rw[<-jx b]
  rw[Rat.inv_divInt]
 rw[Rat.div_def,e,<-Rat.divInt_mul_divInt,jx]
theorem t_pdivf(a b:Rat)(h:b≠0)(ap:(dig a.num.natAbs).length<=19000000000)(aq:(dig a.den).length<=19000000000)(bp:(dig b.num.natAbs).length<=19000000000)(bq:(dig b.den).length<=19000000000):
  Ctr G.P 203 [frac a,frac b] (· = .tup [frac (a/b),.int 0]):=by
 have ra:=jcf a (by omega) (by omega);have rb:=jcf b (by omega) (by omega);have bq':(dig (b.den:Int).natAbs).length<=19000000000:=by rw[Int.natAbs_natCast];exact bq
 have aq':(dig (a.den:Int).natAbs).length<=19000000000:=by rw[Int.natAbs_natCast];exact aq
 have m1:=jew a.num b.den (by omega) (by omega);have m2:=jew a.den b.num (by omega) (by omega);have l1:=jcp ap bq';have l2:=jcp aq' bp;have hn:=jqo (a.num*b.den) (a.den*b.num) (jQ (jh8 a) (num_ne h)) (by omega) (by omega);rw[divInt_div' a b h]at hn;have d0:decide (b.num.sign=0)=false:=za fun e=>num_ne h (yB.1 e);simp only[big,frac,ints]at ra rb m1 m2 hn;refine ja4 [.cell 4 69,.tmp 5] Tryz.func203 ?_;simp only[go_sem];refine ja1 ra ?_;simp only[go_sem];refine ja1 rb ?_;simp only[go_sem];simp only[d0,go_sem];refine jam ?_;simp only[go_sem];refine ja6 m1 (by decide) ?_;simp only[go_sem];refine ja6 m2 (by decide) ?_;simp only[go_sem];refine ja6 hn (by decide) ?_;simp only[go_sem]
theorem joc(z:Int)(h:(dig z.natAbs).length<=1000000000000):Ctr G.P 139 [big z] (· =big z):=by
 have n1:=jm1 z h;have n2:=jm1 (-z) (by rw[ye];exact h);rw[Int.neg_neg]at n2;simp only[big,ints]at n1 n2;refine ja4 [.cell 2 67] Tryz.func139 ?_;simp only[go_sem];refine ja1 n1 ?_;simp only[go_sem];refine ja1 n2 ?_;simp only[go_sem]
theorem t_pnegf(a:Rat)(ap:(dig a.num.natAbs).length<=50000000000)(aq:(dig a.den).length<=50000000000):Ctr G.P 114 [frac a] (· =frac (-a)):=by
 have ra:=jcf a (by omega) (by omega);have n1:=jm1 a.num (by omega);have n2:=joc a.den (by rw[Int.natAbs_natCast];omega);simp only[big,frac,ints,show(-a).num= -a.num from rfl,show(-a).den=a.den from rfl]at ra n1 n2⊢;refine ja4 [.cell 2 69] Tryz.func114 ?_;simp only[go_sem];refine ja1 ra ?_;simp only[go_sem];refine jam ?_;simp only[go_sem];refine ja6 n1 (by decide) ?_;simp only[go_sem];refine ja6 n2 (by decide) ?_;simp only[go_sem]
theorem t_pmaxf(a b:Rat)(ap:(dig a.num.natAbs).length<=50000000000)(aq:(dig a.den).length<=50000000000)(bp:(dig b.num.natAbs).length<=50000000000)(bq:(dig b.den).length<=50000000000):
  Ctr G.P 108 [frac a,frac b] (· = .tup [frac (if a<b then b else a),.int 0]):=by
 have ra:=jcf a (by omega) (by omega);have rb:=jcf b (by omega) (by omega);have hc:=t_pcmpf a b (by omega) (by omega) (by omega) (by omega);have s1:=joc a.num (by omega);have s2:=joc a.den (by rw[Int.natAbs_natCast];omega);have s3:=joc b.num (by omega);have s4:=joc b.den (by rw[Int.natAbs_natCast];omega);have he:Ctr G.P 133 [frac a,frac b,.int 1] (· = .tup [frac (if a<b then b else a),.int 0]):=by
  have hle: -1<=cmpR a b/\cmpR a b<=1:=by unfold cmpR;exact cmpI_le _ _
  have w:=ja9 (n:=cmpR a b*1) (by omega);by_cases h:a<b
  ·have d:decide (cmpR a b*1<0)=true:=zk (by rw[je];exact cmpR_neg.2 h);rw[zn h];simp only[big,frac,ints]at ra rb hc s3 s4;refine ja4 [.cell 6 69,.tmp 7] Tryz.func133 ?_;simp only[go_sem];refine ja1 ra ?_;simp only[go_sem];refine ja1 rb ?_;simp only[go_sem];refine ja1 hc ?_;simp only[w,d,go_sem];refine jam ?_;simp only[go_sem];refine ja6 s3 (by decide) ?_;simp only[go_sem];refine ja6 s4 (by decide) ?_;simp only[go_sem]
  ·have d:decide (cmpR a b*1<0)=false:=za (by rw[je];exact fun e=>h (cmpR_neg.1 e));rw[zp h];simp only[big,frac,ints]at ra rb hc s1 s2;refine ja4 [.cell 6 69,.tmp 7] Tryz.func133 ?_;simp only[go_sem];refine ja1 ra ?_;simp only[go_sem];refine ja1 rb ?_;simp only[go_sem];refine ja1 hc ?_;simp only[w,d,go_sem];refine jam ?_;simp only[go_sem];refine ja6 s1 (by decide) ?_;simp only[go_sem];refine ja6 s2 (by decide) ?_;simp only[go_sem]
 generalize (if a<b then b else a)=c at*;simp only[big,frac,ints]at he;refine ja4 [.cell 4 69,.tmp 5] Tryz.func108 ?_;simp only[go_sem];refine ja1 he ?_;simp only[go_sem]
end
section
open Go.Abs
attribute [local go_sem] ints ic big frac
def FL(k:Nat)(r:Rat):Prop:=(dig r.num.natAbs).length<=k/\(dig r.den).length<=k
theorem FL.mono{k m:Nat}{r:Rat}(h:FL k r)(hk:k<=m):FL m r:=⟨qA h.1 hk,qA h.2 hk⟩
theorem jiv{p q:Int}{k:Nat}(hq:q≠0)(hp:(dig p.natAbs).length<=k)(hq':(dig q.natAbs).length<=k):FL k (Rat.divInt p q):=by
 have main:∀P Q:Int,0<Q->(dig P.natAbs).length<=k->(dig Q.natAbs).length<=k->FL k (Rat.divInt P Q):=by
  intro P Q hQ h1 h2;obtain⟨e1,e2⟩:=jmm (p:=P) hQ;have hg:0<Nat.gcd P.natAbs Q.natAbs:=Nat.gcd_pos_of_pos_right _ (by omega);refine⟨jdb ?_ h1,jdb ?_ h2⟩
  ·rw[e1];exact Int.natAbs_ediv_le_natAbs _ _
  ·have h3:(Rat.divInt P Q).den=((Rat.divInt P Q).den:Int).natAbs:=(Int.natAbs_natCast _).symm;rw[h3,e2];exact Int.natAbs_ediv_le_natAbs _ _
 rcases q8 hq with h | h
 ·have:=main (-p) (-q) (by omega) (by rw[ye];exact hp) (by rw[ye];exact hq');have e:=Rat.divInt_mul_right (n:=p) (d:=q) (a:= -1) (by decide);rw[jv,jv,je,je]at e
  rwa [e]at this
 ·exact main p q h hp hq'
theorem FL_int{n:Int}{k:Nat}(h:(dig n.natAbs).length<=k)(hk:1<=k):FL k (n:Rat):=by
 refine⟨h,?_⟩;have:=jc7 (n:=1) (k:=1) (by omega);show(dig 1).length<=k;omega
theorem jcc{n:Int}(h: -9223372036854775808<=n/\n<=9223372036854775807):FL 4 (n:Rat):=FL_int (jl1 h) (by omega)
theorem jjy{a b:Rat}{k m:Nat}(ha:FL k a)(hb:FL m b):FL (k+m+1) (a+b):=by
 rw[<-jlh];have h1:(dig (b.den:Int).natAbs).length<=m:=by rw[Int.natAbs_natCast];exact hb.2
 have h2:(dig (a.den:Int).natAbs).length<=k:=by rw[Int.natAbs_natCast];exact ha.2
 have l1:=jcp ha.1 h1;have l2:=jcp hb.1 h2;have l3:=jcp h2 h1;exact jiv (jQ (jh8 a) (jh8 b)) (jrc l1 (by omega)) (by omega)
theorem jlr{a b:Rat}{k m:Nat}(ha:FL k a)(hb:FL m b):FL (k+m) (a*b):=by
 rw[<-jlg];have h1:(dig (b.den:Int).natAbs).length<=m:=by rw[Int.natAbs_natCast];exact hb.2
 have h2:(dig (a.den:Int).natAbs).length<=k:=by rw[Int.natAbs_natCast];exact ha.2
 exact jiv (jQ (jh8 a) (jh8 b)) (jcp ha.1 hb.1) (jcp h2 h1)
theorem jmx{a:Rat}{k:Nat}(ha:FL k a):FL k (-a):=⟨by rw[show(-a).num= -a.num from rfl,ye];exact ha.1,ha.2⟩
theorem js7{a b:Rat}{k m:Nat}(ha:FL k a)(hb:FL m b):FL (k+m+1) (a-b):=by
 have e:a-b=a+ -b:=by grind
 rw[e];exact jjy ha (jmx hb)
theorem f_add{a b:Rat}(ha:FL 19000000000 a)(hb:FL 19000000000 b):Ctr G.P 81 [frac a,frac b] (· = .tup [frac (a+b),.int 0]):=t_paddf a b ha.1 ha.2 hb.1 hb.2
theorem f_sub{a b:Rat}(ha:FL 19000000000 a)(hb:FL 19000000000 b):Ctr G.P 84 [frac a,frac b] (· = .tup [frac (a-b),.int 0]):=t_psubf a b ha.1 ha.2 hb.1 hb.2
theorem f_mul{a b:Rat}(ha:FL 19000000000 a)(hb:FL 19000000000 b):Ctr G.P 83 [frac a,frac b] (· = .tup [frac (a*b),.int 0]):=t_pmulf a b ha.1 ha.2 hb.1 hb.2
theorem f_div{a b:Rat}(h:b≠0)(ha:FL 19000000000 a)(hb:FL 19000000000 b):Ctr G.P 203 [frac a,frac b] (· = .tup [frac (a/b),.int 0]):=t_pdivf a b h ha.1 ha.2 hb.1 hb.2
theorem f_neg{a:Rat}(ha:FL 19000000000 a):Ctr G.P 114 [frac a] (· =frac (-a)):=t_pnegf a (by have:=ha.1;omega) (by have:=ha.2;omega)
theorem f_cmp{a b:Rat}(ha:FL 19000000000 a)(hb:FL 19000000000 b):Ctr G.P 23 [frac a,frac b] (· = .int (cmpR a b)):=t_pcmpf a b (by have:=ha.1;omega) (by have:=ha.2;omega) (by have:=hb.1;omega) (by have:=hb.2;omega)
theorem f_max{a b:Rat}(ha:FL 19000000000 a)(hb:FL 19000000000 b):Ctr G.P 108 [frac a,frac b] (· = .tup [frac (if a<b then b else a),.int 0]):=t_pmaxf a b (by have:=ha.1;omega) (by have:=ha.2;omega) (by have:=hb.1;omega) (by have:=hb.2;omega)
theorem f_sign{a:Rat}(ha:FL 19000000000 a):Ctr G.P 80 [frac a] (· = .int a.num.sign):=t_psignf a (by have:=ha.1;omega) (by have:=ha.2;omega)
theorem f_right{a:Rat}(ha:FL 19000000000 a):Ctr G.P 60 [frac a] (· = .bool true):=jcf a (by have:=ha.1;omega) (by have:=ha.2;omega)
end
section
open Go.Abs
attribute [local go_sem] Cert.c Recall.c ints ic big frac
theorem jij(n m:Int):Ctr G.P 131 [.int n,.int m] (· = .bool (btw n 0 m)):=by
 unfold btw;refine ja4 [.tmp 4] Tryz.func131 ?_;simp only[go_sem]
 repeat' (refine jde (fun hd hp=> ?_) (fun hd hp=> ?_)<;>simp only[hd,go_sem])
def jnv(c:Cert):Bool:=decide (0<=c.fr)&&decide (c.fr<=c.until')&&decide (c.until'<=100000)
def jg1(c:Cert):Bool:=jnv c&&btw c.scale 0 29&&btw c.grams 0 1099511627776&&btw c.perMille 0 1000&&btw c.drift 0 10000000
theorem h_right(c:Cert):Ctr G.P 147 [.agg c.c] (· = .bool (jg1 c)):=by
 have a1:=jij c.scale 29;have a2:=jij c.grams 1099511627776;have a3:=jij c.perMille 1000;have a4:=jij c.drift 10000000;generalize hb1:btw c.scale 0 29=b1 at*;generalize hb2:btw c.grams 0 1099511627776=b2 at*;generalize hb3:btw c.perMille 0 1000=b3 at*;generalize hb4:btw c.drift 0 10000000=b4 at*;generalize hd1:decide (0<=c.fr)=d1;generalize hd2:decide (c.fr<=c.until')=d2;generalize hd3:decide (c.until'<=100000)=d3;have hr:jg1 c=(d1&&d2&&d3&&b1&&b2&&b3&&b4):=by simp only[jg1,jnv,hb1,hb2,hb3,hb4,hd1,hd2,hd3]
 rw[hr];refine ja4 [.tmp 2] Tryz.func147 ?_;unfold Cert.c;simp only[hd1,hd2,hd3,go_sem]
 repeat' (first | (refine jcm (fun hd=> ?_) (fun hd=> ?_)<;>simp only[*,hd1,hd2,hd3,go_sem]) | (refine jbp (a1) (by first | decide | assumption) ?_;simp only[*,hd1,hd2,hd3,go_sem]) | (refine jbp (a2) (by first | decide | assumption) ?_;simp only[*,hd1,hd2,hd3,go_sem]) | (refine jbp (a3) (by first | decide | assumption) ?_;simp only[*,hd1,hd2,hd3,go_sem]) | (refine jbp (a4) (by first | decide | assumption) ?_;simp only[*,hd1,hd2,hd3,go_sem]) | (refine ja6 (a1) (by decide) ?_;simp only[*,hd1,hd2,hd3,go_sem]) | (refine ja6 (a2) (by decide) ?_;simp only[*,hd1,hd2,hd3,go_sem]) | (refine ja6 (a3) (by decide) ?_;simp only[*,hd1,hd2,hd3,go_sem]) | (refine ja6 (a4) (by decide) ?_;simp only[*,hd1,hd2,hd3,go_sem]))
 all_goals simp_all
def jeb(c:Cert)(day:Int):Bool:=jg1 c&&decide (c.fr<=day)&&decide (day<=c.until')
theorem jrj(c:Cert)(day:Int):Ctr G.P 128 [.agg c.c,.int day] (· = .bool (jeb c day)):=by
 have a1:=h_right c;generalize hb1:jg1 c=b1 at*;generalize hd1:decide (c.fr<=day)=d1;generalize hd2:decide (day<=c.until')=d2;have hr:jeb c day=(b1&&d1&&d2):=by simp only[jeb,hb1,hd1,hd2]
 rw[hr];refine ja4 [.tmp 4] Tryz.func128 ?_;unfold Cert.c at a1⊢;simp only[hd1,hd2,go_sem]
 repeat' (first | (refine jcm (fun hd=> ?_) (fun hd=> ?_)<;>simp only[*,hd1,hd2,go_sem]) | (refine jbp (a1) (by first | decide | assumption) ?_;simp only[*,hd1,hd2,go_sem]) | (refine ja6 (a1) (by decide) ?_;simp only[*,hd1,hd2,go_sem]))
 all_goals simp_all
def pickF(l:List Cert)(sc day:Int)(b:Nat×Bool)(c:Cert):Bool:=
 decide (c.scale=sc)&&jeb c day&&(!b.2 || decide ((l[b.1]?.elim 0 Cert.fr)<=c.fr))
def jeu(l:List Cert)(sc day:Int):Nat->Nat×Bool
 | 0=>(0,false)
 | i+1=>if(l[i]?.elim false (pickF l sc day (jeu l sc day i)))=true then(i,true)else jeu l sc day i
theorem jl9(l:List Cert)(sc day:Int)(i:Nat):(jeu l sc day i).2=true->(jeu l sc day i).1<i/\∃c,l[(jeu l sc day i).1]? =some c/\jeb c day=true:=by
 induction i with
 | zero=>intro h;cases h
 | succ i ih=>
  rw[jeu];split
  ·rename_i h;intro _;refine⟨by dsimp only;omega,?_⟩;dsimp only;rcases hx:l[i]? with _ | c
   ·rw[hx]at h;cases h
   ·rw[hx]at h;refine⟨c,rfl,?_⟩;simp only[Option.elim,pickF,zB]at h;exact h.1.2
  ·intro h;obtain⟨h1,h2⟩:=ih h;exact⟨by omega,h2⟩
theorem jf8{l:List Cert}{sc day:Int}{i:Nat}{c:Cert}(h:l[i]? =some c):jeu l sc day (i+1)=if pickF l sc day (jeu l sc day i) c=true then(i,true)else jeu l sc day i:=by
 rw[jeu,h];rfl
def findF(l:List Cert)(sc day:Int):Nat×Bool:=jeu l sc day l.length
theorem h_find(l:List Cert)(sc day:Int)(hl:l.length<=100000):Ctr G.P 105 [.sl (l.map Cert.c),.int sc,.int day] (· = .tup [.int (findF l sc day).1,.bool (findF l sc day).2]):=by
 unfold findF;refine ja4 [.tmp 6,.tmp 7] Tryz.func105 ?_;simp only[go_sem];refine jao [0,1,2,8,9,12,13,14] [] (fun i:Nat=>⟨[(0,.im (.sl (l.map Cert.c))),(1,.im (.int sc)),(2,.im (.int day)),(8,.im (.int (jeu l sc day i).1)),(9,.im (.bool (jeu l sc day i).2)),(12,.im (.sl (l.map Cert.c))),(13,.im (.int l.length)),(14,.im (.int i))],[],[]⟩)
  (fun i=>i<=l.length) (fun i=>l.length-i) 0 ?_ (zG _) ?_
 ·simp only[jeu,Int.natCast_zero,go_sem]
 ·intro i hi;by_cases hp:(i:Int)<l.length
  ·have hd:decide ((i:Int)<l.length)=true:=zk hp;obtain⟨x,hx⟩:=jbq hp;have h1:=ja9 (n:=(i:Int)+1) (by omega);have hc:=jrj x day;have hsp:=jl9 l sc day i;rcases hbf:jeu l sc day i with ⟨b,f⟩;rw[hbf]at hsp;dsimp only at hsp⊢;simp only[Cert.c]at hc;rcases hs:decide (x.scale=sc)with _ | _
   ·simp only[hd,zq,hx,go_sem];refine jai 23 ?_;simp only[hs,zq,hx,go_sem];refine jad (i+1) ?_ (by omega) (by omega);rw[jf8 hx,zp (by simp[pickF, *]),hbf];simp only[h1,Int.natCast_add,go_sem]
   ·rcases hv:jeb x day with _ | _
    ·rw[hv]at hc;simp only[hd,zq,hx,go_sem];refine jai 23 ?_;simp only[hs,zq,hx,go_sem];refine ja6 hc (by decide) ?_;simp only[go_sem];refine jad (i+1) ?_ (by omega) (by omega);rw[jf8 hx,zp (by simp[pickF, *]),hbf];simp only[h1,Int.natCast_add,go_sem]
    ·rw[hv]at hc;rcases f with _ | _
     ·simp only[hd,zq,hx,go_sem];refine jai 23 ?_;simp only[hs,zq,hx,go_sem];refine ja6 hc (by decide) ?_;simp only[go_sem];refine jad (i+1) ?_ (by omega) (by omega);rw[jf8 hx,zn (by simp[pickF, *])];simp only[h1,Int.natCast_add,go_sem]
     ·obtain⟨_,y,hy,_⟩:=hsp rfl;have hg:l[b]?.elim 0 Cert.fr=y.fr:=by rw[hy];rfl
      rcases hk:decide (y.fr<=x.fr)with _ | _
      ·simp only[hd,zq,hx,go_sem];refine jai 23 ?_;simp only[hs,zq,hx,hy,hk,go_sem];refine ja6 hc (by decide) ?_;simp only[hs,zq,hx,hy,hk,go_sem];refine jad (i+1) ?_ (by omega) (by omega);rw[jf8 hx,zp (by simp[pickF, *]),hbf];simp only[h1,Int.natCast_add,go_sem]
      ·simp only[hd,zq,hx,go_sem];refine jai 23 ?_;simp only[hs,zq,hx,hy,hk,go_sem];refine ja6 hc (by decide) ?_;simp only[hs,zq,hx,hy,hk,go_sem];refine jad (i+1) ?_ (by omega) (by omega);rw[jf8 hx,zn (by simp[pickF, *])];simp only[h1,Int.natCast_add,go_sem]
  ·have hd:decide ((i:Int)<l.length)=false:=za hp;have:i=l.length:=by omega
   subst this;simp only[hd,go_sem]
def recF(sc day:Int)(x:Recall):Bool:=decide (x.scale=sc)&&decide (x.since<=day)
theorem h_rec1(x:Recall)(sc day:Int):Ctr G.P 130 [.agg x.c,.ip [.int sc] 0,.ip [.int day] 0] (· = .bool (recF sc day x)):=by
 unfold recF;refine ja4 [.tmp 4] Tryz.func130 ?_;unfold Recall.c;simp only[go_sem]
 repeat' (refine jde (fun hd hp=> ?_) (fun hd hp=> ?_)<;>simp only[hd,go_sem])
theorem h_irec(l:List Recall)(hl:l.length<=100000)(p:Recall->Bool)(g:Nat)(caps:List IV)(hg:3<=g/\g<G.fns)(hc:∀x:Recall,Ctr G.P g (.agg x.c::caps) (· = .bool (p x))):
  Ctr G.P 148 [.sl (l.map Recall.c),.clo g caps] (fun r=>∃k:Int,r= .int k/\decide (0<=k)=l.any p):=by
 refine ja4 [.tmp 4] Tryz.func148 ?_;simp only[go_sem];refine jao [0,1,7,8] [] (fun i:Nat=>⟨[(0,.im (.sl (l.map Recall.c))),(1,.im (.clo g caps)),(7,.im (.int l.length)),(8,.im (.int i))],[],[]⟩)
  (fun i=>i<=l.length/\(l.take i).any p=false) (fun i=>l.length-i) 0 ?_ ⟨zG _,rfl⟩ ?_
 ·simp only[Int.natCast_zero,go_sem]
 ·intro i ⟨hi,ha⟩;by_cases hp:(i:Int)<l.length
  ·have hd:decide ((i:Int)<l.length)=true:=zk hp;obtain⟨x,hx⟩:=jbq hp;have h1:=ja9 (n:=(i:Int)+1) (by omega);have hcx:=hc x;simp only[Recall.c]at hcx;simp only[hd,zq,hx,go_sem];refine jbp hcx hg ?_;simp only[go_sem];refine jcm (fun he=> ?_) (fun he=> ?_)
   ·simp only[he,go_sem];exact⟨i,rfl,by rw[jjv hx he];simp⟩
   ·simp only[he,go_sem];refine jad (i+1) ?_ (by omega) ⟨by omega,by rw[jci hx,ha,he];rfl⟩;simp only[h1,Int.natCast_add,go_sem]
  ·have hd:decide ((i:Int)<l.length)=false:=za hp;rw[zD (by omega)]at ha;simp only[hd,go_sem];exact⟨-1,rfl,by rw[ha];rfl⟩
theorem h_crec(l:List Recall)(hl:l.length<=100000)(p:Recall->Bool)(g:Nat)(caps:List IV)(hg:3<=g/\g<G.fns)(hc:∀x:Recall,Ctr G.P g (.agg x.c::caps) (· = .bool (p x))):
  Ctr G.P 129 [.sl (l.map Recall.c),.clo g caps] (· = .bool (l.any p)):=by
 have h:=h_irec l hl p g caps hg hc;refine ja4 [.tmp 4] Tryz.func129 ?_;simp only[go_sem];refine jdf h ?_;rintro r ⟨k,rfl,hk⟩;rw[<-hk];simp only[go_sem]
theorem h_recalled(l:List Recall)(sc day:Int)(hl:l.length<=100000):Ctr G.P 106 [.sl (l.map Recall.c),.int sc,.int day] (· = .bool (l.any (recF sc day))):=by
 have h:=h_crec l hl (recF sc day) 130 [.ip [.int sc] 0,.ip [.int day] 0] (by decide) (fun x=>h_rec1 x sc day);refine ja4 [.tmp 6] Tryz.func106 ?_;simp only[go_sem];refine ja1 h ?_;simp only[go_sem]
end
section
open Go.Abs
attribute [local go_sem] Cert.c Recall.c ints ic big frac
def zf:IV:= .agg [.int 0,.sl [],.int 0,.sl []]
def errF(c:Cert)(rd day:Int):Rat:=Rat.divInt (c.perMille*rd) 1000+((c.grams+c.drift*(day-c.fr):Int):Rat)
theorem js9{c:Cert}{rd day:Int}(h:jeb c day=true)(hr:0<=rd/\rd<=1099511627776):
  FL 9 (errF c rd day)/\FL 4 (Rat.divInt (c.perMille*rd) 1000)/\FL 4 ((c.grams+c.drift*(day-c.fr):Int):Rat)/\(0<=c.perMille*rd/\c.perMille*rd<=1099511627776000)/\(0<=c.drift*(day-c.fr)/\c.drift*(day-c.fr)<=1000000000000)/\
  (0<=c.grams/\c.grams<=1099511627776)/\(0<=day-c.fr/\day-c.fr<=100000):=by
 simp only[jeb,jg1,jnv,zB,zU,btw_iff]at h;obtain⟨⟨⟨⟨⟨⟨⟨⟨a1,a2⟩,a3⟩,_⟩,g1,g2⟩,p1,p2⟩,d1,d2⟩,f1⟩,u1⟩:=h;have m1:0<=c.perMille*rd:=qN p1 hr.1;have m2:c.perMille*rd<=1000*1099511627776:=jX p2 hr.2 hr.1 (by omega);have n1:0<=c.drift*(day-c.fr):=qN d1 (by omega);have n2:c.drift*(day-c.fr)<=10000000*100000:=jX d2 (by omega) (by omega) (by omega);have k1:FL 4 (Rat.divInt (c.perMille*rd) 1000):=jiv (by omega) (jl1 (by omega)) (jl1 (by omega));have k2:FL 4 ((c.grams+c.drift*(day-c.fr):Int):Rat):=jcc (by omega);exact⟨jjy k1 k2,k1,k2,by omega,by omega,by omega,by omega⟩
def errIV(c:Cert)(rd day:Int):IV:=if(jeb c day&&btw rd 0 1099511627776)=true then .tup [frac (errF c rd day),.bool true]else .tup [zf,.bool false]
theorem h_error(c:Cert)(rd day:Int):Ctr G.P 107 [.agg c.c,.int rd,.int day] (· =errIV c rd day):=by
 have hc:=jrj c day;have hw:=jij rd 1099511627776;unfold errIV;rcases hv:jeb c day with _ | _
 ·rw[hv]at hc;rw[qa,zp qV];unfold zf;simp only[Cert.c]at hc⊢;refine ja4 [.cell 6 69,.tmp 7] Tryz.func107 ?_;simp only[go_sem];refine ja1 hc ?_;simp only[go_sem]
 ·rw[hv]at hc;rw[qx];rcases hb:btw rd 0 1099511627776 with _ | _
  ·rw[hb]at hw;rw[zp qV];unfold zf;simp only[Cert.c]at hc⊢;refine ja4 [.cell 6 69,.tmp 7] Tryz.func107 ?_;simp only[go_sem];refine ja1 hc ?_;simp only[go_sem];refine ja1 hw ?_;simp only[go_sem]
  ·rw[hb]at hw;rw[zn rfl];obtain⟨k0,k1,k2,m1,m2,m3,m4⟩:=js9 hv (btw_iff.1 hb);have ho:=t_poff (c.perMille*rd) 1000 (by omega) (by omega) (by omega);have hi:=jcg (c.grams+c.drift*(day-c.fr)) (by omega);have hs:=f_add (k1.mono (by omega:4<=19000000000)) (k2.mono (by omega:4<=19000000000));have w1:=ja9 (n:=c.perMille*rd) (by omega);have w2:=ja9 (n:=day-c.fr) (by omega);have w3:=ja9 (n:=c.drift*(day-c.fr)) (by omega);have w4:=ja9 (n:=c.grams+c.drift*(day-c.fr)) (by omega);unfold errF;generalize Rat.divInt (c.perMille*rd) 1000=r1 at*;generalize ((c.grams+c.drift*(day-c.fr):Int):Rat)=r2 at*;generalize r1+r2=r3 at*;simp only[Cert.c,big,frac,ints]at hc ho hi hs⊢;refine ja4 [.cell 6 69,.tmp 7] Tryz.func107 ?_;simp only[go_sem];refine ja1 hc ?_;simp only[go_sem];refine ja1 hw ?_;simp only[w1,go_sem];refine ja1 ho ?_;simp only[go_sem];refine jam ?_;simp only[w2,w3,w4,go_sem];refine ja6 hi (by decide) ?_;simp only[go_sem];refine ja6 hs (by decide) ?_;simp only[go_sem]
def ivlF(cs:List Cert)(rs:List Recall)(sc rd day:Int):Option (Rat×Rat):=
 if(findF cs sc day).2=false then none
 else if rs.any (recF sc day)=true then none
 else match cs[(findF cs sc day).1]? with
  | none=>none
  | some c=>if(jeb c day&&btw rd 0 1099511627776)=true then
    some (if(rd:Rat)-errF c rd day<((0:Int):Rat)then((0:Int):Rat)else(rd:Rat)-errF c rd day,(rd:Rat)+errF c rd day)else none
def ivlIV(r:Option (Rat×Rat)):IV:=match r with
 | none=> .tup [zf,zf,.bool false]
 | some (a,b)=> .tup [frac a,frac b,.bool true]
theorem FL_ivl{cs:List Cert}{rs:List Recall}{sc rd day:Int}{a b:Rat}(h:ivlF cs rs sc rd day=some (a,b)):FL 14 a/\FL 14 b:=by
 unfold ivlF at h;split at h
 ·cases h
 split at h
 ·cases h
 split at h
 ·cases h
 rename_i c _;split at h
 ·rename_i hv;rw[zB]at hv;have hb:=btw_iff.1 hv.2;obtain⟨k0,_⟩:=js9 hv.1 hb;have k4:FL 4 (rd:Rat):=jcc (by omega);injection h with h;injection h with h1 h2;subst h1 h2;refine⟨?_,(jjy k4 k0).mono (by omega)⟩;split
  ·exact(jcc (by omega)).mono (by omega)
  ·exact(js7 k4 k0).mono (by omega)
 ·cases h
theorem h_ivl(cs:List Cert)(rs:List Recall)(sc rd day:Int)(l1:cs.length<=100000)(l2:rs.length<=100000):
  Ctr G.P 82 [.sl (cs.map Cert.c),.sl (rs.map Recall.c),.int sc,.int rd,.int day] (· =ivlIV (ivlF cs rs sc rd day)):=by
 have hf:=h_find cs sc day l1;have hr:=h_recalled rs sc day l2;have hsp:=jl9 cs sc day cs.length;unfold ivlF;rw[show jeu cs sc day cs.length=findF cs sc day from rfl]at hsp;generalize findF cs sc day=bf at*;obtain⟨b,f⟩:=bf;dsimp only at hf hsp⊢;rcases f with _ | _
 ·rw[zn rfl];unfold ivlIV zf;refine ja4 [.cell 10 69,.cell 11 69,.tmp 12] Tryz.func82 ?_;simp only[go_sem];refine ja1 hf ?_;simp only[go_sem]
 rw[zp (by decide)];rcases ha:rs.any (recF sc day)with _ | _
 ·rw[ha]at hr;rw[zp (by decide)];obtain⟨_,c,hx,_⟩:=hsp rfl;rw[hx];dsimp only;have he:=h_error c rd day;unfold errIV at he;rcases hv:(jeb c day&&btw rd 0 1099511627776)with _ | _
  ·rw[hv,zp qV]at he;rw[zp qV];unfold ivlIV;unfold zf at he⊢;simp only[Cert.c]at he;refine ja4 [.cell 10 69,.cell 11 69,.tmp 12] Tryz.func82 ?_;simp only[go_sem];refine ja1 hf ?_;simp only[go_sem];refine ja1 hr ?_;simp only[zq,hx,go_sem];refine ja1 he ?_;simp only[go_sem]
  ·rw[hv,zn rfl]at he;rw[zn rfl];unfold ivlIV;rw[zB]at hv;have hb:=btw_iff.1 hv.2;obtain⟨k0,_⟩:=js9 hv.1 hb;have k4:FL 4 (rd:Rat):=jcc (by omega);have o1:=jcg rd (by omega);have o2:=jcg 0 (by omega);have z4:FL 4 ((0:Int):Rat):=jcc (by omega);generalize errF c rd day=e at*;have s1:=f_sub (k4.mono (by omega:4<=19000000000)) (k0.mono (by omega:9<=19000000000));have s2:=f_add (k4.mono (by omega:4<=19000000000)) (k0.mono (by omega:9<=19000000000));have s3:=f_max ((js7 k4 k0).mono (by omega:14<=19000000000)) (z4.mono (by omega:4<=19000000000));generalize hzz:((0:Int):Rat)=zz at*;generalize (rd:Rat)=rr at*;generalize rr-e=lo at*;generalize rr+e=hi at*;dsimp only;generalize (if lo<zz then zz else lo)=mx at*;simp only[Cert.c,big,frac,ints]at he o1 o2 s1 s2 s3⊢;refine ja4 [.cell 10 69,.cell 11 69,.tmp 12] Tryz.func82 ?_;simp only[go_sem];refine ja1 hf ?_;simp only[go_sem];refine ja1 hr ?_;simp only[zq,hx,go_sem];refine ja1 he ?_;simp only[go_sem];refine ja1 o1 ?_;simp only[go_sem];refine ja1 s1 ?_;simp only[go_sem];refine ja1 s2 ?_;simp only[go_sem];refine jam ?_;simp only[go_sem];refine ja6 o2 (by decide) ?_;simp only[go_sem];refine ja6 s3 (by decide) ?_;simp only[go_sem];refine DrawE_of ?_;refine jsb 0 1 (by decide+kernel) rfl rfl ?_ ?_
   ·simp only[go_sem];refine jsb 1 2 (by decide+kernel) rfl rfl ?_ ?_
    ·simp only[go_sem];refine jej 2 (by decide+kernel) rfl ?_;simp only[go_sem];refine jej 3 (by decide+kernel) rfl ?_;simp only[go_sem];refine jej 4 (by decide+kernel) rfl ?_;simp only[go_sem];refine jo6 (by decide+kernel) ?_;simp only[go_sem]
    ·simp only[go_sem];refine jej 1 (by decide+kernel) rfl ?_;simp only[go_sem];refine jej 3 (by decide+kernel) rfl ?_;simp only[go_sem];refine jej 4 (by decide+kernel) rfl ?_;simp only[go_sem];refine jo6 (by decide+kernel) ?_;simp only[go_sem]
   ·simp only[go_sem];refine jej 0 (by decide+kernel) rfl ?_;simp only[go_sem];refine jej 2 (by decide+kernel) rfl ?_;simp only[go_sem];refine jej 3 (by decide+kernel) rfl ?_;simp only[go_sem];refine jej 4 (by decide+kernel) rfl ?_;simp only[go_sem];refine jo6 (by decide+kernel) ?_;simp only[go_sem]
 ·rw[ha]at hr;rw[zn rfl];unfold ivlIV zf;refine ja4 [.cell 10 69,.cell 11 69,.tmp 12] Tryz.func82 ?_;simp only[go_sem];refine ja1 hf ?_;simp only[go_sem];refine ja1 hr ?_;simp only[go_sem]
end
end Go.Proofs.YtgncgpfjldefpaaGreat
namespace Go.LP
section
def S:Nat->(Nat->Rat)->Rat
 | 0,_=>0
 | n+1,f=>S n f+f n
theorem jdt{f g:Nat->Rat}:∀{n:Nat},(∀j,j<n->f j=g j)->S n f=S n g
 | 0,_=>rfl
 | n+1,h=>by rw[S,S,jdt fun j hj=>h j (by omega),h n (by omega)]
theorem S_add(f g:Nat->Rat):∀n:Nat,S n (fun j=>f j+g j)=S n f+S n g
 | 0=>by simp only[S];grind
 | n+1=>by simp only[S,S_add f g n];grind
theorem S_mul(c:Rat)(f:Nat->Rat):∀n:Nat,S n (fun j=>c*f j)=c*S n f
 | 0=>by simp only[S];grind
 | n+1=>by simp only[S,S_mul c f n];grind
theorem jmu{f:Nat->Rat}:∀{n:Nat},(∀j,j<n->f j=0)->S n f=0
 | 0,_=>rfl
 | n+1,h=>by rw[S,jmu fun j hj=>h j (by omega),h n (by omega)];grind
theorem jfp{f:Nat->Rat}{s:Nat}:∀{n:Nat},s<n->S n f=f s+S n (fun j=>if j=s then 0 else f j)
 | n+1,h=>by
  simp only[S];by_cases e:s=n
  ·subst e;rw[zn rfl,jdt (f:=fun j=>if j=s then 0 else f j) (g:=f) fun j hj=>zp (by omega)];grind
  ·rw[zp (zw e),jfp (n:=n) (s:=s) (by omega)];grind
theorem S_one{f:Nat->Rat}{s n:Nat}(hs:s<n)(h:∀j,j<n->j≠s->f j=0):S n f=f s:=by
 rw[jfp hs,jmu fun j hj=> ?_]
 ·grind
 ·by_cases e:j=s
  ·rw[zn e]
  ·rw[zp e];exact h j hj e
theorem jir{f:Nat->Rat}:∀{n:Nat},(∀j,j<n->0<=f j)->0<=S n f
 | 0,_=>by simp only[S];grind
 | n+1,h=>by
  have h1:=jir (n:=n) fun j hj=>h j (by omega);have h2:=h n (by omega);simp only[S];grind
theorem S_pos{f:Nat->Rat}{s n:Nat}(hs:s<n)(h:∀j,j<n->0<=f j)(hp:0<f s):0<S n f:=by
 rw[jfp hs];have:=jir (n:=n) (f:=fun j=>if j=s then 0 else f j) fun j hj=>by
  by_cases e:j=s
  ·simp only[e,qr];grind
  ·simp only[e,ql];exact h j hj
 grind
structure Dic where
 m:Nat
 n:Nat
 own:Nat->Nat
 free:Nat->Nat
 v:Nat->Rat
 g:Nat->Rat
 a:Nat->Nat->Rat
def Dic.row(D:Dic)(x:Nat->Rat)(i:Nat):Prop:=x (D.own i)+S D.n (fun j=>D.a i j*x (D.free j))=D.v i
def Dic.Sat(D:Dic)(x:Nat->Rat):Prop:=∀i,i<D.m->D.row x i
def Dic.lin(D:Dic)(x:Nat->Rat):Rat:=S D.n (fun j=>D.g j*x (D.free j))
structure Dic.Ok(D:Dic):Prop where
 own:∀i i',i<D.m->i'<D.m->D.own i=D.own i'->i=i'
 free:∀j j',j<D.n->j'<D.n->D.free j=D.free j'->j=j'
 apart:∀i j,i<D.m->j<D.n->D.own i≠D.free j
def exch(p:Rat)(row:Nat->Rat)(s:Nat)(c:Nat->Rat)(j:Nat):Rat:=if j=s then 0-c s*(1/p)else c j-c s*(row j/p)
def Dic.pivot(D:Dic)(r s:Nat):Dic where
 m:=D.m
 n:=D.n
 own i:=if i=r then D.free s else D.own i
 free j:=if j=s then D.own r else D.free j
 v i:=if i=r then D.v r/D.a r s else D.v i-D.a i s*(D.v r/D.a r s)
 g:=exch (D.a r s) (D.a r) s D.g
 a i:=if i=r then(fun j=>if j=s then 1/D.a r s else D.a r j/D.a r s)else exch (D.a r s) (D.a r) s (D.a i)
section
variable{D:Dic}{r s:Nat}{x:Nat->Rat}
theorem jor(hs:s<D.n)(hp:D.a r s≠0):(D.pivot r s).row x r↔D.row x r:=by
 have e1:S D.n (fun j=>(D.pivot r s).a r j*x ((D.pivot r s).free j))=1/D.a r s*x (D.own r)+(1/D.a r s)*S D.n (fun j=>if j=s then 0 else D.a r j*x (D.free j)):=by
  rw[jfp hs,<-S_mul];congr 1
  ·simp[Dic.pivot]
  ·refine jdt fun j hj=> ?_;by_cases e:j=s
   ·simp[e]
   ·simp only[Dic.pivot,e,ql,qr];rw[Rat.div_def,Rat.div_def];grind
 have e2:S D.n (fun j=>D.a r j*x (D.free j))=D.a r s*x (D.free s)+S D.n (fun j=>if j=s then 0 else D.a r j*x (D.free j)):=jfp hs;unfold Dic.row;show x ((D.pivot r s).own r)+S D.n _=(D.pivot r s).v r↔_;rw[e1,e2];generalize S D.n (fun j=>if j=s then 0 else D.a r j*x (D.free j))=T;simp only[Dic.pivot,qr];generalize D.a r s=p at*;have hpi:p*p⁻¹=1:=vd p hp;rw[Rat.div_def,Rat.div_def];constructor
 ·intro h;have:=qb (p* ·) h;grind
 ·intro h;rw[<-h];grind
theorem jqp(hs:s<D.n)(hp:D.a r s≠0)(hr:D.row x r)(c:Nat->Rat):
  S D.n (fun j=>c j*x (D.free j))=S D.n (fun j=>exch (D.a r s) (D.a r) s c j*x ((D.pivot r s).free j))+c s*(D.v r/D.a r s):=by
 have h1:S D.n (fun j=>c j*x (D.free j))=c s*x (D.free s)+S D.n (fun j=>if j=s then 0 else c j*x (D.free j)):=jfp hs;have h2:S D.n (fun j=>D.a r j*x (D.free j))=D.a r s*x (D.free s)+S D.n (fun j=>if j=s then 0 else D.a r j*x (D.free j)):=jfp hs;have h3:S D.n (fun j=>exch (D.a r s) (D.a r) s c j*x ((D.pivot r s).free j))=(0-c s*(1/D.a r s))*x (D.own r)+(S D.n (fun j=>if j=s then 0 else c j*x (D.free j))+(-(c s*(1/D.a r s)))*S D.n (fun j=>if j=s then 0 else D.a r j*x (D.free j))):=by
  rw[jfp hs,<-S_mul,<-S_add];congr 1
  ·simp[Dic.pivot,exch]
  ·refine jdt fun j hj=> ?_;by_cases e:j=s
   ·simp only[e,qr];grind
   ·simp only[Dic.pivot,exch,e,ql];rw[Rat.div_def,Rat.div_def];grind
 unfold Dic.row at hr;rw[h2]at hr;rw[h1,h3];generalize S D.n (fun j=>if j=s then 0 else c j*x (D.free j))=T1 at*;generalize S D.n (fun j=>if j=s then 0 else D.a r j*x (D.free j))=T2 at*;generalize D.a r s=p at*;have hpi:p*p⁻¹=1:=vd p hp;rw[<-hr,Rat.div_def,Rat.div_def];grind
theorem sat_pivot(hr:r<D.m)(hs:s<D.n)(hp:D.a r s≠0):(D.pivot r s).Sat x↔D.Sat x:=by
 have key:D.row x r->∀i,i≠r->((D.pivot r s).row x i↔D.row x i):=by
  intro h i hi;have:=jqp hs hp h (D.a i);unfold Dic.row;show x ((D.pivot r s).own i)+S D.n _=(D.pivot r s).v i↔_;rw[this];have e1:(D.pivot r s).a i=exch (D.a r s) (D.a r) s (D.a i):=by simp[Dic.pivot,hi]
  have e2:(D.pivot r s).own i=D.own i:=by simp[Dic.pivot,hi]
  have e3:(D.pivot r s).v i=D.v i-D.a i s*(D.v r/D.a r s):=by simp[Dic.pivot,hi]
  rw[e1,e2,e3];constructor<;>intro h<;>grind
 constructor
 ·intro h i hi;have h0:=(jor hs hp).1 (h r hr);by_cases e:i=r
  ·subst e;exact h0
  ·exact(key h0 i e).1 (h i hi)
 ·intro h i hi;by_cases e:i=r
  ·subst e;exact(jor hs hp).2 (h i hi)
  ·exact(key (h r hr) i e).2 (h i hi)
theorem lin_pivot(hr:r<D.m)(hs:s<D.n)(hp:D.a r s≠0)(h:D.Sat x):D.lin x=(D.pivot r s).lin x+D.g s*(D.v r/D.a r s):=
 jqp hs hp (h r hr) D.g
theorem jnd(h:D.Ok)(hr:r<D.m)(hs:s<D.n):(D.pivot r s).Ok where
 own i i' hi hi' e:=by
  simp only[Dic.pivot]at e hi hi';split at e<;>split at e
  ·omega
  ·exact absurd e.symm (h.apart i' s hi' hs)
  ·exact absurd e (h.apart i s hi hs)
  ·exact h.own i i' hi hi' e
 free j j' hj hj' e:=by
  simp only[Dic.pivot]at e hj hj';split at e<;>split at e
  ·omega
  ·exact absurd e (h.apart r j' hr hj')
  ·exact absurd e.symm (h.apart r j hr hj)
  ·exact h.free j j' hj hj' e
 apart i j hi hj e:=by
  simp only[Dic.pivot]at e hi hj;split at e<;>split at e<;>rename_i h1 h2
  ·exact h.apart r s hr hs e.symm
  ·exact h2 (h.free s j hs hj e).symm
  ·exact h1 (h.own i r hi hr e)
  ·exact h.apart i j hi hj e
end
structure Eqv(D E:Dic):Prop where
 sat:∀x,D.Sat x↔E.Sat x
 lin:∃c,∀x,D.Sat x->D.lin x=E.lin x+c
theorem Eqv.refl(D:Dic):Eqv D D:=⟨fun _=>Iff.rfl,0,fun x _=>by grind⟩
theorem Eqv.symm{D E:Dic}(h:Eqv D E):Eqv E D:=by
 obtain⟨c,hc⟩:=h.lin;exact⟨fun x=>(h.sat x).symm,-c,fun x hx=>by have:=hc x ((h.sat x).2 hx);grind⟩
theorem Eqv.trans{D E F:Dic}(h:Eqv D E)(h':Eqv E F):Eqv D F:=by
 obtain⟨c,hc⟩:=h.lin;obtain⟨c',hc'⟩:=h'.lin;exact⟨fun x=>(h.sat x).trans (h'.sat x),c+c',fun x hx=>by have:=hc x hx;have:=hc' x ((h.sat x).1 hx);grind⟩
theorem jlc{D:Dic}{r s:Nat}(hr:r<D.m)(hs:s<D.n)(hp:D.a r s≠0):Eqv D (D.pivot r s):=
 ⟨fun x=>(sat_pivot hr hs hp).symm,_,fun x hx=>lin_pivot hr hs hp hx⟩
def find(f:Nat->Nat)(k:Nat):Nat->Option Nat
 | 0=>none
 | m+1=>if f m=k then some m else find f k m
theorem find_some{f:Nat->Nat}{k i:Nat}:∀{m:Nat},find f k m=some i->i<m/\f i=k
 | m+1,h=>by
  unfold find at h;split at h
  ·cases h;exact⟨by omega,‹_›⟩
  ·have:=find_some h;exact⟨by omega,this.2⟩
theorem jl8{f:Nat->Nat}{k:Nat}:∀{m:Nat},find f k m=none->∀i,i<m->f i≠k
 | m+1,h,i,hi=>by
  unfold find at h;split at h
  ·cases h
  ·by_cases e:i=m
   ·subst e;assumption
   ·exact jl8 h i (by omega)
def Dic.pt(D:Dic)(k:Nat):Rat:=match find D.own k D.m with
 | some i=>D.v i
 | none=>0
def Dic.dir(D:Dic)(s:Nat)(k:Nat):Rat:=match find D.own k D.m with
 | some i=> -(D.a i s)
 | none=>if k=D.free s then 1 else 0
section
variable{D:Dic}
theorem jqw(h:D.Ok){i:Nat}(hi:i<D.m):D.pt (D.own i)=D.v i:=by
 unfold Dic.pt;cases e:find D.own (D.own i) D.m with
 | none=>exact absurd rfl (jl8 e i hi)
 | some i'=>
  obtain⟨h1,h2⟩:=find_some e;rw[h.own i' i h1 hi h2]
theorem jpt(h:D.Ok){j:Nat}(hj:j<D.n):D.pt (D.free j)=0:=by
 unfold Dic.pt;cases e:find D.own (D.free j) D.m with
 | none=>rfl
 | some i'=>
  obtain⟨h1,h2⟩:=find_some e;exact absurd h2 (h.apart i' j h1 hj)
theorem jpu{k:Nat}(h:∀i,i<D.m->D.own i≠k):D.pt k=0:=by
 unfold Dic.pt;cases e:find D.own k D.m with
 | none=>rfl
 | some i'=>
  obtain⟨h1,h2⟩:=find_some e;exact absurd h2 (h i' h1)
theorem jh1(h:D.Ok):D.Sat D.pt:=by
 intro i hi;unfold Dic.row;rw[jqw h hi,jmu fun j hj=>by rw[jpt h hj];grind];grind
theorem pt_lin(h:D.Ok):D.lin D.pt=0:=jmu fun j hj=>by rw[jpt h hj];grind
theorem jli(h:D.Ok){i s:Nat}(hi:i<D.m):D.dir s (D.own i)= -(D.a i s):=by
 unfold Dic.dir;cases e:find D.own (D.own i) D.m with
 | none=>exact absurd rfl (jl8 e i hi)
 | some i'=>
  obtain⟨h1,h2⟩:=find_some e;rw[h.own i' i h1 hi h2]
theorem jfi(h:D.Ok){j s:Nat}(hj:j<D.n)(hs:s<D.n):D.dir s (D.free j)=if j=s then 1 else 0:=by
 unfold Dic.dir;cases e:find D.own (D.free j) D.m with
 | none=>
  by_cases e':j=s
  ·subst e';simp
  ·simp only[e',ql];rw[zp fun h'=>e' (h.free j s hj hs h')]
 | some i'=>
  obtain⟨h1,h2⟩:=find_some e;exact absurd h2 (h.apart i' j h1 hj)
theorem jru{k s:Nat}(h:∀i,i<D.m->D.own i≠k)(hk:k≠D.free s):D.dir s k=0:=by
 unfold Dic.dir;cases e:find D.own k D.m with
 | none=>simp[hk]
 | some i'=>
  obtain⟨h1,h2⟩:=find_some e;exact absurd h2 (h i' h1)
theorem dir_sum(h:D.Ok){s:Nat}(hs:s<D.n)(c:Nat->Rat):S D.n (fun j=>c j*D.dir s (D.free j))=c s:=by
 rw[S_one hs fun j hj e=>by rw[jfi h hj hs,zp e];grind];rw[jfi h hs hs,zn rfl];grind
theorem jj9(h:D.Ok){s:Nat}(hs:s<D.n){x:Nat->Rat}(hx:D.Sat x)(t:Rat):D.Sat (fun k=>x k+t*D.dir s k):=by
 intro i hi;have h1:=hx i hi;unfold Dic.row at h1⊢;show x (D.own i)+t*D.dir s (D.own i)+S D.n (fun j=>D.a i j*(x (D.free j)+t*D.dir s (D.free j)))=D.v i;rw[jli h hi];have e:S D.n (fun j=>D.a i j*(x (D.free j)+t*D.dir s (D.free j)))=S D.n (fun j=>D.a i j*x (D.free j))+t*S D.n (fun j=>D.a i j*D.dir s (D.free j)):=by
  rw[<-S_mul,<-S_add];exact jdt fun j hj=>by grind
 rw[e,dir_sum h hs];grind
theorem jj7(x w:Nat->Rat)(t:Rat):D.lin (fun k=>x k+t*w k)=D.lin x+t*D.lin w:=by
 unfold Dic.lin;rw[<-S_mul,<-S_add];exact jdt fun j hj=>by grind
theorem jnq(h:D.Ok){s:Nat}(hs:s<D.n):D.lin (D.dir s)=D.g s:=dir_sum h hs D.g
