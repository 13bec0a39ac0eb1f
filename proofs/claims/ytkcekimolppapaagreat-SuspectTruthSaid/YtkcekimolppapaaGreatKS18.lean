/- A part of the proof. No further condition. -/
import Derived.Test.YtkcekimolppapaaGreatKS17
set_option linter.all false
set_option maxRecDepth 10000000
set_option maxHeartbeats 16000000
namespace Go.Proofs.YtkcekimolppapaaGreat
section
open Go.Abs
attribute [local go_sem] ints ic big
theorem jmo(z:Int)(h:(dig z.natAbs).length<=1000000000000):Ctr G.P 116 [big z] (· =big (-z)):=by
 have rz:=jcr z (by omega);have hc:=jh1 (dig z.natAbs) (by omega);have hs:=jek (0-z.sign) (-z) z.natAbs (by rw[yC]) (fun _=>by rw[Int.sign_neg];omega) (by rw[yC];omega);have w:=ja7 (n:=0-z.sign) (by have:=jjc z;omega);refine ja5 [.cell 2 33] Tryz.func116 ?_;simp only[go_sem];refine ja1 rz ?_;simp only[go_sem];refine jam ?_;simp only[w,go_sem];refine ja4 hc (by decide) ?_;simp only[go_sem];refine ja4 hs (by decide) ?_;simp only[go_sem]
theorem t_or(a b:Int):Ctr G.P 126 [.sl [[.int a],[.int b]]] (· = .int (if a=0 then b else a)):=by
 refine ja5 [.tmp 2] Tryz.func126 ?_;simp only[go_sem];refine jan [3,6,7,8] [] (fun i:Nat=>⟨[(3,.im (.int 0)),(6,.im (.sl [[.int a],[.int b]])),(7,.im (.int 2)),(8,.im (.int i))],[],[]⟩)
  (fun i=>i<=2/\(1<=i->a=0)/\(2<=i->b=0)) (fun i=>2-i) 0 ?_ ⟨by omega,by omega,by omega⟩ ?_
 ·simp only[go_sem]
 intro i ⟨hi,h1,h2⟩
 match i,hi,h1,h2 with
 | 0,_,_,_=>
  simp only[go_sem];refine jdi (fun d d'=> ?_) (fun d d'=> ?_)
  ·simp only[d,go_sem];refine jab 1 ?_ (by omega) ⟨by omega,fun _=>d',by omega⟩;simp only[show IntKind.i64.wrap 1=1 from by decide,go_sem]
  ·rw[zn d'];simp only[d,go_sem]
 | 1,_,h1,_=>
  rw[zm (h1 (by omega))];simp only[go_sem];refine jdi (fun d d'=> ?_) (fun d d'=> ?_)
  ·simp only[d,go_sem];refine jab 2 ?_ (by omega) ⟨by omega,fun _=>h1 (by omega),fun _=>d'⟩;simp only[show IntKind.i64.wrap 2=2 from by decide,go_sem]
  ·simp only[d,go_sem]
 | 2,_,h1,h2=>
  rw[zm (h1 (by omega)),h2 (by omega)];simp only[go_sem]
theorem add_same{a b:Int}(h:0<=a.sign*b.sign):a.natAbs+b.natAbs=(a+b).natAbs/\(a+b≠0->(if a.sign=0 then b.sign else a.sign)=(a+b).sign):=by
 rcases q8 a 0 with ha | ha | ha
 ·have e1:=zR ha;have hb:b<=0:=by
   rcases yS 0 b with h1 | h1
   ·rw[e1,zV h1]at h;omega
   ·exact h1
  refine⟨by omega,fun _=> ?_⟩;rw[e1,zR (show a+b<0 by omega)];rfl
 ·subst ha;refine⟨by simp,fun _=> ?_⟩;simp
 ·have e1:=zV ha;have hb:0<=b:=by
   rcases yS b 0 with h1 | h1
   ·rw[e1,zR h1]at h;omega
   ·exact h1
  refine⟨by omega,fun _=> ?_⟩;rw[e1,zV (show 0<a+b by omega)];rfl
theorem jto{a b:Int}(h:¬0<=a.sign*b.sign)(hl:a.natAbs<b.natAbs):b.natAbs-a.natAbs=(a+b).natAbs/\b.sign=(a+b).sign:=by
 rcases q8 a 0 with ha | ha | ha
 ·have e1:=zR ha;have hb:0<b:=by
   rcases yS 0 b with h1 | h1
   ·exact h1
   ·rw[e1]at h;have:b.sign<=0:=by
     rcases yS b 0 with h2 | h2
     ·rw[zR h2];omega
     ·have:b=0:=by omega
      subst this;simp
    omega
  refine⟨by omega,?_⟩;rw[zV hb,zV (by omega)]
 ·subst ha;simp at h
 ·have e1:=zV ha;have hb:b<0:=by
   rcases yS b 0 with h1 | h1
   ·exact h1
   ·rw[e1]at h;have:0<=b.sign:=by
     rcases yS 0 b with h2 | h2
     ·rw[zV h2];omega
     ·have:b=0:=by omega
      subst this;simp
    omega
  refine⟨by omega,?_⟩;rw[zR hb,zR (by omega)]
theorem cmpI_lt{a b:Int}:cmpI a b<0↔a<b:=by
 unfold cmpI;split<;>(try split)<;>omega
theorem t_paddb(a b:Int)(la:(dig a.natAbs).length<=90000000000)(lb:(dig b.natAbs).length<=90000000000):Ctr G.P 71 [big a,big b] (· = .tup [big (a+b),.int 0]):=by
 have ra:=jcr a (by omega);have rb:=jcr b (by omega);have hc:=jkt (a+b);have ls:=jjc a;have lt:=jjc b;have w:=ja7 (n:=a.sign*b.sign) (by rw[<-vT];have:=jjc (a*b);omega);have hlen:(dig (a+b).natAbs).length<=1000000000000:=by have:=len_add (k:=90000000000) la lb (by omega:(a+b).natAbs<=a.natAbs+b.natAbs);omega
 simp only[big,ints]at ra rb hc;by_cases h1:0<=a.sign*b.sign
 ·have d1:decide (0<=a.sign*b.sign)=true:=zh h1;obtain⟨e1,e2⟩:=add_same h1;have ho:=t_or a.sign b.sign;have ht:=t_padd (dig a.natAbs) (dig b.natAbs) (jc4 _) (jc4 _) (by omega) (by omega);rw[jb5,jb5,<-Int.natCast_add,Int.toNat_natCast]at ht;have hs:=jek (if a.sign=0 then b.sign else a.sign) (a+b) (a.natAbs+b.natAbs) e1 e2 hlen;simp only[big,ints]at ht hs;generalize (if a.sign=0 then b.sign else a.sign)=sg at*;refine ja5 [.cell 4 33,.tmp 5] Tryz.func71 ?_;simp only[go_sem];refine ja1 ra ?_;simp only[go_sem];refine ja1 rb ?_;simp only[w,d1,go_sem];refine jam ?_;simp only[go_sem];refine ja4 ho (by decide) ?_;simp only[go_sem];refine ja4 ht (by decide) ?_;simp only[go_sem];refine ja4 hs (by decide) ?_;simp only[go_sem];refine ja4 hc (by decide) ?_;simp only[go_sem]
 ·have d1:decide (0<=a.sign*b.sign)=false:=zw h1;have hk:=jg3 a.natAbs b.natAbs (by omega) (by omega);by_cases h2:a.natAbs<b.natAbs
  ·have d2:decide (cmpI (a.natAbs:Int) (b.natAbs:Int)<0)=true:=zh (cmpI_lt.2 (by omega));obtain⟨e1,e2⟩:=jto h1 h2;have ht:=t_psub (dig b.natAbs) (dig a.natAbs) (jc4 _) (jc4 _) (by rw[jb5,jb5];omega) (by omega) (by omega);rw[jb5,jb5,show((b.natAbs:Int)-(a.natAbs:Int)).toNat=b.natAbs-a.natAbs by omega]at ht;have hs:=jek b.sign (a+b) (b.natAbs-a.natAbs) e1 (fun _=>e2) hlen;simp only[big,ints]at ht hs hk;refine ja5 [.cell 4 33,.tmp 5] Tryz.func71 ?_;simp only[go_sem];refine ja1 ra ?_;simp only[go_sem];refine ja1 rb ?_;simp only[w,d1,go_sem];refine ja1 hk ?_;simp only[d2,go_sem];refine jam ?_;simp only[go_sem];refine ja4 ht (by decide) ?_;simp only[go_sem];refine ja4 hs (by decide) ?_;simp only[go_sem];refine ja4 hc (by decide) ?_;simp only[go_sem]
  ·have d2:decide (cmpI (a.natAbs:Int) (b.natAbs:Int)<0)=false:=zw (fun h=>by rw[cmpI_lt]at h;omega);have e12:a.natAbs-b.natAbs=(a+b).natAbs/\(a+b≠0->a.sign=(a+b).sign):=by
    by_cases h3:a.natAbs=b.natAbs
    ·have:a+b=0:=by
      rcases Int.natAbs_eq_natAbs_iff.1 h3 with h4 | h4
      ·subst h4;refine absurd ?_ h1;rcases q8 a 0 with h5 | h5 | h5
       ·rw[zR h5];decide
       ·rw[h5];decide
       ·rw[zV h5];decide
      ·omega
     rw[this];exact⟨by simp;omega,fun h=>absurd rfl h⟩
    ·have h5:¬0<=b.sign*a.sign:=by rw[yF];exact h1
     obtain⟨f1,f2⟩:=jto h5 (by omega);rw[Int.add_comm]at f1 f2;exact⟨f1,fun _=>f2⟩
   have ht:=t_psub (dig a.natAbs) (dig b.natAbs) (jc4 _) (jc4 _) (by rw[jb5,jb5];omega) (by omega) (by omega);rw[jb5,jb5,show((a.natAbs:Int)-(b.natAbs:Int)).toNat=a.natAbs-b.natAbs by omega]at ht;have hs:=jek a.sign (a+b) (a.natAbs-b.natAbs) e12.1 e12.2 hlen;simp only[big,ints]at ht hs hk;refine ja5 [.cell 4 33,.tmp 5] Tryz.func71 ?_;simp only[go_sem];refine ja1 ra ?_;simp only[go_sem];refine ja1 rb ?_;simp only[w,d1,go_sem];refine ja1 hk ?_;simp only[d2,go_sem];refine jam ?_;simp only[go_sem];refine ja4 ht (by decide) ?_;simp only[go_sem];refine ja4 hs (by decide) ?_;simp only[go_sem];refine ja4 hc (by decide) ?_;simp only[go_sem]
end
section
open Go.Abs
attribute [local go_sem] ints ic big mb20 pw20 fd20
theorem and20u(n:Int)(h:0<=n/\n<18446744073709551616):bits .and .u64 n 1048575=n % 1048576:=by
 have h2:bits .and .u64 n 1048575=IntKind.u64.wrap ((BitVec.ofInt 64 n&&&BitVec.ofInt 64 1048575).toNat:Nat):=rfl;rw[h2,BitVec.toNat_and,jcx,jcx,jJ (by omega) (by omega),show((1048575:Int) % 18446744073709551616).toNat=2^20-1 from rfl,jP];rw[u64_in _ (by omega)];omega
theorem jpc(s z:Int)(l:List Int)(hl:OkD l)(hv:val l=z.natAbs)(hs:z≠0->s=z.sign)(h:l.length<=1000000000000):Ctr G.P 108 [.int s,ints l] (· =big z):=by
 have ht:=jfc l hl h;rw[hv,Int.toNat_natCast]at ht;by_cases hz:z=0
 ·subst hz;rw[Int.natAbs_zero,jbz]at ht;simp only[big,Int.natAbs_zero,jbz,Int.sign_zero];refine ja5 [.cell 4 33] Tryz.func108 ?_;simp only[go_sem];refine ja1 ht ?_;simp only[List.length_nil,Int.natCast_zero,vy,zF,go_sem]
 ·have hne:decide (((dig z.natAbs).length:Int)=0)=false:=zw fun h=>by
   have:dig z.natAbs=[]:=qM.1 (by omega);rw[dig_nil]at this;omega
  rw[hs hz];refine ja5 [.cell 4 33] Tryz.func108 ?_;simp only[go_sem];refine ja1 ht ?_;simp only[hne,go_sem]
theorem t_pof(z:Int)(hz: -9223372036854775808<=z/\z<=9223372036854775807):Ctr G.P 58 [.int z] (· =big z):=by
 by_cases h0:z<0
 ·have d1:decide (z<0)=true:=zh h0;have w1:IntKind.u64.wrap (0-IntKind.u64.wrap z)=z.natAbs:=by
   rw[IntKind.wrap_u64,IntKind.wrap_u64];omega
  obtain⟨sg,hsg,e⟩:∃sg:Int,(z≠0->sg=z.sign)/\sg= -1:=⟨-1,fun _=>(zR h0).symm,rfl⟩;refine ja5 [.cell 2 33] Tryz.func58 ?_;simp only[d1,w1,go_sem];rw[<-e];refine jge [2,3,4,5] [2,21] [(5,21,3,1)] (fun g:Int×List Int=>⟨[(2,.loc 2 2 0 0),(3,.im (.int sg)),(4,.im (.sc (.int .u64 g.1))),(5,.vec 21 3 1 (g.2.map ic))],[(2,2,[[.int 0,.sl []]])],[(21,1,g.2.length)]⟩)
   (fun g=>(0<=g.1/\g.1<=z.natAbs)/\OkD g.2/\val g.2+1048576^g.2.length*g.1=z.natAbs/\(g.2.length<=4/\g.1<1048576^(4-g.2.length))) (fun g=>g.1.toNat) ((z.natAbs:Int),[]) ?_ ?_ ⟨by dsimp only;omega,OkD.nil,by simp[val],by dsimp only;simp;omega⟩ ?_
  ·simp only[go_sem];simp
  ·simp only[zF,go_sem]
  ·intro⟨n,l⟩ ⟨⟨n0,n1⟩,hl,hv,hlen,hlt⟩;dsimp only at n0 n1 hl hv hlen hlt;by_cases hn:n=0
   ·subst hn;rw[yn,yM]at hv;have hm:=jpc sg z l hl hv hsg (by omega);simp only[go_sem];refine ja1 hm ?_;simp only[go_sem]
   ·have dn:decide (0<n)=true:=zh (by omega);have ha:=and20u n (by omega);have hc:=ja7 (n:=n % 1048576) (by omega);simp only[dn,ha,hc,go_sem];refine⟨jqf _,by simp,by omega,?_⟩;refine jab (n/1048576,l++[n % 1048576]) ?_ (by dsimp only;omega) ⟨by dsimp only;omega,hl.append (OkD.cons (by omega) OkD.nil),of_step hv,by dsimp only;rw[zG,List.length_cons,List.length_nil];exact of_len hn n0 hlen hlt⟩;simp only[qf,zG,go_sem]
 ·have d1:decide (z<0)=false:=zw h0;have w1:IntKind.u64.wrap z=z.natAbs:=by
   rw[IntKind.wrap_u64];omega
  obtain⟨sg,hsg,e⟩:∃sg:Int,(z≠0->sg=z.sign)/\sg=1:=⟨1,fun h=>(zV (by omega)).symm,rfl⟩;refine ja5 [.cell 2 33] Tryz.func58 ?_;simp only[d1,w1,go_sem];rw[<-e];refine jge [2,3,4,5] [2,21] [(5,21,3,1)] (fun g:Int×List Int=>⟨[(2,.loc 2 2 0 0),(3,.im (.int sg)),(4,.im (.sc (.int .u64 g.1))),(5,.vec 21 3 1 (g.2.map ic))],[(2,2,[[.int 0,.sl []]])],[(21,1,g.2.length)]⟩)
   (fun g=>(0<=g.1/\g.1<=z.natAbs)/\OkD g.2/\val g.2+1048576^g.2.length*g.1=z.natAbs/\(g.2.length<=4/\g.1<1048576^(4-g.2.length))) (fun g=>g.1.toNat) ((z.natAbs:Int),[]) ?_ ?_ ⟨by dsimp only;omega,OkD.nil,by simp[val],by dsimp only;simp;omega⟩ ?_
  ·simp only[go_sem];simp
  ·simp only[zF,go_sem]
  ·intro⟨n,l⟩ ⟨⟨n0,n1⟩,hl,hv,hlen,hlt⟩;dsimp only at n0 n1 hl hv hlen hlt;by_cases hn:n=0
   ·subst hn;rw[yn,yM]at hv;have hm:=jpc sg z l hl hv hsg (by omega);simp only[go_sem];refine ja1 hm ?_;simp only[go_sem]
   ·have dn:decide (0<n)=true:=zh (by omega);have ha:=and20u n (by omega);have hc:=ja7 (n:=n % 1048576) (by omega);simp only[dn,ha,hc,go_sem];refine⟨jqf _,by simp,by omega,?_⟩;refine jab (n/1048576,l++[n % 1048576]) ?_ (by dsimp only;omega) ⟨by dsimp only;omega,hl.append (OkD.cons (by omega) OkD.nil),of_step hv,by dsimp only;rw[zG,List.length_cons,List.length_nil];exact of_len hn n0 hlen hlt⟩;simp only[qf,zG,go_sem]
end
section
open Go.Abs
attribute [local go_sem] ints ic big frac
theorem jnc{p q:Int}(hq:0<q):(Rat.divInt p q).num=p/(Nat.gcd p.natAbs q.natAbs:Nat)/\((Rat.divInt p q).den:Int)=q/(Nat.gcd p.natAbs q.natAbs:Nat):=by
 have hg:(Int.gcd q p:Nat)=Nat.gcd p.natAbs q.natAbs:=Nat.gcd_comm ..;constructor
 ·rw[Rat.num_divInt,zV hq,yT,hg]
 ·rw[Rat.den_divInt,zn (by omega),hg,Int.natCast_ediv,Int.natAbs_of_nonneg (by omega)]
end
section
open Go.Abs
attribute [local go_sem] ints ic big frac
end
section
open Go.Abs
attribute [local go_sem] ints ic big frac
theorem jcn{a b:Int}{k m:Nat}(ha:(dig a.natAbs).length<=k)(hb:(dig b.natAbs).length<=m):(dig (a*b).natAbs).length<=k+m:=by
 rw[jn];exact jlf ha hb
theorem jhe(a:Rat):(a.den:Int)≠0:=by have:=a.den_nz;omega
end
section
open Go.Abs
attribute [local go_sem] ints ic big frac
theorem js2(p q:Int)(hq:q≠0)(lp:(dig p.natAbs).length<=40000000000)(lq:(dig q.natAbs).length<=40000000000):Ctr G.P 73 [big p,big q] (· = .tup [frac (Rat.divInt p q),.int 0]):=by
 have rp:=jcr p (by omega);have rq:=jcr q (by omega);have d0:decide (q.sign=0)=false:=zw fun h=>hq (yp.1 h);have main:∀P Q:Int,0<Q->(dig P.natAbs).length<=40000000000->(dig Q.natAbs).length<=40000000000->Rat.divInt P Q=Rat.divInt p q->
   Ctr G.P 119 [big P,big Q] (· = .tup [big (Nat.gcd P.natAbs Q.natAbs:Nat),.int 0])/\
   Ctr G.P 131 [big P,big (Nat.gcd P.natAbs Q.natAbs:Nat)] (· = .tup [big (Rat.divInt p q).num,big (P.fmod (Nat.gcd P.natAbs Q.natAbs:Nat)),.int 0])/\
   Ctr G.P 131 [big Q,big (Nat.gcd P.natAbs Q.natAbs:Nat)] (· = .tup [big ((Rat.divInt p q).den:Int),big (Q.fmod (Nat.gcd P.natAbs Q.natAbs:Nat)),.int 0]):=by
  intro P Q hQ lP lQ he;obtain⟨e1,e2⟩:=jnc (p:=P) hQ;rw[he]at e1 e2;rw[e1,e2];have hgp:Nat.gcd P.natAbs Q.natAbs≠0:=fun h=>by have:=Nat.eq_zero_of_gcd_eq_zero_right h;omega
  have hgl:(dig (Nat.gcd P.natAbs Q.natAbs)).length<=40000000000:=jdl (Nat.le_of_dvd (by omega) (Nat.gcd_dvd_right _ _)) lQ;have k1:=t_pdivb P (Nat.gcd P.natAbs Q.natAbs:Nat) (by omega) (by omega) (by rw[Int.natAbs_natCast];omega);have k2:=t_pdivb Q (Nat.gcd P.natAbs Q.natAbs:Nat) (by omega) (by omega) (by rw[Int.natAbs_natCast];omega);rw[jo _ (by omega)]at k1 k2;exact⟨t_pgcd P Q (by omega) (by omega),k1,k2⟩
 rcases yh hq with hlt | hgt
 ·have d1:decide (q.sign<0)=true:=by rw[zR hlt];rfl
  have n1:=jmo p (by omega);have n2:=jmo q (by omega);obtain⟨hg,hd1,hd2⟩:=main (-p) (-q) (by omega) (by rw[yC];exact lp) (by rw[yC];exact lq) (by have:=Rat.divInt_mul_right (n:=p) (d:=q) (a:= -1) (by decide);rwa [jf,jf,jG,jG]at this);simp only[big,frac,ints]at rp rq n1 n2 hg hd1 hd2;refine ja5 [.cell 4 35,.tmp 5] Tryz.func73 ?_;simp only[go_sem];refine ja1 rp ?_;simp only[go_sem];refine ja1 rq ?_;simp only[d0,d1,go_sem];refine jam ?_;simp only[go_sem];refine ja4 n1 (by decide) ?_;simp only[go_sem];refine ja4 n2 (by decide) ?_;simp only[go_sem];refine ja1 hg ?_;simp only[go_sem];refine ja1 hd1 ?_;simp only[go_sem];refine ja1 hd2 ?_;simp only[go_sem]
 ·have d1:decide (q.sign<0)=false:=by rw[zV hgt];rfl
  obtain⟨hg,hd1,hd2⟩:=main p q hgt lp lq rfl;simp only[big,frac,ints]at rp rq hg hd1 hd2;refine ja5 [.cell 4 35,.tmp 5] Tryz.func73 ?_;simp only[go_sem];refine ja1 rp ?_;simp only[go_sem];refine ja1 rq ?_;simp only[d0,d1,go_sem];refine ja1 hg ?_;simp only[go_sem];refine ja1 hd1 ?_;simp only[go_sem];refine ja1 hd2 ?_;simp only[go_sem]
theorem jlg{p:Int}(hp: -9223372036854775808<=p/\p<=9223372036854775807):(dig p.natAbs).length<=4:=jc3 (by omega)
theorem t_poff(p q:Int)(hq:q≠0)(hp: -9223372036854775808<=p/\p<=9223372036854775807)(hq': -9223372036854775808<=q/\q<=9223372036854775807):
  Ctr G.P 198 [.int p,.int q] (· = .tup [frac (Rat.divInt p q),.int 0]):=by
 have o1:=t_pof p hp;have o2:=t_pof q hq';have hn:=js2 p q hq (by have:=jlg hp;omega) (by have:=jlg hq';omega);simp only[big,frac,ints]at o1 o2 hn;refine ja5 [.cell 4 35,.tmp 5] Tryz.func198 ?_;simp only[go_sem];refine ja1 o1 ?_;simp only[go_sem];refine ja1 o2 ?_;simp only[go_sem];refine ja1 hn ?_;simp only[go_sem]
theorem jcb(n:Int)(hn: -9223372036854775808<=n/\n<=9223372036854775807):Ctr G.P 17 [.int n] (· =frac (n:Rat)):=by
 have o1:=t_pof n hn;have o2:=t_pof 1 (by omega);have e1:((n:Rat)).num=n:=rfl;have e2:((n:Rat)).den=1:=rfl;simp only[big,frac,ints,e1,e2]at o1 o2⊢;refine ja5 [.cell 2 35] Tryz.func17 ?_;simp only[go_sem];refine ja1 o1 ?_;simp only[go_sem];refine ja1 o2 ?_;simp only[go_sem]
theorem jly(a b:Rat):Rat.divInt (a.num*b.den+b.num*a.den) (a.den*b.den)=a+b:=by
 rw[<-Rat.divInt_add_divInt _ _ (jhe a) (jhe b),jg,jg]
theorem jlx(a b:Rat):Rat.divInt (a.num*b.num) (a.den*b.den)=a*b:=by
 rw[<-Rat.divInt_mul_divInt,jg,jg]
theorem jst{a b:Int}{k:Nat}(ha:(dig a.natAbs).length<=k)(hb:(dig b.natAbs).length<=k):(dig (a+b).natAbs).length<=k+1:=len_add ha hb (by omega)
theorem t_paddf(a b:Rat)(ap:(dig a.num.natAbs).length<=19000000000)(aq:(dig a.den).length<=19000000000)(bp:(dig b.num.natAbs).length<=19000000000)(bq:(dig b.den).length<=19000000000):
  Ctr G.P 24 [frac a,frac b] (· = .tup [frac (a+b),.int 0]):=by
 have ra:=jch a (by omega) (by omega);have rb:=jch b (by omega) (by omega);have bq':(dig (b.den:Int).natAbs).length<=19000000000:=by rw[Int.natAbs_natCast];exact bq
 have aq':(dig (a.den:Int).natAbs).length<=19000000000:=by rw[Int.natAbs_natCast];exact aq
 have m1:=jf1 a.num b.den (by omega) (by omega);have m2:=jf1 b.num a.den (by omega) (by omega);have m3:=jf1 a.den b.den (by omega) (by omega);have l1:=jcn ap bq';have l2:=jcn bp aq';have l3:=jcn aq' bq';have hs:=t_paddb (a.num*b.den) (b.num*a.den) (by omega) (by omega);have hn:=js2 (a.num*b.den+b.num*a.den) (a.den*b.den) (jY (jhe a) (jhe b)) (by have:=jst (k:=38000000000) (a:=a.num*b.den) (b:=b.num*a.den) (by omega) (by omega);omega) (by omega);rw[jly]at hn;simp only[big,frac,ints]at ra rb m1 m2 m3 hs hn;refine ja5 [.cell 4 35,.tmp 5] Tryz.func24 ?_;simp only[go_sem];refine ja1 ra ?_;simp only[go_sem];refine ja1 rb ?_;simp only[go_sem];refine jam ?_;simp only[go_sem];refine ja4 m1 (by decide) ?_;simp only[go_sem];refine ja4 m2 (by decide) ?_;simp only[go_sem];refine ja4 hs (by decide) ?_;simp only[go_sem];refine jam ?_;simp only[go_sem];refine ja4 m3 (by decide) ?_;simp only[go_sem];refine ja4 hn (by decide) ?_;simp only[go_sem]
theorem t_psubf(a b:Rat)(ap:(dig a.num.natAbs).length<=19000000000)(aq:(dig a.den).length<=19000000000)(bp:(dig b.num.natAbs).length<=19000000000)(bq:(dig b.den).length<=19000000000):
  Ctr G.P 124 [frac a,frac b] (· = .tup [frac (a-b),.int 0]):=by
 have ra:=jch a (by omega) (by omega);have rb:=jch b (by omega) (by omega);have hn:=jmo b.num (by omega);have hs:=t_paddf a (-b) ap aq (by rw[show(-b).num= -b.num from rfl,yC];exact bp) bq;have e:a+ -b=a-b:=by grind
 rw[e]at hs;simp only[big,frac,ints,show(-b).num= -b.num from rfl,show(-b).den=b.den from rfl]at ra rb hn hs;refine ja5 [.cell 4 35,.tmp 5] Tryz.func124 ?_;simp only[go_sem];refine ja1 ra ?_;simp only[go_sem];refine ja1 rb ?_;simp only[go_sem];refine jam ?_;simp only[go_sem];refine ja4 hn (by decide) ?_;simp only[go_sem];refine ja4 hs (by decide) ?_;simp only[go_sem]
end
section
open Go.Abs
attribute [local go_sem] ints ic big frac
theorem t_pmulf(a b:Rat)(ap:(dig a.num.natAbs).length<=19000000000)(aq:(dig a.den).length<=19000000000)(bp:(dig b.num.natAbs).length<=19000000000)(bq:(dig b.den).length<=19000000000):
  Ctr G.P 57 [frac a,frac b] (· = .tup [frac (a*b),.int 0]):=by
 have ra:=jch a (by omega) (by omega);have rb:=jch b (by omega) (by omega);have bq':(dig (b.den:Int).natAbs).length<=19000000000:=by rw[Int.natAbs_natCast];exact bq
 have aq':(dig (a.den:Int).natAbs).length<=19000000000:=by rw[Int.natAbs_natCast];exact aq
 have m1:=jf1 a.num b.num (by omega) (by omega);have m2:=jf1 a.den b.den (by omega) (by omega);have l1:=jcn ap bp;have l2:=jcn aq' bq';have hn:=js2 (a.num*b.num) (a.den*b.den) (jY (jhe a) (jhe b)) (by omega) (by omega);rw[jlx]at hn;simp only[big,frac,ints]at ra rb m1 m2 hn;refine ja5 [.cell 4 35,.tmp 5] Tryz.func57 ?_;simp only[go_sem];refine ja1 ra ?_;simp only[go_sem];refine ja1 rb ?_;simp only[go_sem];refine jam ?_;simp only[go_sem];refine ja4 m1 (by decide) ?_;simp only[go_sem];refine ja4 m2 (by decide) ?_;simp only[go_sem];refine ja4 hn (by decide) ?_;simp only[go_sem]
theorem num_ne{b:Rat}(h:b≠0):b.num≠0:=fun e=>h (v8.1 e)
theorem divInt_div'(a b:Rat)(h:b≠0):Rat.divInt (a.num*b.den) (a.den*b.num)=a/b:=by
 have e:b⁻¹=Rat.divInt b.den b.num:=by
  conv=>lhs;rw[<-jg b]
  rw[Rat.inv_divInt]
 rw[Rat.div_def,e,<-Rat.divInt_mul_divInt,jg]
theorem t_pdivf(a b:Rat)(h:b≠0)(ap:(dig a.num.natAbs).length<=19000000000)(aq:(dig a.den).length<=19000000000)(bp:(dig b.num.natAbs).length<=19000000000)(bq:(dig b.den).length<=19000000000):
  Ctr G.P 219 [frac a,frac b] (· = .tup [frac (a/b),.int 0]):=by
 have ra:=jch a (by omega) (by omega);have rb:=jch b (by omega) (by omega);have bq':(dig (b.den:Int).natAbs).length<=19000000000:=by rw[Int.natAbs_natCast];exact bq
 have aq':(dig (a.den:Int).natAbs).length<=19000000000:=by rw[Int.natAbs_natCast];exact aq
 have m1:=jf1 a.num b.den (by omega) (by omega);have m2:=jf1 a.den b.num (by omega) (by omega);have l1:=jcn ap bq';have l2:=jcn aq' bp;have hn:=js2 (a.num*b.den) (a.den*b.num) (jY (jhe a) (num_ne h)) (by omega) (by omega);rw[divInt_div' a b h]at hn;have d0:decide (b.num.sign=0)=false:=zw fun e=>num_ne h (yp.1 e);simp only[big,frac,ints]at ra rb m1 m2 hn;refine ja5 [.cell 4 35,.tmp 5] Tryz.func219 ?_;simp only[go_sem];refine ja1 ra ?_;simp only[go_sem];refine ja1 rb ?_;simp only[go_sem];simp only[d0,go_sem];refine jam ?_;simp only[go_sem];refine ja4 m1 (by decide) ?_;simp only[go_sem];refine ja4 m2 (by decide) ?_;simp only[go_sem];refine ja4 hn (by decide) ?_;simp only[go_sem]
theorem jpb(z:Int)(h:(dig z.natAbs).length<=1000000000000):Ctr G.P 117 [big z] (· =big z):=by
 have n1:=jmo z h;have n2:=jmo (-z) (by rw[yC];exact h);rw[Int.neg_neg]at n2;simp only[big,ints]at n1 n2;refine ja5 [.cell 2 33] Tryz.func117 ?_;simp only[go_sem];refine ja1 n1 ?_;simp only[go_sem];refine ja1 n2 ?_;simp only[go_sem]
theorem t_pnegf(a:Rat)(ap:(dig a.num.natAbs).length<=50000000000)(aq:(dig a.den).length<=50000000000):Ctr G.P 62 [frac a] (· =frac (-a)):=by
 have ra:=jch a (by omega) (by omega);have n1:=jmo a.num (by omega);have n2:=jpb a.den (by rw[Int.natAbs_natCast];omega);simp only[big,frac,ints,show(-a).num= -a.num from rfl,show(-a).den=a.den from rfl]at ra n1 n2⊢;refine ja5 [.cell 2 35] Tryz.func62 ?_;simp only[go_sem];refine ja1 ra ?_;simp only[go_sem];refine jam ?_;simp only[go_sem];refine ja4 n1 (by decide) ?_;simp only[go_sem];refine ja4 n2 (by decide) ?_;simp only[go_sem]
theorem t_pmaxf(a b:Rat)(ap:(dig a.num.natAbs).length<=50000000000)(aq:(dig a.den).length<=50000000000)(bp:(dig b.num.natAbs).length<=50000000000)(bq:(dig b.den).length<=50000000000):
  Ctr G.P 168 [frac a,frac b] (· = .tup [frac (if a<b then b else a),.int 0]):=by
 have ra:=jch a (by omega) (by omega);have rb:=jch b (by omega) (by omega);have hc:=t_pcmpf a b (by omega) (by omega) (by omega) (by omega);have s1:=jpb a.num (by omega);have s2:=jpb a.den (by rw[Int.natAbs_natCast];omega);have s3:=jpb b.num (by omega);have s4:=jpb b.den (by rw[Int.natAbs_natCast];omega);have he:Ctr G.P 199 [frac a,frac b,.int 1] (· = .tup [frac (if a<b then b else a),.int 0]):=by
  have hle: -1<=cmpR a b/\cmpR a b<=1:=by unfold cmpR;exact cmpI_le _ _
  have w:=ja7 (n:=cmpR a b*1) (by omega);by_cases h:a<b
  ·have d:decide (cmpR a b*1<0)=true:=zh (by rw[jG];exact cmpR_neg.2 h);rw[zm h];simp only[big,frac,ints]at ra rb hc s3 s4;refine ja5 [.cell 6 35,.tmp 7] Tryz.func199 ?_;simp only[go_sem];refine ja1 ra ?_;simp only[go_sem];refine ja1 rb ?_;simp only[go_sem];refine ja1 hc ?_;simp only[w,d,go_sem];refine jam ?_;simp only[go_sem];refine ja4 s3 (by decide) ?_;simp only[go_sem];refine ja4 s4 (by decide) ?_;simp only[go_sem]
  ·have d:decide (cmpR a b*1<0)=false:=zw (by rw[jG];exact fun e=>h (cmpR_neg.1 e));rw[zn h];simp only[big,frac,ints]at ra rb hc s1 s2;refine ja5 [.cell 6 35,.tmp 7] Tryz.func199 ?_;simp only[go_sem];refine ja1 ra ?_;simp only[go_sem];refine ja1 rb ?_;simp only[go_sem];refine ja1 hc ?_;simp only[w,d,go_sem];refine jam ?_;simp only[go_sem];refine ja4 s1 (by decide) ?_;simp only[go_sem];refine ja4 s2 (by decide) ?_;simp only[go_sem]
 generalize (if a<b then b else a)=c at*;simp only[big,frac,ints]at he;refine ja5 [.cell 4 35,.tmp 5] Tryz.func168 ?_;simp only[go_sem];refine ja1 he ?_;simp only[go_sem]
end
section
open Go.Abs
attribute [local go_sem] ints ic big frac
def FL(k:Nat)(r:Rat):Prop:=(dig r.num.natAbs).length<=k/\(dig r.den).length<=k
theorem FL.mono{k m:Nat}{r:Rat}(h:FL k r)(hk:k<=m):FL m r:=⟨qn h.1 hk,qn h.2 hk⟩
theorem jj8{p q:Int}{k:Nat}(hq:q≠0)(hp:(dig p.natAbs).length<=k)(hq':(dig q.natAbs).length<=k):FL k (Rat.divInt p q):=by
 have main:∀P Q:Int,0<Q->(dig P.natAbs).length<=k->(dig Q.natAbs).length<=k->FL k (Rat.divInt P Q):=by
  intro P Q hQ h1 h2;obtain⟨e1,e2⟩:=jnc (p:=P) hQ;have hg:0<Nat.gcd P.natAbs Q.natAbs:=Nat.gcd_pos_of_pos_right _ (by omega);refine⟨jdl ?_ h1,jdl ?_ h2⟩
  ·rw[e1];exact Int.natAbs_ediv_le_natAbs _ _
  ·have h3:(Rat.divInt P Q).den=((Rat.divInt P Q).den:Int).natAbs:=(Int.natAbs_natCast _).symm;rw[h3,e2];exact Int.natAbs_ediv_le_natAbs _ _
 rcases yh hq with h | h
 ·have:=main (-p) (-q) (by omega) (by rw[yC];exact hp) (by rw[yC];exact hq');have e:=Rat.divInt_mul_right (n:=p) (d:=q) (a:= -1) (by decide);rw[jf,jf,jG,jG]at e
  rwa [e]at this
 ·exact main p q h hp hq'
theorem FL_int{n:Int}{k:Nat}(h:(dig n.natAbs).length<=k)(hk:1<=k):FL k (n:Rat):=by
 refine⟨h,?_⟩;have:=jc3 (n:=1) (k:=1) (by omega);show(dig 1).length<=k;omega
theorem jc5{n:Int}(h: -9223372036854775808<=n/\n<=9223372036854775807):FL 4 (n:Rat):=FL_int (jlg h) (by omega)
theorem jk7{a b:Rat}{k m:Nat}(ha:FL k a)(hb:FL m b):FL (k+m+1) (a+b):=by
 rw[<-jly];have h1:(dig (b.den:Int).natAbs).length<=m:=by rw[Int.natAbs_natCast];exact hb.2
 have h2:(dig (a.den:Int).natAbs).length<=k:=by rw[Int.natAbs_natCast];exact ha.2
 have l1:=jcn ha.1 h1;have l2:=jcn hb.1 h2;have l3:=jcn h2 h1;exact jj8 (jY (jhe a) (jhe b)) (jst l1 (by omega)) (by omega)
theorem jme{a b:Rat}{k m:Nat}(ha:FL k a)(hb:FL m b):FL (k+m) (a*b):=by
 rw[<-jlx];have h1:(dig (b.den:Int).natAbs).length<=m:=by rw[Int.natAbs_natCast];exact hb.2
 have h2:(dig (a.den:Int).natAbs).length<=k:=by rw[Int.natAbs_natCast];exact ha.2
 exact jj8 (jY (jhe a) (jhe b)) (jcn ha.1 hb.1) (jcn h2 h1)
theorem jnl{a:Rat}{k:Nat}(ha:FL k a):FL k (-a):=⟨by rw[show(-a).num= -a.num from rfl,yC];exact ha.1,ha.2⟩
theorem jtu{a b:Rat}{k m:Nat}(ha:FL k a)(hb:FL m b):FL (k+m+1) (a-b):=by
 have e:a-b=a+ -b:=by grind
 rw[e];exact jk7 ha (jnl hb)
theorem f_add{a b:Rat}(ha:FL 19000000000 a)(hb:FL 19000000000 b):Ctr G.P 24 [frac a,frac b] (· = .tup [frac (a+b),.int 0]):=t_paddf a b ha.1 ha.2 hb.1 hb.2
theorem f_sub{a b:Rat}(ha:FL 19000000000 a)(hb:FL 19000000000 b):Ctr G.P 124 [frac a,frac b] (· = .tup [frac (a-b),.int 0]):=t_psubf a b ha.1 ha.2 hb.1 hb.2
theorem f_mul{a b:Rat}(ha:FL 19000000000 a)(hb:FL 19000000000 b):Ctr G.P 57 [frac a,frac b] (· = .tup [frac (a*b),.int 0]):=t_pmulf a b ha.1 ha.2 hb.1 hb.2
theorem f_div{a b:Rat}(h:b≠0)(ha:FL 19000000000 a)(hb:FL 19000000000 b):Ctr G.P 219 [frac a,frac b] (· = .tup [frac (a/b),.int 0]):=t_pdivf a b h ha.1 ha.2 hb.1 hb.2
theorem f_neg{a:Rat}(ha:FL 19000000000 a):Ctr G.P 62 [frac a] (· =frac (-a)):=t_pnegf a (by have:=ha.1;omega) (by have:=ha.2;omega)
theorem f_cmp{a b:Rat}(ha:FL 19000000000 a)(hb:FL 19000000000 b):Ctr G.P 28 [frac a,frac b] (· = .int (cmpR a b)):=t_pcmpf a b (by have:=ha.1;omega) (by have:=ha.2;omega) (by have:=hb.1;omega) (by have:=hb.2;omega)
theorem f_max{a b:Rat}(ha:FL 19000000000 a)(hb:FL 19000000000 b):Ctr G.P 168 [frac a,frac b] (· = .tup [frac (if a<b then b else a),.int 0]):=t_pmaxf a b (by have:=ha.1;omega) (by have:=ha.2;omega) (by have:=hb.1;omega) (by have:=hb.2;omega)
theorem jta{a:Rat}(ha:FL 19000000000 a):Ctr G.P 20 [frac a] (· = .int a.num.sign):=t_psignf a (by have:=ha.1;omega) (by have:=ha.2;omega)
theorem f_right{a:Rat}(ha:FL 19000000000 a):Ctr G.P 63 [frac a] (· = .bool true):=jch a (by have:=ha.1;omega) (by have:=ha.2;omega)
end
section
open Go.Abs
def idx(i n:Int):Bool:=decide (0<=i)&&decide (i<n)
def btw(n a b:Int):Bool:=decide (a<=n)&&decide (n<=b)
theorem joi{i n:Int}:idx i n=true↔0<=i/\i<n:=by simp[idx]
theorem btw_iff{n a b:Int}:btw n a b=true↔a<=n/\n<=b:=by simp[btw]
theorem c68(n a b:Int):Ctr G.P 139 [.int n,.int a,.int b] (· = .bool (btw n a b)):=by
 unfold btw;refine ja5 [.tmp 6] Tryz.func139 ?_;simp only[go_sem]
 repeat' (refine jdi (fun hd hp=> ?_) (fun hd hp=> ?_)<;>simp only[hd,go_sem])
theorem c67(i n:Int):Ctr G.P 101 [.int i,.int n] (· = .bool (idx i n)):=by
 unfold idx;refine ja5 [.tmp 4] Tryz.func101 ?_;simp only[go_sem]
 repeat' (refine jdi (fun hd hp=> ?_) (fun hd hp=> ?_)<;>simp only[hd,go_sem])
attribute [irreducible] idx btw
end
section
open Go.Abs
attribute [local go_sem] Evid.iv Evid.c Place.c Move.c Cert.c Recall.c Purity.c Sample.c Recipe.c ints ic
theorem jcv{α:Type}{l:List α}{f:α->Bool}{i:Nat}{x:α}(h:l[i]? =some x):(l.take (i+1)).all f=((l.take i).all f&&f x):=by
 rw[take_succ h,List.all_append];simp
theorem jfz{α:Type}{l:List α}{f:α->Bool}{i:Nat}{x:α}(h:l[i]? =some x)(hf:f x=false):l.all f=false:=by
 rw[List.all_eq_false];exact⟨x,zk h,by simp[hf]⟩
def ji0(e:Evid)(p:Place):Bool:=idx p.kind 7&&(if p.kind=0 then idx p.house e.houses&&idx p.mat e.mats else decide (p.house= -1)&&decide (p.mat= -1))
theorem c47(e:Evid)(hl:e.places.length<=1000):Ctr G.P 88 [e.iv] (· = .bool (e.places.all (ji0 e))):=by
 refine ja5 [.tmp 2] Tryz.func88 ?_;unfold Evid.iv Evid.c;simp only[go_sem];refine jan [1,6,7,8] [1] (fun i:Nat=>⟨[(1,.loc 1 8 0 0),(6,.im (.sl (e.places.map Place.c))),(7,.im (.int e.places.length)),(8,.im (.int i))],[(1,8,[e.c])],[]⟩)
  (fun i=>i<=e.places.length/\(e.places.take i).all (ji0 e)=true) (fun i=>e.places.length-i) 0 ?_ ⟨zH _,rfl⟩ ?_
 ·simp only[Evid.c,Int.natCast_zero,go_sem]
 ·intro i ⟨hi,ha⟩;simp only[go_sem];refine jdi (fun hd hp=> ?_) (fun hd hp=> ?_)
  ·obtain⟨x,hx⟩:∃x,e.places[i]? =some x:=⟨_,ze (by omega)⟩;have h1:=ja7 (n:=(i:Int)+1) (by omega);have hat:=jcv (f:=ji0 e) hx;simp only[hd,za,hx,Place.c,Evid.c,go_sem]
   repeat' (first | (refine jc1 (fun hd=> ?_) (fun hd=> ?_)<;>simp only[*,go_sem]) | (refine jbv (c67 _ _) (by first | decide | assumption) ?_;simp only[*,go_sem]) | (refine ja4 (c67 _ _) (by decide) ?_;simp only[*,go_sem]))
   all_goals first
    | (refine jab (i+1) ?_ ?_ ⟨?_,?_⟩
       ·simp only[h1,Evid.c,Int.natCast_add,go_sem]
       ·omega
       ·omega
       ·rw[hat,ha,qu];clear hat ha h1;simp_all[ji0]
       done)
    | (rw[jfz hx (by clear hat ha h1;simp_all[ji0])];done)
  ·simp only[hd,go_sem];rw[zu (by omega)]at ha;rw[ha]
end
section
open Go.Abs
attribute [local go_sem] Evid.iv Evid.c Place.c Move.c Cert.c Recall.c Purity.c Sample.c Recipe.c ints ic
end
section
open Go.Abs
attribute [local go_sem] Evid.iv Evid.c Place.c Move.c Cert.c Recall.c Purity.c Sample.c Recipe.c ints ic
end
section
open Go.Abs
attribute [local go_sem] Evid.iv Evid.c Place.c Move.c Cert.c Recall.c Purity.c Sample.c Recipe.c ints ic
def pairC(p:Int×Int):List IV:=[.int p.1,.int p.2]
def pairs(e:Evid):List (Int×Int):=[(e.mats,6),(e.houses,100),(e.scales,30),(e.places.length,100),(e.moves.length,200),(e.certs.length,100),(e.recalls.length,30),(e.purs.length,200)]
def fitP(p:Int×Int):Bool:= !decide (p.2<p.1)
theorem c46(e:Evid):Ctr G.P 87 [e.iv] (· = .bool (!(pairs e).all fitP)):=by
 refine ja5 [.tmp 2] Tryz.func87 ?_;unfold Evid.iv Evid.c;simp only[go_sem];refine jan [34,35,36] [] (fun i:Nat=>⟨[(34,.sx ((pairs e).map pairC)),(35,.im (.int 8)),(36,.im (.int i))],[],[]⟩)
  (fun i=>i<=8/\((pairs e).take i).all fitP=true) (fun i=>8-i) 0 ?_ ⟨zH _,rfl⟩ ?_
 ·simp only[pairs,pairC,Int.natCast_zero,go_sem]
 ·intro i ⟨hi,ha⟩;simp only[go_sem];refine jdi (fun hd hp=> ?_) (fun hd hp=> ?_)
  ·obtain⟨x,hx⟩:∃x,(pairs e)[i]? =some x:=⟨_,ze (by simp[pairs];omega)⟩;have h1:=ja7 (n:=(i:Int)+1) (by omega);have hat:=jcv (f:=fitP) hx;simp only[hd,za,hx,pairC,go_sem]
   repeat' (first | (refine jc1 (fun hd=> ?_) (fun hd=> ?_)<;>simp only[*,go_sem]) | (refine jbv (c67 _ _) (by first | decide | assumption) ?_;simp only[*,go_sem]) | (refine ja4 (c67 _ _) (by decide) ?_;simp only[*,go_sem]))
   all_goals first
    | (refine jab (i+1) ?_ ?_ ⟨?_,?_⟩
       ·simp only[h1,Int.natCast_add,go_sem]
       ·omega
       ·omega
       ·rw[hat,ha,qu];clear hat ha h1;simp_all[fitP]
       done)
    | (rw[jfz hx (by clear hat ha h1;simp_all[fitP])];rfl)
  ·simp only[hd,go_sem];rw[zu (by simp[pairs];omega)]at ha;rw[ha];simp only[go_sem]
end
section
open Go.Abs
attribute [local go_sem] Evid.iv Evid.c Place.c Move.c Cert.c Recall.c Purity.c Sample.c Recipe.c ints ic
def jjz(e:Evid)(i:Int):Int:=match e.places[i.toNat]? with
 | some p=>p.kind
 | none=>0
theorem jqc{e:Evid}{i:Int}{p:Place}(h:e.places[i.toNat]? =some p):jjz e i=p.kind:=by simp[jjz,h]
def moveF(e:Evid)(m:Move):Bool:=
 idx m.fr e.places.length&&idx m.to e.places.length&& !decide (m.fr=m.to)&& !decide (jjz e m.fr=5)&& !decide (jjz e m.fr=6)&& !(decide (jjz e m.fr=0)&&m.all)&& !decide (jjz e m.to=0)&&
  (if m.scale= -1 then decide (m.reading=0)else idx m.scale e.scales&&btw m.reading 0 1099511627776)
theorem at_idx{α:Type}{l:List α}{i:Int}(h:idx i l.length=true):∃x,l[i.toNat]? =some x/\0<=i:=by
 rw[joi]at h;exact⟨_,ze (by omega),h.1⟩
theorem c48(e:Evid)(m:Move):Ctr G.P 89 [e.iv,.agg m.c] (· = .bool (moveF e m)):=by
 rcases hf:idx m.fr e.places.length with _ | _
 ·have hm:moveF e m=false:=by simp[moveF,hf]
  refine ja5 [.tmp 4] Tryz.func89 ?_;unfold Evid.iv Evid.c Move.c;rw[hm];simp only[go_sem]
  repeat' (first | (refine jc1 (fun hd=> ?_) (fun hd=> ?_)<;>simp only[*,go_sem]) | (refine jbv (c67 _ _) (by first | decide | assumption) ?_;simp only[*,go_sem]) | (refine ja4 (c67 _ _) (by decide) ?_;simp only[*,go_sem]))
 ·obtain⟨p,hp,h0⟩:=at_idx hf;have hkp:=jqc hp;rcases ht:idx m.to e.places.length with _ | _
  ·have hm:moveF e m=false:=by simp[moveF,ht]
   refine ja5 [.tmp 4] Tryz.func89 ?_;unfold Evid.iv Evid.c Move.c;rw[hm];simp only[go_sem]
   repeat' (first | (refine jc1 (fun hd=> ?_) (fun hd=> ?_)<;>simp only[*,go_sem]) | (refine jbv (c67 _ _) (by first | decide | assumption) ?_;simp only[*,go_sem]) | (refine ja4 (c67 _ _) (by decide) ?_;simp only[*,go_sem]))
  ·obtain⟨q,hq,h1⟩:=at_idx ht;have hkq:=jqc hq;have hm:moveF e m=(!decide (m.fr=m.to)&& !decide (p.kind=5)&& !decide (p.kind=6)&& !(decide (p.kind=0)&&m.all)&& !decide (q.kind=0)&&
    (if m.scale= -1 then decide (m.reading=0)else idx m.scale e.scales&&btw m.reading 0 1099511627776)):=by simp[moveF,hf,ht,hkp,hkq]
   refine ja5 [.tmp 4] Tryz.func89 ?_;unfold Evid.iv Evid.c Move.c;rw[hm];clear hm hkp hkq;simp only[go_sem]
   repeat' (first | (refine jc1 (fun hd=> ?_) (fun hd=> ?_)<;>simp only[*,za,Place.c,go_sem]) | (refine jbv (c67 _ _) (by first | decide | assumption) ?_;simp only[*,za,Place.c,go_sem]) | (refine jbv (c68 _ _ _) (by first | decide | assumption) ?_;simp only[*,za,Place.c,go_sem]) | (refine ja4 (c67 _ _) (by decide) ?_;simp only[*,za,Place.c,go_sem]) | (refine ja4 (c68 _ _ _) (by decide) ?_;simp only[*,za,Place.c,go_sem]))
   all_goals simp_all
end
section
open Go.Abs
attribute [local go_sem] Evid.iv Evid.c Place.c Move.c Cert.c Recall.c Purity.c Sample.c Recipe.c ints ic
def certF(e:Evid)(c:Cert):Bool:=decide (0<=c.fr)&&decide (c.fr<=c.until')&&decide (c.until'<=100000)&&idx c.scale e.scales&&btw c.grams 0 1099511627776&&btw c.perMille 0 1000&&btw c.drift 0 10000000
def jh6(e:Evid)(r:Recall):Bool:=idx r.scale e.scales&&btw r.since 0 100000
def purF(e:Evid)(p:Purity):Bool:=idx p.move e.moves.length&&idx p.mat e.mats&& !decide (p.least<0)&& !decide (p.most<p.least)&& !decide (1000<p.most)
def saidF(e:Evid):Bool:=e.certs.all (certF e)&&e.recalls.all (jh6 e)&&e.purs.all (purF e)
theorem jbf{α:Type}{l:List α}{i:Nat}(h:(i:Int)<l.length):∃x,l[i]? =some x:=⟨_,ze (by omega)⟩
theorem c49(e:Evid)(h5:e.certs.length<=1000)(h6:e.recalls.length<=1000)(h7:e.purs.length<=1000):Ctr G.P 90 [e.iv] (· = .bool (saidF e)):=by
 refine ja5 [.tmp 2] Tryz.func90 ?_;unfold Evid.iv Evid.c;simp only[go_sem];refine jan [1,11,12,13] [1] (fun i:Nat=>⟨[(1,.loc 1 8 0 0),(11,.im (.sl (e.certs.map Cert.c))),(12,.im (.int e.certs.length)),(13,.im (.int i))],[(1,8,[e.c])],[]⟩)
  (fun i=>i<=e.certs.length/\(e.certs.take i).all (certF e)=true) (fun i=>e.certs.length-i) 0 ?_ ⟨zH _,rfl⟩ ?_
 ·simp only[Evid.c,Int.natCast_zero,go_sem]
 ·intro i ⟨hi,ha⟩;by_cases hp:(i:Int)<e.certs.length
  ·have hd:decide ((i:Int)<e.certs.length)=true:=zh hp;obtain⟨x,hx⟩:=jbf hp;have h1:=ja7 (n:=(i:Int)+1) (by omega);have hat:=jcv (f:=certF e) hx;have hn:certF e x=false->saidF e=false:=fun h=>by simp[saidF,jfz hx h]
   simp only[hd,za,hx,Cert.c,Evid.c,go_sem]
   repeat' (first | (refine jc1 (fun hd=> ?_) (fun hd=> ?_)<;>simp only[*,go_sem]) | (refine jbv (c67 _ _) (by first | decide | assumption) ?_;simp only[*,go_sem]) | (refine jbv (c68 _ _ _) (by first | decide | assumption) ?_;simp only[*,go_sem]) | (refine ja4 (c67 _ _) (by decide) ?_;simp only[*,go_sem]) | (refine ja4 (c68 _ _ _) (by decide) ?_;simp only[*,go_sem]))
   all_goals first
    | (refine jab (i+1) ?_ ?_ ⟨?_,?_⟩
       ·simp only[h1,Evid.c,Int.natCast_add,go_sem]
       ·omega
       ·omega
       ·rw[hat,ha,qu];clear hn hat ha h1;simp_all[certF]
       done)
    | (rw[hn (by clear hn hat ha h1;simp_all[certF]<;>(intros;omega))];done)
  ·have hd:decide ((i:Int)<e.certs.length)=false:=zw hp;rw[zu (by omega)]at ha;simp only[hd,Evid.c,go_sem];clear hd hp hi;refine jan [1,62,63,64] [1] (fun i:Nat=>⟨[(1,.loc 1 8 0 0),(62,.im (.sl (e.recalls.map Recall.c))),(63,.im (.int e.recalls.length)),(64,.im (.int i))],[(1,8,[e.c])],[]⟩)
    (fun i=>i<=e.recalls.length/\(e.recalls.take i).all (jh6 e)=true) (fun i=>e.recalls.length-i) 0 ?_ ⟨zH _,rfl⟩ ?_
   ·simp only[Evid.c,Int.natCast_zero,go_sem]
   ·intro i ⟨hi,hb⟩;by_cases hp:(i:Int)<e.recalls.length
    ·have hd:decide ((i:Int)<e.recalls.length)=true:=zh hp;obtain⟨x,hx⟩:=jbf hp;have h1:=ja7 (n:=(i:Int)+1) (by omega);have hat:=jcv (f:=jh6 e) hx;have hn:jh6 e x=false->saidF e=false:=fun h=>by simp[saidF,jfz hx h]
     simp only[hd,za,hx,Recall.c,Evid.c,go_sem]
     repeat' (first | (refine jc1 (fun hd=> ?_) (fun hd=> ?_)<;>simp only[*,go_sem]) | (refine jbv (c67 _ _) (by first | decide | assumption) ?_;simp only[*,go_sem]) | (refine jbv (c68 _ _ _) (by first | decide | assumption) ?_;simp only[*,go_sem]) | (refine ja4 (c67 _ _) (by decide) ?_;simp only[*,go_sem]) | (refine ja4 (c68 _ _ _) (by decide) ?_;simp only[*,go_sem]))
     all_goals first
      | (refine jab (i+1) ?_ ?_ ⟨?_,?_⟩
         ·simp only[h1,Evid.c,Int.natCast_add,go_sem]
         ·omega
         ·omega
         ·rw[hat,hb,qu];clear hn hat hb h1;simp_all[jh6]
         done)
      | (rw[hn (by clear hn hat hb h1;simp_all[jh6])];done)
    ·have hd:decide ((i:Int)<e.recalls.length)=false:=zw hp;rw[zu (by omega)]at hb;simp only[hd,Evid.c,go_sem];clear hd hp hi;refine jan [1,82,83,84] [1] (fun i:Nat=>⟨[(1,.loc 1 8 0 0),(82,.im (.sl (e.purs.map Purity.c))),(83,.im (.int e.purs.length)),(84,.im (.int i))],[(1,8,[e.c])],[]⟩)
      (fun i=>i<=e.purs.length/\(e.purs.take i).all (purF e)=true) (fun i=>e.purs.length-i) 0 ?_ ⟨zH _,rfl⟩ ?_
     ·simp only[Evid.c,Int.natCast_zero,go_sem]
     ·intro i ⟨hi,hc⟩;by_cases hp:(i:Int)<e.purs.length
      ·have hd:decide ((i:Int)<e.purs.length)=true:=zh hp;obtain⟨x,hx⟩:=jbf hp;have h1:=ja7 (n:=(i:Int)+1) (by omega);have hat:=jcv (f:=purF e) hx;have hn:purF e x=false->saidF e=false:=fun h=>by simp[saidF,jfz hx h]
       simp only[hd,za,hx,Purity.c,Evid.c,go_sem]
       repeat' (first | (refine jc1 (fun hd=> ?_) (fun hd=> ?_)<;>simp only[*,go_sem]) | (refine jbv (c67 _ _) (by first | decide | assumption) ?_;simp only[*,go_sem]) | (refine jbv (c68 _ _ _) (by first | decide | assumption) ?_;simp only[*,go_sem]) | (refine ja4 (c67 _ _) (by decide) ?_;simp only[*,go_sem]) | (refine ja4 (c68 _ _ _) (by decide) ?_;simp only[*,go_sem]))
       all_goals first
        | (refine jab (i+1) ?_ ?_ ⟨?_,?_⟩
           ·simp only[h1,Evid.c,Int.natCast_add,go_sem]
           ·omega
           ·omega
           ·rw[hat,hc,qu];clear hn hat hc h1;simp_all[purF]
           done)
        | (rw[hn (by clear hn hat hc h1;simp_all[purF])];done)
      ·have hd:decide ((i:Int)<e.purs.length)=false:=zw hp;rw[zu (by omega)]at hc;simp only[hd,go_sem];simp[saidF,ha,hb,hc]
end
section
open Go.Abs
attribute [local go_sem] Evid.iv Evid.c Place.c Move.c Cert.c Recall.c Purity.c Sample.c Recipe.c ints ic
def jcc(e:Evid):Int->List Move->Int
 | _,[]=>0
 | last,m::r=>if decide (m.day<last)=true then 17 else if decide (100000<m.day)=true then 17 else if moveF e m=false then 1 else jcc e m.day r
def jax(e:Evid):Int:=
 if(pairs e).all fitP=false then 6 else if decide (e.mats<1)=true then 1 else if decide (e.houses<0)=true then 1 else if decide (e.scales<0)=true then 1 else if e.places.all (ji0 e)=false then 1 else
 if jcc e 0 e.moves≠0 then jcc e 0 e.moves else if saidF e=true then 0 else 1
theorem jqm{α:Type}{l:List α}{i:Nat}{x:α}(h:l[i]? =some x):l.drop i=x::l.drop (i+1):=by
 obtain⟨hi,rfl⟩:=zl.1 h;exact qQ hi
theorem jgr{e:Evid}(h:(pairs e).all fitP=true):e.places.length<=100/\e.moves.length<=200/\e.certs.length<=100/\e.recalls.length<=30/\e.purs.length<=200/\e.mats<=6/\e.houses<=100/\e.scales<=30:=by
 simp[pairs,fitP]at h;omega
theorem c21(e:Evid):Ctr G.P 38 [e.iv] (· = .int (jax e)):=by
 have h46:=c46 e;rcases hf:(pairs e).all fitP with _ | _
 ·have hc:jax e=6:=by simp[jax,hf]
  rw[hf]at h46;refine ja5 [.tmp 2] Tryz.func38 ?_;unfold Evid.iv Evid.c;rw[hc];simp only[go_sem];refine ja1 h46 ?_;simp only[go_sem]
 ·obtain⟨l1,l2,l3,l4,l5,_,_,_⟩:=jgr hf;have h47:=c47 e (by omega);have h49:=c49 e (by omega) (by omega) (by omega);rw[hf]at h46;have hc:jax e=if decide (e.mats<1)=true then 1 else if decide (e.houses<0)=true then 1 else if decide (e.scales<0)=true then 1 else if e.places.all (ji0 e)=false then 1 else
   if jcc e 0 e.moves≠0 then jcc e 0 e.moves else if saidF e=true then 0 else 1:=by simp[jax,hf]
  clear hf;refine ja5 [.tmp 2] Tryz.func38 ?_;rw[hc];clear hc;generalize hpl:e.places.all (ji0 e)=pl at*;generalize hsd:saidF e=sd at*;unfold Evid.iv Evid.c;simp only[go_sem];refine ja1 h46 ?_;simp only[go_sem]
  repeat' (first | (refine jc1 (fun hd=> ?_) (fun hd=> ?_)<;>simp only[*,go_sem]) | (refine jbv (h47) (by first | decide | assumption) ?_;simp only[*,go_sem]) | (refine ja4 (h47) (by decide) ?_;simp only[*,go_sem]))
  rename_i k1 k2 k3 k4;clear h47 h46;refine jan [1,3,29,30,31] [1] (fun g:Nat×Int=>⟨[(1,.loc 1 8 0 0),(3,.im (.int g.2)),(29,.im (.sl (e.moves.map Move.c))),(30,.im (.int e.moves.length)),(31,.im (.int g.1))],[(1,8,[e.c])],[]⟩)
   (fun g=>g.1<=e.moves.length/\jcc e 0 e.moves=jcc e g.2 (e.moves.drop g.1)) (fun g=>e.moves.length-g.1) (0,0) ?_ ⟨zH _,rfl⟩ ?_
  ·simp only[Evid.c,Int.natCast_zero,go_sem]
  ·intro⟨i,last⟩ ⟨hi,ha⟩;dsimp only at hi ha;by_cases hp:(i:Int)<e.moves.length
   ·have hd:decide ((i:Int)<e.moves.length)=true:=zh hp;obtain⟨x,hx⟩:=jbf hp;have h1:=ja7 (n:=(i:Int)+1) (by omega);rw[jqm hx,jcc]at ha;simp only[hd,za,hx,Move.c,Evid.c,go_sem]
    repeat' (first | (refine jc1 (fun hd=> ?_) (fun hd=> ?_)<;>simp only[*,go_sem]) | (refine jbv (c48 e x) (by first | decide | assumption) ?_;simp only[*,go_sem]) | (refine ja4 (c48 e x) (by decide) ?_;simp only[*,go_sem]))
    refine jab (i+1,x.day) ?_ ?_ ⟨?_,?_⟩
    ·simp only[h1,Evid.c,Int.natCast_add,go_sem]
    ·show e.moves.length-(i+1)<e.moves.length-i;omega
    ·show i+1<=e.moves.length;omega
    ·rw[ha];simp only[*,qV,Bool.true_eq_false,qr]
   ·have hd:decide ((i:Int)<e.moves.length)=false:=zw hp;have hi':e.moves.drop i=[]:=qy (by omega);rw[hi',jcc]at ha;simp only[hd,Evid.c,go_sem];refine ja1 h49 ?_;simp only[*,go_sem]
    repeat' (first | (refine jc1 (fun hd=> ?_) (fun hd=> ?_)<;>simp only[*,go_sem]) | (refine jbv (h49) (by first | decide | assumption) ?_;simp only[*,go_sem]) | (refine ja4 (h49) (by decide) ?_;simp only[*,go_sem]))
end
section
open Go.Abs
attribute [local go_sem] Evid.iv Evid.c Place.c Move.c Cert.c Recall.c Purity.c Sample.c Recipe.c ints ic
theorem jm5{e:Evid}(h:jax e=0):e.places.length<=100/\e.moves.length<=200/\e.certs.length<=100/\e.recalls.length<=30/\e.purs.length<=200/\e.mats<=6/\e.houses<=100/\e.scales<=30:=by
 refine jgr ?_;by_cases hf:(pairs e).all fitP=true
 ·exact hf
 ·simp only[Bool.not_eq_true]at hf;unfold jax at h;rw[zm hf]at h;cases h
end
section
open Go.Abs
attribute [local go_sem] Evid.iv Evid.c Place.c Move.c Cert.c Recall.c Purity.c Sample.c Recipe.c ints ic
end
section
open Go.Abs
attribute [local go_sem] Evid.iv Evid.c Place.c Move.c Cert.c Recall.c Purity.c Sample.c Recipe.c ints ic
def purs(l:List Purity):IV:= .sl (l.map Purity.c)
end
section
open Go.Abs
attribute [local go_sem] Evid.iv Evid.c Place.c Move.c Cert.c Recall.c Purity.c Sample.c Recipe.c ints ic
theorem jcu{α:Type}{l:List α}{f:α->Bool}{i:Nat}{x:α}(h:l[i]? =some x):(l.take (i+1)).any f=((l.take i).any f || f x):=by
 rw[take_succ h,List.any_append];simp
theorem jtm{α:Type}{l:List α}{f:α->Bool}{i:Nat}{x:α}(h:l[i]? =some x)(hf:f x=true):l.any f=true:=
 yx.2 ⟨x,zk h,hf⟩
