/- A part of the proof. No further condition. -/
import Derived.Test.YthahgoopboilkaaGreatKE16
import Init
set_option linter.all false
set_option maxRecDepth 10000000
set_option maxHeartbeats 16000000
namespace Go.Proofs.YthahgoopboilkaaGreat
section
open Go.Abs
attribute [local go_sem] ints ic big
theorem jmd(z:Int)(h:(dig z.natAbs).length<=1000000000000):Ctr G.P 93 [big z] (· =big (-z)):=by
 have rz:=jck z (by omega);have hc:=jki (dig z.natAbs) (by omega);have hs:=jec (0-z.sign) (-z) z.natAbs (by rw[yu]) (fun _=>by rw[Int.sign_neg];omega) (by rw[yu];omega);have w:=ja9 (n:=0-z.sign) (by have:=jj0 z;omega);refine ja5 [.cell 2 33] Tryz.func93 ?_;simp only[go_sem];refine ja1 rz ?_;simp only[go_sem];refine jaf ?_;simp only[w,go_sem];refine ja4 hc (by decide) ?_;simp only[go_sem];refine ja4 hs (by decide) ?_;simp only[go_sem]
theorem t_or(a b:Int):Ctr G.P 144 [.sl [[.int a],[.int b]]] (· = .int (if a=0 then b else a)):=by
 refine ja5 [.tmp 2] Tryz.func144 ?_;simp only[go_sem];refine jal [3,6,7,8] [] (fun i:Nat=>⟨[(3,.im (.int 0)),(6,.im (.sl [[.int a],[.int b]])),(7,.im (.int 2)),(8,.im (.int i))],[],[]⟩)
  (fun i=>i<=2/\(1<=i->a=0)/\(2<=i->b=0)) (fun i=>2-i) 0 ?_ ⟨by omega,by omega,by omega⟩ ?_
 ·simp only[go_sem]
 intro i ⟨hi,h1,h2⟩
 match i,hi,h1,h2 with
 | 0,_,_,_=>
  simp only[go_sem];refine jcy (fun d d'=> ?_) (fun d d'=> ?_)
  ·simp only[d,go_sem];refine jab 1 ?_ (by omega) ⟨by omega,fun _=>d',by omega⟩;simp only[show IntKind.i64.wrap 1=1 from by decide,go_sem]
  ·rw[zn d'];simp only[d,go_sem]
 | 1,_,h1,_=>
  rw[zm (h1 (by omega))];simp only[go_sem];refine jcy (fun d d'=> ?_) (fun d d'=> ?_)
  ·simp only[d,go_sem];refine jab 2 ?_ (by omega) ⟨by omega,fun _=>h1 (by omega),fun _=>d'⟩;simp only[show IntKind.i64.wrap 2=2 from by decide,go_sem]
  ·simp only[d,go_sem]
 | 2,_,h1,h2=>
  rw[zm (h1 (by omega)),h2 (by omega)];simp only[go_sem]
theorem add_same{a b:Int}(h:0<=a.sign*b.sign):a.natAbs+b.natAbs=(a+b).natAbs/\(a+b≠0->(if a.sign=0 then b.sign else a.sign)=(a+b).sign):=by
 rcases yc a 0 with ha | ha | ha
 ·have e1:=zP ha;have hb:b<=0:=by
   rcases yS 0 b with h1 | h1
   ·rw[e1,zU h1]at h;omega
   ·exact h1
  refine⟨by omega,fun _=> ?_⟩;rw[e1,zP (show a+b<0 by omega)];rfl
 ·subst ha;refine⟨by simp,fun _=> ?_⟩;simp
 ·have e1:=zU ha;have hb:0<=b:=by
   rcases yS b 0 with h1 | h1
   ·rw[e1,zP h1]at h;omega
   ·exact h1
  refine⟨by omega,fun _=> ?_⟩;rw[e1,zU (show 0<a+b by omega)];rfl
theorem jso{a b:Int}(h:¬0<=a.sign*b.sign)(hl:a.natAbs<b.natAbs):b.natAbs-a.natAbs=(a+b).natAbs/\b.sign=(a+b).sign:=by
 rcases yc a 0 with ha | ha | ha
 ·have e1:=zP ha;have hb:0<b:=by
   rcases yS 0 b with h1 | h1
   ·exact h1
   ·rw[e1]at h;have:b.sign<=0:=by
     rcases yS b 0 with h2 | h2
     ·rw[zP h2];omega
     ·have:b=0:=by omega
      subst this;simp
    omega
  refine⟨by omega,?_⟩;rw[zU hb,zU (by omega)]
 ·subst ha;simp at h
 ·have e1:=zU ha;have hb:b<0:=by
   rcases yS b 0 with h1 | h1
   ·exact h1
   ·rw[e1]at h;have:0<=b.sign:=by
     rcases yS 0 b with h2 | h2
     ·rw[zU h2];omega
     ·have:b=0:=by omega
      subst this;simp
    omega
  refine⟨by omega,?_⟩;rw[zP hb,zP (by omega)]
theorem cmpI_lt{a b:Int}:cmpI a b<0↔a<b:=by
 unfold cmpI;split<;>(try split)<;>omega
theorem t_paddb(a b:Int)(la:(dig a.natAbs).length<=90000000000)(lb:(dig b.natAbs).length<=90000000000):Ctr G.P 98 [big a,big b] (· = .tup [big (a+b),.int 0]):=by
 have ra:=jck a (by omega);have rb:=jck b (by omega);have hc:=jkj (a+b);have ls:=jj0 a;have lt:=jj0 b;have w:=ja9 (n:=a.sign*b.sign) (by rw[<-vG];have:=jj0 (a*b);omega);have hlen:(dig (a+b).natAbs).length<=1000000000000:=by have:=len_add (k:=90000000000) la lb (by omega:(a+b).natAbs<=a.natAbs+b.natAbs);omega
 simp only[big,ints]at ra rb hc;by_cases h1:0<=a.sign*b.sign
 ·have d1:decide (0<=a.sign*b.sign)=true:=za h1;obtain⟨e1,e2⟩:=add_same h1;have ho:=t_or a.sign b.sign;have ht:=t_padd (dig a.natAbs) (dig b.natAbs) (jc3 _) (jc3 _) (by omega) (by omega);rw[jb1,jb1,<-Int.natCast_add,Int.toNat_natCast]at ht;have hs:=jec (if a.sign=0 then b.sign else a.sign) (a+b) (a.natAbs+b.natAbs) e1 e2 hlen;simp only[big,ints]at ht hs;generalize (if a.sign=0 then b.sign else a.sign)=sg at*;refine ja5 [.cell 4 33,.tmp 5] Tryz.func98 ?_;simp only[go_sem];refine ja1 ra ?_;simp only[go_sem];refine ja1 rb ?_;simp only[w,d1,go_sem];refine jaf ?_;simp only[go_sem];refine ja4 ho (by decide) ?_;simp only[go_sem];refine ja4 ht (by decide) ?_;simp only[go_sem];refine ja4 hs (by decide) ?_;simp only[go_sem];refine ja4 hc (by decide) ?_;simp only[go_sem]
 ·have d1:decide (0<=a.sign*b.sign)=false:=zq h1;have hk:=jfs a.natAbs b.natAbs (by omega) (by omega);by_cases h2:a.natAbs<b.natAbs
  ·have d2:decide (cmpI (a.natAbs:Int) (b.natAbs:Int)<0)=true:=za (cmpI_lt.2 (by omega));obtain⟨e1,e2⟩:=jso h1 h2;have ht:=t_psub (dig b.natAbs) (dig a.natAbs) (jc3 _) (jc3 _) (by rw[jb1,jb1];omega) (by omega) (by omega);rw[jb1,jb1,show((b.natAbs:Int)-(a.natAbs:Int)).toNat=b.natAbs-a.natAbs by omega]at ht;have hs:=jec b.sign (a+b) (b.natAbs-a.natAbs) e1 (fun _=>e2) hlen;simp only[big,ints]at ht hs hk;refine ja5 [.cell 4 33,.tmp 5] Tryz.func98 ?_;simp only[go_sem];refine ja1 ra ?_;simp only[go_sem];refine ja1 rb ?_;simp only[w,d1,go_sem];refine ja1 hk ?_;simp only[d2,go_sem];refine jaf ?_;simp only[go_sem];refine ja4 ht (by decide) ?_;simp only[go_sem];refine ja4 hs (by decide) ?_;simp only[go_sem];refine ja4 hc (by decide) ?_;simp only[go_sem]
  ·have d2:decide (cmpI (a.natAbs:Int) (b.natAbs:Int)<0)=false:=zq (fun h=>by rw[cmpI_lt]at h;omega);have e12:a.natAbs-b.natAbs=(a+b).natAbs/\(a+b≠0->a.sign=(a+b).sign):=by
    by_cases h3:a.natAbs=b.natAbs
    ·have:a+b=0:=by
      rcases Int.natAbs_eq_natAbs_iff.1 h3 with h4 | h4
      ·subst h4;refine absurd ?_ h1;rcases yc a 0 with h5 | h5 | h5
       ·rw[zP h5];decide
       ·rw[h5];decide
       ·rw[zU h5];decide
      ·omega
     rw[this];exact⟨by simp;omega,fun h=>absurd rfl h⟩
    ·have h5:¬0<=b.sign*a.sign:=by rw[yE];exact h1
     obtain⟨f1,f2⟩:=jso h5 (by omega);rw[Int.add_comm]at f1 f2;exact⟨f1,fun _=>f2⟩
   have ht:=t_psub (dig a.natAbs) (dig b.natAbs) (jc3 _) (jc3 _) (by rw[jb1,jb1];omega) (by omega) (by omega);rw[jb1,jb1,show((a.natAbs:Int)-(b.natAbs:Int)).toNat=a.natAbs-b.natAbs by omega]at ht;have hs:=jec a.sign (a+b) (a.natAbs-b.natAbs) e12.1 e12.2 hlen;simp only[big,ints]at ht hs hk;refine ja5 [.cell 4 33,.tmp 5] Tryz.func98 ?_;simp only[go_sem];refine ja1 ra ?_;simp only[go_sem];refine ja1 rb ?_;simp only[w,d1,go_sem];refine ja1 hk ?_;simp only[d2,go_sem];refine jaf ?_;simp only[go_sem];refine ja4 ht (by decide) ?_;simp only[go_sem];refine ja4 hs (by decide) ?_;simp only[go_sem];refine ja4 hc (by decide) ?_;simp only[go_sem]
end
section
open Go.Abs
attribute [local go_sem] ints ic big mb20 pw20 fd20
theorem and20u(n:Int)(h:0<=n/\n<18446744073709551616):bits .and .u64 n 1048575=n % 1048576:=by
 have h2:bits .and .u64 n 1048575=IntKind.u64.wrap ((BitVec.ofInt 64 n&&&BitVec.ofInt 64 1048575).toNat:Nat):=rfl;rw[h2,BitVec.toNat_and,jco,jco,jD (by omega) (by omega),show((1048575:Int) % 18446744073709551616).toNat=2^20-1 from rfl,jI];rw[u64_in _ (by omega)];omega
theorem jot(s z:Int)(l:List Int)(hl:OkD l)(hv:val l=z.natAbs)(hs:z≠0->s=z.sign)(h:l.length<=1000000000000):Ctr G.P 114 [.int s,ints l] (· =big z):=by
 have ht:=jf4 l hl h;rw[hv,Int.toNat_natCast]at ht;by_cases hz:z=0
 ·subst hz;rw[Int.natAbs_zero,jbw]at ht;simp only[big,Int.natAbs_zero,jbw,Int.sign_zero];refine ja5 [.cell 4 33] Tryz.func114 ?_;simp only[go_sem];refine ja1 ht ?_;simp only[List.length_nil,Int.natCast_zero,j0,zC,go_sem]
 ·have hne:decide (((dig z.natAbs).length:Int)=0)=false:=zq fun h=>by
   have:dig z.natAbs=[]:=ye.1 (by omega);rw[dig_nil]at this;omega
  rw[hs hz];refine ja5 [.cell 4 33] Tryz.func114 ?_;simp only[go_sem];refine ja1 ht ?_;simp only[hne,go_sem]
theorem t_pof(z:Int)(hz: -9223372036854775808<=z/\z<=9223372036854775807):Ctr G.P 77 [.int z] (· =big z):=by
 by_cases h0:z<0
 ·have d1:decide (z<0)=true:=za h0;have w1:IntKind.u64.wrap (0-IntKind.u64.wrap z)=z.natAbs:=by
   rw[IntKind.wrap_u64,IntKind.wrap_u64];omega
  obtain⟨sg,hsg,e⟩:∃sg:Int,(z≠0->sg=z.sign)/\sg= -1:=⟨-1,fun _=>(zP h0).symm,rfl⟩;refine ja5 [.cell 2 33] Tryz.func77 ?_;simp only[d1,w1,go_sem];rw[<-e];refine jh3 [2,3,4,5] [2,21] [(5,21,3,1)] (fun g:Int×List Int=>⟨[(2,.loc 2 2 0 0),(3,.im (.int sg)),(4,.im (.sc (.int .u64 g.1))),(5,.vec 21 3 1 (g.2.map ic))],[(2,2,[[.int 0,.sl []]])],[(21,1,g.2.length)]⟩)
   (fun g=>(0<=g.1/\g.1<=z.natAbs)/\OkD g.2/\val g.2+1048576^g.2.length*g.1=z.natAbs/\(g.2.length<=4/\g.1<1048576^(4-g.2.length))) (fun g=>g.1.toNat) ((z.natAbs:Int),[]) ?_ ?_ ⟨by dsimp only;omega,OkD.nil,by simp[val],by dsimp only;simp;omega⟩ ?_
  ·simp only[go_sem];simp
  ·simp only[zC,go_sem]
  ·intro⟨n,l⟩ ⟨⟨n0,n1⟩,hl,hv,hlen,hlt⟩;dsimp only at n0 n1 hl hv hlen hlt;by_cases hn:n=0
   ·subst hn;rw[ym,yK]at hv;have hm:=jot sg z l hl hv hsg (by omega);simp only[go_sem];refine ja1 hm ?_;simp only[go_sem]
   ·have dn:decide (0<n)=true:=za (by omega);have ha:=and20u n (by omega);have hc:=ja9 (n:=n % 1048576) (by omega);simp only[dn,ha,hc,go_sem];refine⟨jpn _,by simp,by omega,?_⟩;refine jab (n/1048576,l++[n % 1048576]) ?_ (by dsimp only;omega) ⟨by dsimp only;omega,hl.append (OkD.cons (by omega) OkD.nil),of_step hv,by dsimp only;rw[zH,List.length_cons,List.length_nil];exact of_len hn n0 hlen hlt⟩;simp only[qW,zH,go_sem]
 ·have d1:decide (z<0)=false:=zq h0;have w1:IntKind.u64.wrap z=z.natAbs:=by
   rw[IntKind.wrap_u64];omega
  obtain⟨sg,hsg,e⟩:∃sg:Int,(z≠0->sg=z.sign)/\sg=1:=⟨1,fun h=>(zU (by omega)).symm,rfl⟩;refine ja5 [.cell 2 33] Tryz.func77 ?_;simp only[d1,w1,go_sem];rw[<-e];refine jh3 [2,3,4,5] [2,21] [(5,21,3,1)] (fun g:Int×List Int=>⟨[(2,.loc 2 2 0 0),(3,.im (.int sg)),(4,.im (.sc (.int .u64 g.1))),(5,.vec 21 3 1 (g.2.map ic))],[(2,2,[[.int 0,.sl []]])],[(21,1,g.2.length)]⟩)
   (fun g=>(0<=g.1/\g.1<=z.natAbs)/\OkD g.2/\val g.2+1048576^g.2.length*g.1=z.natAbs/\(g.2.length<=4/\g.1<1048576^(4-g.2.length))) (fun g=>g.1.toNat) ((z.natAbs:Int),[]) ?_ ?_ ⟨by dsimp only;omega,OkD.nil,by simp[val],by dsimp only;simp;omega⟩ ?_
  ·simp only[go_sem];simp
  ·simp only[zC,go_sem]
  ·intro⟨n,l⟩ ⟨⟨n0,n1⟩,hl,hv,hlen,hlt⟩;dsimp only at n0 n1 hl hv hlen hlt;by_cases hn:n=0
   ·subst hn;rw[ym,yK]at hv;have hm:=jot sg z l hl hv hsg (by omega);simp only[go_sem];refine ja1 hm ?_;simp only[go_sem]
   ·have dn:decide (0<n)=true:=za (by omega);have ha:=and20u n (by omega);have hc:=ja9 (n:=n % 1048576) (by omega);simp only[dn,ha,hc,go_sem];refine⟨jpn _,by simp,by omega,?_⟩;refine jab (n/1048576,l++[n % 1048576]) ?_ (by dsimp only;omega) ⟨by dsimp only;omega,hl.append (OkD.cons (by omega) OkD.nil),of_step hv,by dsimp only;rw[zH,List.length_cons,List.length_nil];exact of_len hn n0 hlen hlt⟩;simp only[qW,zH,go_sem]
end
section
open Go.Abs
attribute [local go_sem] ints ic big frac
theorem jn1{p q:Int}(hq:0<q):(Rat.divInt p q).num=p/(Nat.gcd p.natAbs q.natAbs:Nat)/\((Rat.divInt p q).den:Int)=q/(Nat.gcd p.natAbs q.natAbs:Nat):=by
 have hg:(Int.gcd q p:Nat)=Nat.gcd p.natAbs q.natAbs:=Nat.gcd_comm ..;constructor
 ·rw[Rat.num_divInt,zU hq,yU,hg]
 ·rw[Rat.den_divInt,zn (by omega),hg,Int.natCast_ediv,Int.natAbs_of_nonneg (by omega)]
end
section
open Go.Abs
attribute [local go_sem] ints ic big frac
end
section
open Go.Abs
attribute [local go_sem] ints ic big frac
theorem jch{a b:Int}{k m:Nat}(ha:(dig a.natAbs).length<=k)(hb:(dig b.natAbs).length<=m):(dig (a*b).natAbs).length<=k+m:=by
 rw[jk];exact jl2 ha hb
theorem jgx(a:Rat):(a.den:Int)≠0:=by have:=a.den_nz;omega
end
section
open Go.Abs
attribute [local go_sem] ints ic big frac
theorem jr9(p q:Int)(hq:q≠0)(lp:(dig p.natAbs).length<=40000000000)(lq:(dig q.natAbs).length<=40000000000):Ctr G.P 69 [big p,big q] (· = .tup [frac (Rat.divInt p q),.int 0]):=by
 have rp:=jck p (by omega);have rq:=jck q (by omega);have d0:decide (q.sign=0)=false:=zq fun h=>hq (yN.1 h);have main:∀P Q:Int,0<Q->(dig P.natAbs).length<=40000000000->(dig Q.natAbs).length<=40000000000->Rat.divInt P Q=Rat.divInt p q->
   Ctr G.P 96 [big P,big Q] (· = .tup [big (Nat.gcd P.natAbs Q.natAbs:Nat),.int 0])/\
   Ctr G.P 107 [big P,big (Nat.gcd P.natAbs Q.natAbs:Nat)] (· = .tup [big (Rat.divInt p q).num,big (P.fmod (Nat.gcd P.natAbs Q.natAbs:Nat)),.int 0])/\
   Ctr G.P 107 [big Q,big (Nat.gcd P.natAbs Q.natAbs:Nat)] (· = .tup [big ((Rat.divInt p q).den:Int),big (Q.fmod (Nat.gcd P.natAbs Q.natAbs:Nat)),.int 0]):=by
  intro P Q hQ lP lQ he;obtain⟨e1,e2⟩:=jn1 (p:=P) hQ;rw[he]at e1 e2;rw[e1,e2];have hgp:Nat.gcd P.natAbs Q.natAbs≠0:=fun h=>by have:=Nat.eq_zero_of_gcd_eq_zero_right h;omega
  have hgl:(dig (Nat.gcd P.natAbs Q.natAbs)).length<=40000000000:=jdc (Nat.le_of_dvd (by omega) (Nat.gcd_dvd_right _ _)) lQ;have k1:=t_pdivb P (Nat.gcd P.natAbs Q.natAbs:Nat) (by omega) (by omega) (by rw[Int.natAbs_natCast];omega);have k2:=t_pdivb Q (Nat.gcd P.natAbs Q.natAbs:Nat) (by omega) (by omega) (by rw[Int.natAbs_natCast];omega);rw[jl _ (by omega)]at k1 k2;exact⟨t_pgcd P Q (by omega) (by omega),k1,k2⟩
 rcases yh hq with hlt | hgt
 ·have d1:decide (q.sign<0)=true:=by rw[zP hlt];rfl
  have n1:=jmd p (by omega);have n2:=jmd q (by omega);obtain⟨hg,hd1,hd2⟩:=main (-p) (-q) (by omega) (by rw[yu];exact lp) (by rw[yu];exact lq) (by have:=Rat.divInt_mul_right (n:=p) (d:=q) (a:= -1) (by decide);rwa [ja,ja,jB,jB]at this);simp only[big,frac,ints]at rp rq n1 n2 hg hd1 hd2;refine ja5 [.cell 4 35,.tmp 5] Tryz.func69 ?_;simp only[go_sem];refine ja1 rp ?_;simp only[go_sem];refine ja1 rq ?_;simp only[d0,d1,go_sem];refine jaf ?_;simp only[go_sem];refine ja4 n1 (by decide) ?_;simp only[go_sem];refine ja4 n2 (by decide) ?_;simp only[go_sem];refine ja1 hg ?_;simp only[go_sem];refine ja1 hd1 ?_;simp only[go_sem];refine ja1 hd2 ?_;simp only[go_sem]
 ·have d1:decide (q.sign<0)=false:=by rw[zU hgt];rfl
  obtain⟨hg,hd1,hd2⟩:=main p q hgt lp lq rfl;simp only[big,frac,ints]at rp rq hg hd1 hd2;refine ja5 [.cell 4 35,.tmp 5] Tryz.func69 ?_;simp only[go_sem];refine ja1 rp ?_;simp only[go_sem];refine ja1 rq ?_;simp only[d0,d1,go_sem];refine ja1 hg ?_;simp only[go_sem];refine ja1 hd1 ?_;simp only[go_sem];refine ja1 hd2 ?_;simp only[go_sem]
theorem jl3{p:Int}(hp: -9223372036854775808<=p/\p<=9223372036854775807):(dig p.natAbs).length<=4:=jc1 (by omega)
theorem t_poff(p q:Int)(hq:q≠0)(hp: -9223372036854775808<=p/\p<=9223372036854775807)(hq': -9223372036854775808<=q/\q<=9223372036854775807):
  Ctr G.P 163 [.int p,.int q] (· = .tup [frac (Rat.divInt p q),.int 0]):=by
 have o1:=t_pof p hp;have o2:=t_pof q hq';have hn:=jr9 p q hq (by have:=jl3 hp;omega) (by have:=jl3 hq';omega);simp only[big,frac,ints]at o1 o2 hn;refine ja5 [.cell 4 35,.tmp 5] Tryz.func163 ?_;simp only[go_sem];refine ja1 o1 ?_;simp only[go_sem];refine ja1 o2 ?_;simp only[go_sem];refine ja1 hn ?_;simp only[go_sem]
theorem jbt(n:Int)(hn: -9223372036854775808<=n/\n<=9223372036854775807):Ctr G.P 32 [.int n] (· =frac (n:Rat)):=by
 have o1:=t_pof n hn;have o2:=t_pof 1 (by omega);have e1:((n:Rat)).num=n:=rfl;have e2:((n:Rat)).den=1:=rfl;simp only[big,frac,ints,e1,e2]at o1 o2⊢;refine ja5 [.cell 2 35] Tryz.func32 ?_;simp only[go_sem];refine ja1 o1 ?_;simp only[go_sem];refine ja1 o2 ?_;simp only[go_sem]
theorem jln(a b:Rat):Rat.divInt (a.num*b.den+b.num*a.den) (a.den*b.den)=a+b:=by
 rw[<-Rat.divInt_add_divInt _ _ (jgx a) (jgx b),jb,jb]
theorem jlm(a b:Rat):Rat.divInt (a.num*b.num) (a.den*b.den)=a*b:=by
 rw[<-Rat.divInt_mul_divInt,jb,jb]
theorem jrv{a b:Int}{k:Nat}(ha:(dig a.natAbs).length<=k)(hb:(dig b.natAbs).length<=k):(dig (a+b).natAbs).length<=k+1:=len_add ha hb (by omega)
theorem t_paddf(a b:Rat)(ap:(dig a.num.natAbs).length<=19000000000)(aq:(dig a.den).length<=19000000000)(bp:(dig b.num.natAbs).length<=19000000000)(bq:(dig b.den).length<=19000000000):
  Ctr G.P 54 [frac a,frac b] (· = .tup [frac (a+b),.int 0]):=by
 have ra:=jcc a (by omega) (by omega);have rb:=jcc b (by omega) (by omega);have bq':(dig (b.den:Int).natAbs).length<=19000000000:=by rw[Int.natAbs_natCast];exact bq
 have aq':(dig (a.den:Int).natAbs).length<=19000000000:=by rw[Int.natAbs_natCast];exact aq
 have m1:=jev a.num b.den (by omega) (by omega);have m2:=jev b.num a.den (by omega) (by omega);have m3:=jev a.den b.den (by omega) (by omega);have l1:=jch ap bq';have l2:=jch bp aq';have l3:=jch aq' bq';have hs:=t_paddb (a.num*b.den) (b.num*a.den) (by omega) (by omega);have hn:=jr9 (a.num*b.den+b.num*a.den) (a.den*b.den) (jQ (jgx a) (jgx b)) (by have:=jrv (k:=38000000000) (a:=a.num*b.den) (b:=b.num*a.den) (by omega) (by omega);omega) (by omega);rw[jln]at hn;simp only[big,frac,ints]at ra rb m1 m2 m3 hs hn;refine ja5 [.cell 4 35,.tmp 5] Tryz.func54 ?_;simp only[go_sem];refine ja1 ra ?_;simp only[go_sem];refine ja1 rb ?_;simp only[go_sem];refine jaf ?_;simp only[go_sem];refine ja4 m1 (by decide) ?_;simp only[go_sem];refine ja4 m2 (by decide) ?_;simp only[go_sem];refine ja4 hs (by decide) ?_;simp only[go_sem];refine jaf ?_;simp only[go_sem];refine ja4 m3 (by decide) ?_;simp only[go_sem];refine ja4 hn (by decide) ?_;simp only[go_sem]
theorem t_psubf(a b:Rat)(ap:(dig a.num.natAbs).length<=19000000000)(aq:(dig a.den).length<=19000000000)(bp:(dig b.num.natAbs).length<=19000000000)(bq:(dig b.den).length<=19000000000):
  Ctr G.P 85 [frac a,frac b] (· = .tup [frac (a-b),.int 0]):=by
 have ra:=jcc a (by omega) (by omega);have rb:=jcc b (by omega) (by omega);have hn:=jmd b.num (by omega);have hs:=t_paddf a (-b) ap aq (by rw[show(-b).num= -b.num from rfl,yu];exact bp) bq;have e:a+ -b=a-b:=by grind
 rw[e]at hs;simp only[big,frac,ints,show(-b).num= -b.num from rfl,show(-b).den=b.den from rfl]at ra rb hn hs;refine ja5 [.cell 4 35,.tmp 5] Tryz.func85 ?_;simp only[go_sem];refine ja1 ra ?_;simp only[go_sem];refine ja1 rb ?_;simp only[go_sem];refine jaf ?_;simp only[go_sem];refine ja4 hn (by decide) ?_;simp only[go_sem];refine ja4 hs (by decide) ?_;simp only[go_sem]
end
section
open Go.Abs
attribute [local go_sem] ints ic big frac
theorem t_pmulf(a b:Rat)(ap:(dig a.num.natAbs).length<=19000000000)(aq:(dig a.den).length<=19000000000)(bp:(dig b.num.natAbs).length<=19000000000)(bq:(dig b.den).length<=19000000000):
  Ctr G.P 84 [frac a,frac b] (· = .tup [frac (a*b),.int 0]):=by
 have ra:=jcc a (by omega) (by omega);have rb:=jcc b (by omega) (by omega);have bq':(dig (b.den:Int).natAbs).length<=19000000000:=by rw[Int.natAbs_natCast];exact bq
 have aq':(dig (a.den:Int).natAbs).length<=19000000000:=by rw[Int.natAbs_natCast];exact aq
 have m1:=jev a.num b.num (by omega) (by omega);have m2:=jev a.den b.den (by omega) (by omega);have l1:=jch ap bp;have l2:=jch aq' bq';have hn:=jr9 (a.num*b.num) (a.den*b.den) (jQ (jgx a) (jgx b)) (by omega) (by omega);rw[jlm]at hn;simp only[big,frac,ints]at ra rb m1 m2 hn;refine ja5 [.cell 4 35,.tmp 5] Tryz.func84 ?_;simp only[go_sem];refine ja1 ra ?_;simp only[go_sem];refine ja1 rb ?_;simp only[go_sem];refine jaf ?_;simp only[go_sem];refine ja4 m1 (by decide) ?_;simp only[go_sem];refine ja4 m2 (by decide) ?_;simp only[go_sem];refine ja4 hn (by decide) ?_;simp only[go_sem]
theorem num_ne{b:Rat}(h:b≠0):b.num≠0:=fun e=>h (Rat.num_eq_zero.1 e)
theorem divInt_div'(a b:Rat)(h:b≠0):Rat.divInt (a.num*b.den) (a.den*b.num)=a/b:=by
 have e:b⁻¹=Rat.divInt b.den b.num:=by
  conv=>lhs;rw[<-jb b]
  rw[Rat.inv_divInt]
 rw[Rat.div_def,e,<-Rat.divInt_mul_divInt,jb]
theorem t_pdivf(a b:Rat)(h:b≠0)(ap:(dig a.num.natAbs).length<=19000000000)(aq:(dig a.den).length<=19000000000)(bp:(dig b.num.natAbs).length<=19000000000)(bq:(dig b.den).length<=19000000000):
  Ctr G.P 22 [frac a,frac b] (· = .tup [frac (a/b),.int 0]):=by
 have ra:=jcc a (by omega) (by omega);have rb:=jcc b (by omega) (by omega);have bq':(dig (b.den:Int).natAbs).length<=19000000000:=by rw[Int.natAbs_natCast];exact bq
 have aq':(dig (a.den:Int).natAbs).length<=19000000000:=by rw[Int.natAbs_natCast];exact aq
 have m1:=jev a.num b.den (by omega) (by omega);have m2:=jev a.den b.num (by omega) (by omega);have l1:=jch ap bq';have l2:=jch aq' bp;have hn:=jr9 (a.num*b.den) (a.den*b.num) (jQ (jgx a) (num_ne h)) (by omega) (by omega);rw[divInt_div' a b h]at hn;have d0:decide (b.num.sign=0)=false:=zq fun e=>num_ne h (yN.1 e);simp only[big,frac,ints]at ra rb m1 m2 hn;refine ja5 [.cell 4 35,.tmp 5] Tryz.func22 ?_;simp only[go_sem];refine ja1 ra ?_;simp only[go_sem];refine ja1 rb ?_;simp only[go_sem];simp only[d0,go_sem];refine jaf ?_;simp only[go_sem];refine ja4 m1 (by decide) ?_;simp only[go_sem];refine ja4 m2 (by decide) ?_;simp only[go_sem];refine ja4 hn (by decide) ?_;simp only[go_sem]
theorem jos(z:Int)(h:(dig z.natAbs).length<=1000000000000):Ctr G.P 94 [big z] (· =big z):=by
 have n1:=jmd z h;have n2:=jmd (-z) (by rw[yu];exact h);rw[Int.neg_neg]at n2;simp only[big,ints]at n1 n2;refine ja5 [.cell 2 33] Tryz.func94 ?_;simp only[go_sem];refine ja1 n1 ?_;simp only[go_sem];refine ja1 n2 ?_;simp only[go_sem]
theorem t_pnegf(a:Rat)(ap:(dig a.num.natAbs).length<=50000000000)(aq:(dig a.den).length<=50000000000):Ctr G.P 52 [frac a] (· =frac (-a)):=by
 have ra:=jcc a (by omega) (by omega);have n1:=jmd a.num (by omega);have n2:=jos a.den (by rw[Int.natAbs_natCast];omega);simp only[big,frac,ints,show(-a).num= -a.num from rfl,show(-a).den=a.den from rfl]at ra n1 n2⊢;refine ja5 [.cell 2 35] Tryz.func52 ?_;simp only[go_sem];refine ja1 ra ?_;simp only[go_sem];refine jaf ?_;simp only[go_sem];refine ja4 n1 (by decide) ?_;simp only[go_sem];refine ja4 n2 (by decide) ?_;simp only[go_sem]
theorem t_pmaxf(a b:Rat)(ap:(dig a.num.natAbs).length<=50000000000)(aq:(dig a.den).length<=50000000000)(bp:(dig b.num.natAbs).length<=50000000000)(bq:(dig b.den).length<=50000000000):
  Ctr G.P 119 [frac a,frac b] (· = .tup [frac (if a<b then b else a),.int 0]):=by
 have ra:=jcc a (by omega) (by omega);have rb:=jcc b (by omega) (by omega);have hc:=t_pcmpf a b (by omega) (by omega) (by omega) (by omega);have s1:=jos a.num (by omega);have s2:=jos a.den (by rw[Int.natAbs_natCast];omega);have s3:=jos b.num (by omega);have s4:=jos b.den (by rw[Int.natAbs_natCast];omega);have he:Ctr G.P 164 [frac a,frac b,.int 1] (· = .tup [frac (if a<b then b else a),.int 0]):=by
  have hle: -1<=cmpR a b/\cmpR a b<=1:=by unfold cmpR;exact cmpI_le _ _
  have w:=ja9 (n:=cmpR a b*1) (by omega);by_cases h:a<b
  ·have d:decide (cmpR a b*1<0)=true:=za (by rw[jB];exact cmpR_neg.2 h);rw[zm h];simp only[big,frac,ints]at ra rb hc s3 s4;refine ja5 [.cell 6 35,.tmp 7] Tryz.func164 ?_;simp only[go_sem];refine ja1 ra ?_;simp only[go_sem];refine ja1 rb ?_;simp only[go_sem];refine ja1 hc ?_;simp only[w,d,go_sem];refine jaf ?_;simp only[go_sem];refine ja4 s3 (by decide) ?_;simp only[go_sem];refine ja4 s4 (by decide) ?_;simp only[go_sem]
  ·have d:decide (cmpR a b*1<0)=false:=zq (by rw[jB];exact fun e=>h (cmpR_neg.1 e));rw[zn h];simp only[big,frac,ints]at ra rb hc s1 s2;refine ja5 [.cell 6 35,.tmp 7] Tryz.func164 ?_;simp only[go_sem];refine ja1 ra ?_;simp only[go_sem];refine ja1 rb ?_;simp only[go_sem];refine ja1 hc ?_;simp only[w,d,go_sem];refine jaf ?_;simp only[go_sem];refine ja4 s1 (by decide) ?_;simp only[go_sem];refine ja4 s2 (by decide) ?_;simp only[go_sem]
 generalize (if a<b then b else a)=c at*;simp only[big,frac,ints]at he;refine ja5 [.cell 4 35,.tmp 5] Tryz.func119 ?_;simp only[go_sem];refine ja1 he ?_;simp only[go_sem]
end
section
open Go.Abs
attribute [local go_sem] ints ic big frac
def FL(k:Nat)(r:Rat):Prop:=(dig r.num.natAbs).length<=k/\(dig r.den).length<=k
theorem FL.mono{k m:Nat}{r:Rat}(h:FL k r)(hk:k<=m):FL m r:=⟨qn h.1 hk,qn h.2 hk⟩
theorem jit{p q:Int}{k:Nat}(hq:q≠0)(hp:(dig p.natAbs).length<=k)(hq':(dig q.natAbs).length<=k):FL k (Rat.divInt p q):=by
 have main:∀P Q:Int,0<Q->(dig P.natAbs).length<=k->(dig Q.natAbs).length<=k->FL k (Rat.divInt P Q):=by
  intro P Q hQ h1 h2;obtain⟨e1,e2⟩:=jn1 (p:=P) hQ;have hg:0<Nat.gcd P.natAbs Q.natAbs:=Nat.gcd_pos_of_pos_right _ (by omega);refine⟨jdc ?_ h1,jdc ?_ h2⟩
  ·rw[e1];exact Int.natAbs_ediv_le_natAbs _ _
  ·have h3:(Rat.divInt P Q).den=((Rat.divInt P Q).den:Int).natAbs:=(Int.natAbs_natCast _).symm;rw[h3,e2];exact Int.natAbs_ediv_le_natAbs _ _
 rcases yh hq with h | h
 ·have:=main (-p) (-q) (by omega) (by rw[yu];exact hp) (by rw[yu];exact hq');have e:=Rat.divInt_mul_right (n:=p) (d:=q) (a:= -1) (by decide);rw[ja,ja,jB,jB]at e
  rwa [e]at this
 ·exact main p q h hp hq'
theorem FL_int{n:Int}{k:Nat}(h:(dig n.natAbs).length<=k)(hk:1<=k):FL k (n:Rat):=by
 refine⟨h,?_⟩;have:=jc1 (n:=1) (k:=1) (by omega);show(dig 1).length<=k;omega
theorem jb3{n:Int}(h: -9223372036854775808<=n/\n<=9223372036854775807):FL 4 (n:Rat):=FL_int (jl3 h) (by omega)
theorem jfc{a b:Rat}{k m:Nat}(ha:FL k a)(hb:FL m b):FL (k+m+1) (a+b):=by
 rw[<-jln];have h1:(dig (b.den:Int).natAbs).length<=m:=by rw[Int.natAbs_natCast];exact hb.2
 have h2:(dig (a.den:Int).natAbs).length<=k:=by rw[Int.natAbs_natCast];exact ha.2
 have l1:=jch ha.1 h1;have l2:=jch hb.1 h2;have l3:=jch h2 h1;exact jit (jQ (jgx a) (jgx b)) (jrv l1 (by omega)) (by omega)
theorem jh4{a b:Rat}{k m:Nat}(ha:FL k a)(hb:FL m b):FL (k+m) (a*b):=by
 rw[<-jlm];have h1:(dig (b.den:Int).natAbs).length<=m:=by rw[Int.natAbs_natCast];exact hb.2
 have h2:(dig (a.den:Int).natAbs).length<=k:=by rw[Int.natAbs_natCast];exact ha.2
 exact jit (jQ (jgx a) (jgx b)) (jch ha.1 hb.1) (jch h2 h1)
theorem jhj{a:Rat}{k:Nat}(ha:FL k a):FL k (-a):=⟨by rw[show(-a).num= -a.num from rfl,yu];exact ha.1,ha.2⟩
theorem jsw{a b:Rat}{k m:Nat}(ha:FL k a)(hb:FL m b):FL (k+m+1) (a-b):=by
 have e:a-b=a+ -b:=by grind
 rw[e];exact jfc ha (jhj hb)
theorem f_add{a b:Rat}(ha:FL 19000000000 a)(hb:FL 19000000000 b):Ctr G.P 54 [frac a,frac b] (· = .tup [frac (a+b),.int 0]):=t_paddf a b ha.1 ha.2 hb.1 hb.2
theorem f_sub{a b:Rat}(ha:FL 19000000000 a)(hb:FL 19000000000 b):Ctr G.P 85 [frac a,frac b] (· = .tup [frac (a-b),.int 0]):=t_psubf a b ha.1 ha.2 hb.1 hb.2
theorem f_mul{a b:Rat}(ha:FL 19000000000 a)(hb:FL 19000000000 b):Ctr G.P 84 [frac a,frac b] (· = .tup [frac (a*b),.int 0]):=t_pmulf a b ha.1 ha.2 hb.1 hb.2
theorem f_div{a b:Rat}(h:b≠0)(ha:FL 19000000000 a)(hb:FL 19000000000 b):Ctr G.P 22 [frac a,frac b] (· = .tup [frac (a/b),.int 0]):=t_pdivf a b h ha.1 ha.2 hb.1 hb.2
theorem f_neg{a:Rat}(ha:FL 19000000000 a):Ctr G.P 52 [frac a] (· =frac (-a)):=t_pnegf a (by have:=ha.1;omega) (by have:=ha.2;omega)
theorem f_cmp{a b:Rat}(ha:FL 19000000000 a)(hb:FL 19000000000 b):Ctr G.P 24 [frac a,frac b] (· = .int (cmpR a b)):=t_pcmpf a b (by have:=ha.1;omega) (by have:=ha.2;omega) (by have:=hb.1;omega) (by have:=hb.2;omega)
theorem f_max{a b:Rat}(ha:FL 19000000000 a)(hb:FL 19000000000 b):Ctr G.P 119 [frac a,frac b] (· = .tup [frac (if a<b then b else a),.int 0]):=t_pmaxf a b (by have:=ha.1;omega) (by have:=ha.2;omega) (by have:=hb.1;omega) (by have:=hb.2;omega)
theorem jgl{a:Rat}(ha:FL 19000000000 a):Ctr G.P 82 [frac a] (· = .int a.num.sign):=t_psignf a (by have:=ha.1;omega) (by have:=ha.2;omega)
theorem jqm{a:Rat}(ha:FL 19000000000 a):Ctr G.P 53 [frac a] (· = .bool true):=jcc a (by have:=ha.1;omega) (by have:=ha.2;omega)
end
section
open Go.Abs
def fc(r:Rat):List IV:=[.int r.num.sign,.sl ((dig r.num.natAbs).map ic),.int (r.den:Int).sign,.sl ((dig (r.den:Int).natAbs).map ic)]
def fcs(l:List Rat):IV:= .sl (l.map fc)
def qc(r:Rat):List IV:=fc r
theorem qget{n s:Nat}{f:Nat->Rat}(h:s<n):(tab n fun j=>qc (f j))[s]? =some (fc (f s)):=jfm h
theorem qset{n s:Nat}{f:Nat->Rat}{x:Rat}:(tab n fun j=>qc (f j)).set s (fc x)=tab n fun k=>qc (if k=s then x else f k):=by
 rw[show fc x=qc x from rfl,jkh];exact jak fun k _=>by split<;>rfl
theorem sign_zero{r:Rat}:r.num.sign=0↔r=0:=by
 rw[yN];exact Rat.num_eq_zero
theorem sign_neg{r:Rat}:r.num.sign<0↔r<0:=by
 rw[Int.sign_neg_iff,vX];simp
theorem sign_pos{r:Rat}:0<r.num.sign↔0<r:=by
 rw[Int.sign_pos_iff,vX];simp
end
section
open Go.Abs
attribute [local go_sem] ints ic big frac fc
theorem jol(r:Rat):Ctr G.P 209 [frac r] (· = .bool (decide (r=0))):=by
 have e:decide (r=0)=decide (r.num.sign=0):=yG.2 sign_zero.symm;rw[e];refine ja5 [.tmp 2] Tryz.func209 ?_;simp only[go_sem]
theorem x_over{a b:Rat}(h:b≠0)(ha:FL 19000000000 a)(hb:FL 19000000000 b):Ctr G.P 208 [frac a,frac b] (· =frac (a/b)):=by
 have k1:=f_div h ha hb;generalize a/b=c at*;simp only[frac,ints]at k1⊢;refine ja5 [.cell 4 35] Tryz.func208 ?_;simp only[go_sem];refine ja1 k1 ?_;simp only[go_sem]
theorem x_less{a b c:Rat}(ha:FL 6000000000 a)(hb:FL 6000000000 b)(hc:FL 6000000000 c):Ctr G.P 210 [frac a,frac b,frac c] (· =frac (a-b*c)):=by
 have z1:=jol b;have z2:=jol c;have m1:=f_mul (hb.mono (by omega)) (hc.mono (by omega));have s1:=f_sub (ha.mono (by omega)) ((jh4 hb hc).mono (by omega));have e1:b=0->a-b*c=a:=fun h=>by rw[h];grind
 have e2:c=0->a-b*c=a:=fun h=>by rw[h];grind
 generalize a-b*c=x at*;generalize b*c=y at*;generalize hd1:decide (b=0)=d1 at*;generalize hd2:decide (c=0)=d2 at*;simp only[frac,ints]at z1 z2 m1 s1⊢;refine ja5 [.cell 6 35] Tryz.func210 ?_;simp only[go_sem];refine ja1 z1 ?_;simp only[go_sem];refine jcq (fun h1=> ?_) (fun h1=> ?_)
 ·subst h1;have e1:=e1 (zI hd1);subst e1;simp only[go_sem]
 ·subst h1;simp only[go_sem];refine ja1 z2 ?_;simp only[go_sem];refine jcq (fun h2=> ?_) (fun h2=> ?_)
  ·subst h2;have e2:=e2 (zI hd2);subst e2;simp only[go_sem]
  ·subst h2;simp only[go_sem];refine ja1 m1 ?_;simp only[go_sem];refine ja1 s1 ?_;simp only[go_sem]
end
section
open Go.Abs
attribute [local go_sem] ints ic big frac fc
def tkF(a row:Nat->Rat)(s j:Nat):Rat:=if j=s then 0-a s*row s else a j-a s*row j
theorem x_take(L:Abs.Rows)(A B n s:Nat)(a row:Nat->Rat)(hL:blks L)(hA:Abs.look L (hp A)=some (4,tab n fun j=>qc (a j)))(hB:Abs.look L (hp B)=some (4,tab n fun j=>qc (row j)))(hAB:A≠B)(hs:s<n)(hn:n<=100000)
  (ka:∀j,j<n->FL 1000000000 (a j)) (kr:∀j,j<n->FL 1000000000 (row j)):
  CtrH G.P 211 [.im (.ref A 35 4 n),.im (.ref B 35 4 n),.im (.int s)] L
   (fun r L'=>r= .im (.tup [])/\blks L'/\Abs.look L' (hp A)=some (4,tab n fun j=>qc (tkF a row s j))/\∀k,k≠hp A->Abs.look L' k=Abs.look L k):=by
 have hs':(s:Int)<n:=by omega
 have h0:(0:Int)<=s:=by omega
 have hgs:=qget (f:=a) hs;have F1:=bF hL;have K1:=bK hL;refine jav [] [] [] Tryz.func211 ?_;simp only[hA,hs',h0,hgs,Int.toNat_natCast,ja6,F1,K1,go_sem];refine jaz [0,1,2,6,13,14] (fun g:Nat×Abs.Rows=>⟨[(0,.im (.ref A 35 4 n)),(1,.im (.ref B 35 4 n)),(2,.im (.int s)),(6,.loc 6 4 0 0),(13,.im (.int n)),(14,.im (.int g.1))],(6,4,[fc (a s)])::g.2,[]⟩)
  (fun g=>g.1<=n/\blks g.2/\Abs.look g.2 (hp A)=some (4,tab n fun j=>qc (if j<g.1/\j≠s then a j-a s*row j else a j))/\∀k,k≠hp A->Abs.look g.2 k=Abs.look L k) (fun g=>n-g.1) (0,L) ?_ ?_ rfl ⟨zE _,hL,by simpa using hA,fun _ _=>rfl⟩ ?_
 ·simp only[Int.natCast_zero,go_sem]
 ·exact SubR.of_eq rfl
 ·intro⟨j,M⟩ ⟨hj,hM,hMA,hMo⟩;dsimp only at hj hM hMA hMo;have F2:=bF hM;have K2:=bK hM;have G2:=bN hM;have hMB:Abs.look M (hp B)=some (4,tab n fun j=>qc (row j)):=(hMo _ (fun e=>hAB (hp_inj.1 e).symm)).trans hB;by_cases hlt:j<n
  ·have hd:decide ((j:Int)<n)=true:=za (by omega);have hjn:(j:Int)<n:=by omega
   have h1:=ja9 (n:=(j:Int)+1) (by omega);have hga:(tab n fun k=>qc (if k<j/\k≠s then a k-a s*row k else a k))[j]? =some (fc (a j)):=by
    rw[qget hlt,zn (by omega)]
   have hgb:=qget (f:=row) hlt;by_cases hjs:j=s
   ·have hd2:decide ((j:Int)=s)=true:=za (by omega);simp only[hd,hd2,Int.toNat_natCast,F2,K2,go_sem];refine jaa (j+1,M) ?_ ?_ rfl (by show n-(j+1)<n-j;omega) ⟨hlt,hM,hMA.trans ?_,hMo⟩
    ·simp only[h1,Int.natCast_add,go_sem]
    ·exact SubR.of_eq rfl
    ·congr 2;refine jak fun k _=> ?_;have e:(k<j/\k≠s)↔(k<(j+1,M).1/\k≠s):=by dsimp only;omega
     simp only[e]
   ·have hd2:decide ((j:Int)=s)=false:=zq (by omega);have kl:=x_less (ka j hlt |>.mono (by omega)) (ka s hs |>.mono (by omega)) (kr j hlt |>.mono (by omega));generalize hx:a j-a s*row j=x at*;simp only[frac,ints]at kl;simp only[hd,hd2,Int.toNat_natCast,F2,K2,go_sem];refine jaf ?_;simp only[hMA,hMB,hga,hgb,hjn,ja6,Int.toNat_natCast,F2,K2,G2,go_sem];refine ja4 kl (by decide) ?_;simp only[hMA,hMB,hga,hgb,hjn,ja6,Int.toNat_natCast,F2,K2,G2,go_sem];refine jaa (j+1,M.map (fun p=>if p.1=hp A then(p.1,4,(tab n fun k=>qc (if k<j/\k≠s then a k-a s*row k else a k)).set j (fc x))else p)) ?_ ?_ rfl (by show n-(j+1)<n-j;omega)
     ⟨hlt,jb8 hM,(jae hMA).trans ?_,fun k hk=>(jan hk).trans (hMo k hk)⟩
    ·simp only[h1,Int.natCast_add,go_sem]
    ·exact SubR.of_eq rfl
    ·rw[qset];congr 2;refine jak fun k _=>qd qc ?_;by_cases e:k=j
     ·subst e;rw[zm rfl,zm ⟨by show k<k+1;omega,hjs⟩,hx]
     ·have e':(k<j/\k≠s)↔(k<j+1/\k≠s):=by omega
      rw[zn e];simp only[e']
  ·have hd:decide ((j:Int)<n)=false:=zq (by omega);have hjn:j=n:=by omega
   subst hjn;have o1:=jbt 0 (by omega);have hga:(tab j fun k=>qc (if k<j/\k≠s then a k-a s*row k else a k))[s]? =some (fc (a s)):=by
    rw[qget hs,zn (by omega)]
   have hgb:=qget (f:=row) hs;have kl:=x_less (a:=((0:Int):Rat)) ((jb3 (by omega)).mono (by omega)) (ka s hs |>.mono (by omega)) (kr s hs |>.mono (by omega));generalize hz:((0:Int):Rat)=z at*;generalize hx:z-a s*row s=x at*;simp only[frac,ints]at kl o1;simp only[hd,go_sem];refine jaf ?_;simp only[F2,K2,G2,go_sem];refine ja4 o1 (by decide) ?_;simp only[hMA,hMB,hga,hgb,hs',h0,ja6,Int.toNat_natCast,F2,K2,G2,go_sem];refine ja4 kl (by decide) ?_;simp only[hMA,hMB,hga,hgb,hs',h0,ja6,Int.toNat_natCast,F2,K2,G2,go_sem];obtain⟨M',hM',hb,hl,ho⟩:∃M',M'=M.map (fun p=>if p.1=hp A then(p.1,4,(tab j fun k=>qc (if k<j/\k≠s then a k-a s*row k else a k)).set s (fc x))else p)/\blks M'/\
     Abs.look M' (hp A)=some (4,tab j fun j=>qc (tkF a row s j))/\∀k,k≠hp A->Abs.look M' k=Abs.look L k:=by
    refine⟨_,rfl,jb8 hM,(jae hMA).trans ?_,fun k hk=>(jan hk).trans (hMo k hk)⟩;rw[qset];congr 2;refine jak fun k hk=>qd qc ?_;unfold tkF;by_cases e:k=s
    ·rw[zm e,zm e,<-hx,<-hz];rfl
    ·rw[zn e,zn e,zm ⟨hk,e⟩]
   refine jbh M' hb (ja3 (by decide) hb (SubR.of_eq hM')) ?_;simp only[go_sem];exact⟨hb,hl,ho⟩
end
section
open Go.Abs
attribute [local go_sem] ints ic big frac fc
def x4:List IV:=[.int 0,.emp,.int 0,.emp]
theorem jiw(n:Nat)(hn:n<=100000):
  CtrH G.P 178 [.im (.int n)] []
   (fun r L'=>∃b,r= .im (.ref b 35 4 n)/\blks L'/\Abs.look L' (hp b)=some (4,tab n fun _=>qc 0)/\∀k,k≠hp b->Abs.look L' k=none):=by
 have o1:=jbt 0 (by omega);rw[show((0:Int):Rat)=0 from rfl]at o1;simp only[frac,ints]at o1;refine jav [6] [] [.tmp 2] Tryz.func178 ?_;simp only[go_sem];refine⟨by omega,jhw (fun b hb=> ?_)⟩;clear hb;simp only[zW,go_sem];refine jaz [3,8,9] (fun g:Nat×Abs.Rows=>⟨[(3,.im (.ref b 35 4 n)),(8,.im (.int n)),(9,.im (.int g.1))],g.2,[]⟩)
  (fun g=>g.1<=n/\blks g.2/\Abs.look g.2 (hp b)=some (4,tab n fun k=>if k<g.1 then qc 0 else x4)/\∀k,k≠hp b->Abs.look g.2 k=none) (fun g=>n-g.1) (0,[(hp b,4,tab n fun _=>x4)]) ?_ ?_ rfl
  ⟨zE _,jat jc8,by rw[ja2];simp,fun k hk=>by rw[ja0 _ _ hk];rfl⟩ ?_
 ·simp only[Int.natCast_zero,go_sem]
 ·exact SubR.of_eq (by rw[<-ji1];rfl)
 ·intro⟨j,M⟩ ⟨hj,hM,hMA,hMo⟩;dsimp only at hj hM hMA hMo;have F2:=bF hM;have K2:=bK hM;have G2:=bN hM;by_cases hlt:j<n
  ·have hd:decide ((j:Int)<n)=true:=za (by omega);have hjn:(j:Int)<n:=by omega
   have h1:=ja9 (n:=(j:Int)+1) (by omega);have hga:(tab n fun k=>if k<j then qc 0 else x4)[j]? =some [.int 0,.emp,.int 0,.emp]:=by rw[jfm hlt,zn (by omega)];rfl
   simp only[hd,F2,K2,go_sem];refine ja1 o1 ?_;simp only[hMA,hga,hjn,ja6,Int.toNat_natCast,F2,K2,G2,go_sem];refine jaa (j+1,M.map (fun p=>if p.1=hp b then(p.1,4,(tab n fun k=>if k<j then qc 0 else x4).set j (fc 0))else p)) ?_ ?_ rfl (by show n-(j+1)<n-j;omega)
    ⟨hlt,jb8 hM,(jae hMA).trans ?_,fun k hk=>(jan hk).trans (hMo k hk)⟩
   ·simp only[h1,Int.natCast_add,go_sem]
   ·exact SubR.of_eq rfl
   ·rw[jkh];congr 2;refine jak fun k _=> ?_;by_cases e:k=j
    ·subst e;rw[zm rfl,zm (by show k<k+1;omega)];rfl
    ·have e':(k<j)↔(k<j+1):=by omega
     rw[zn e];simp only[e']
  ·have hd:decide ((j:Int)<n)=false:=zq (by omega);have hjn:j=n:=by omega
   subst hjn;have hl:Abs.look M (hp b)=some (4,tab j fun _=>qc 0):=hMA.trans (by congr 2;exact jak fun k hk=>zm hk);simp only[hd,go_sem];refine jbh M hM (SubR.of_eq rfl) ?_;simp only[go_sem];exact⟨b,rfl,hM,hl,hMo⟩
end
end Go.Proofs.YthahgoopboilkaaGreat
namespace Go.LP
section
def S:Nat->(Nat->Rat)->Rat
 | 0,_=>0
 | n+1,f=>S n f+f n
theorem S_congr{f g:Nat->Rat}:∀{n:Nat},(∀j,j<n->f j=g j)->S n f=S n g
 | 0,_=>rfl
 | n+1,h=>by rw[S,S,S_congr fun j hj=>h j (by omega),h n (by omega)]
theorem S_add(f g:Nat->Rat):∀n:Nat,S n (fun j=>f j+g j)=S n f+S n g
 | 0=>by simp only[S];grind
 | n+1=>by simp only[S,S_add f g n];grind
theorem S_mul(c:Rat)(f:Nat->Rat):∀n:Nat,S n (fun j=>c*f j)=c*S n f
 | 0=>by simp only[S];grind
 | n+1=>by simp only[S,S_mul c f n];grind
theorem jfj{f:Nat->Rat}:∀{n:Nat},(∀j,j<n->f j=0)->S n f=0
 | 0,_=>rfl
 | n+1,h=>by rw[S,jfj fun j hj=>h j (by omega),h n (by omega)];grind
theorem jfp{f:Nat->Rat}{s:Nat}:∀{n:Nat},s<n->S n f=f s+S n (fun j=>if j=s then 0 else f j)
 | n+1,h=>by
  simp only[S];by_cases e:s=n
  ·subst e;rw[zm rfl,S_congr (f:=fun j=>if j=s then 0 else f j) (g:=f) fun j hj=>zn (by omega)];grind
  ·rw[zn (zD e),jfp (n:=n) (s:=s) (by omega)];grind
theorem S_one{f:Nat->Rat}{s n:Nat}(hs:s<n)(h:∀j,j<n->j≠s->f j=0):S n f=f s:=by
 rw[jfp hs,jfj fun j hj=> ?_]
 ·grind
 ·by_cases e:j=s
  ·rw[zm e]
  ·rw[zn e];exact h j hj e
theorem je1{f:Nat->Rat}:∀{n:Nat},(∀j,j<n->0<=f j)->0<=S n f
 | 0,_=>by simp only[S];grind
 | n+1,h=>by
  have h1:=je1 (n:=n) fun j hj=>h j (by omega);have h2:=h n (by omega);simp only[S];grind
theorem S_pos{f:Nat->Rat}{s n:Nat}(hs:s<n)(h:∀j,j<n->0<=f j)(hp:0<f s):0<S n f:=by
 rw[jfp hs];have:=je1 (n:=n) (f:=fun j=>if j=s then 0 else f j) fun j hj=>by
  by_cases e:j=s
  ·simp only[e,qC];grind
  ·simp only[e,qt];exact h j hj
 grind
structure Dic where
 m:Nat
 n:Nat
 own:Nat->Nat
 free:Nat->Nat
 v:Nat->Rat
 g:Nat->Rat
 a:Nat->Nat->Rat
def Dic.row(D:Dic)(x:Nat->Rat)(i:Nat):Prop:=x (D.own i)+S D.n (fun j=>D.a i j*x (D.free j))=D.v i
def Dic.Sat(D:Dic)(x:Nat->Rat):Prop:=∀i,i<D.m->D.row x i
def Dic.lin(D:Dic)(x:Nat->Rat):Rat:=S D.n (fun j=>D.g j*x (D.free j))
structure Dic.Ok(D:Dic):Prop where
 own:∀i i',i<D.m->i'<D.m->D.own i=D.own i'->i=i'
 free:∀j j',j<D.n->j'<D.n->D.free j=D.free j'->j=j'
 apart:∀i j,i<D.m->j<D.n->D.own i≠D.free j
def exch(p:Rat)(row:Nat->Rat)(s:Nat)(c:Nat->Rat)(j:Nat):Rat:=if j=s then 0-c s*(1/p)else c j-c s*(row j/p)
def Dic.pivot(D:Dic)(r s:Nat):Dic where
 m:=D.m
 n:=D.n
 own i:=if i=r then D.free s else D.own i
 free j:=if j=s then D.own r else D.free j
 v i:=if i=r then D.v r/D.a r s else D.v i-D.a i s*(D.v r/D.a r s)
 g:=exch (D.a r s) (D.a r) s D.g
 a i:=if i=r then(fun j=>if j=s then 1/D.a r s else D.a r j/D.a r s)else exch (D.a r s) (D.a r) s (D.a i)
section
variable{D:Dic}{r s:Nat}{x:Nat->Rat}
theorem jp8(hs:s<D.n)(hp:D.a r s≠0):(D.pivot r s).row x r↔D.row x r:=by
 have e1:S D.n (fun j=>(D.pivot r s).a r j*x ((D.pivot r s).free j))=1/D.a r s*x (D.own r)+(1/D.a r s)*S D.n (fun j=>if j=s then 0 else D.a r j*x (D.free j)):=by
  rw[jfp hs,<-S_mul];congr 1
  ·simp[Dic.pivot]
  ·refine S_congr fun j hj=> ?_;by_cases e:j=s
   ·simp[e]
   ·simp only[Dic.pivot,e,qt,qC];rw[Rat.div_def,Rat.div_def];grind
 have e2:S D.n (fun j=>D.a r j*x (D.free j))=D.a r s*x (D.free s)+S D.n (fun j=>if j=s then 0 else D.a r j*x (D.free j)):=jfp hs;unfold Dic.row;show x ((D.pivot r s).own r)+S D.n _=(D.pivot r s).v r↔_;rw[e1,e2];generalize S D.n (fun j=>if j=s then 0 else D.a r j*x (D.free j))=T;simp only[Dic.pivot,qC];generalize D.a r s=p at*;have hpi:p*p⁻¹=1:=vm p hp;rw[Rat.div_def,Rat.div_def];constructor
 ·intro h;have:=qd (p* ·) h;grind
 ·intro h;rw[<-h];grind
theorem jra(hs:s<D.n)(hp:D.a r s≠0)(hr:D.row x r)(c:Nat->Rat):
  S D.n (fun j=>c j*x (D.free j))=S D.n (fun j=>exch (D.a r s) (D.a r) s c j*x ((D.pivot r s).free j))+c s*(D.v r/D.a r s):=by
 have h1:S D.n (fun j=>c j*x (D.free j))=c s*x (D.free s)+S D.n (fun j=>if j=s then 0 else c j*x (D.free j)):=jfp hs;have h2:S D.n (fun j=>D.a r j*x (D.free j))=D.a r s*x (D.free s)+S D.n (fun j=>if j=s then 0 else D.a r j*x (D.free j)):=jfp hs;have h3:S D.n (fun j=>exch (D.a r s) (D.a r) s c j*x ((D.pivot r s).free j))=(0-c s*(1/D.a r s))*x (D.own r)+(S D.n (fun j=>if j=s then 0 else c j*x (D.free j))+(-(c s*(1/D.a r s)))*S D.n (fun j=>if j=s then 0 else D.a r j*x (D.free j))):=by
  rw[jfp hs,<-S_mul,<-S_add];congr 1
  ·simp[Dic.pivot,exch]
  ·refine S_congr fun j hj=> ?_;by_cases e:j=s
   ·simp only[e,qC];grind
   ·simp only[Dic.pivot,exch,e,qt];rw[Rat.div_def,Rat.div_def];grind
 unfold Dic.row at hr;rw[h2]at hr;rw[h1,h3];generalize S D.n (fun j=>if j=s then 0 else c j*x (D.free j))=T1 at*;generalize S D.n (fun j=>if j=s then 0 else D.a r j*x (D.free j))=T2 at*;generalize D.a r s=p at*;have hpi:p*p⁻¹=1:=vm p hp;rw[<-hr,Rat.div_def,Rat.div_def];grind
theorem sat_pivot(hr:r<D.m)(hs:s<D.n)(hp:D.a r s≠0):(D.pivot r s).Sat x↔D.Sat x:=by
 have key:D.row x r->∀i,i≠r->((D.pivot r s).row x i↔D.row x i):=by
  intro h i hi;have:=jra hs hp h (D.a i);unfold Dic.row;show x ((D.pivot r s).own i)+S D.n _=(D.pivot r s).v i↔_;rw[this];have e1:(D.pivot r s).a i=exch (D.a r s) (D.a r) s (D.a i):=by simp[Dic.pivot,hi]
  have e2:(D.pivot r s).own i=D.own i:=by simp[Dic.pivot,hi]
  have e3:(D.pivot r s).v i=D.v i-D.a i s*(D.v r/D.a r s):=by simp[Dic.pivot,hi]
  rw[e1,e2,e3];constructor<;>intro h<;>grind
 constructor
 ·intro h i hi;have h0:=(jp8 hs hp).1 (h r hr);by_cases e:i=r
  ·subst e;exact h0
  ·exact(key h0 i e).1 (h i hi)
 ·intro h i hi;by_cases e:i=r
  ·subst e;exact(jp8 hs hp).2 (h i hi)
  ·exact(key (h r hr) i e).2 (h i hi)
theorem lin_pivot(hr:r<D.m)(hs:s<D.n)(hp:D.a r s≠0)(h:D.Sat x):D.lin x=(D.pivot r s).lin x+D.g s*(D.v r/D.a r s):=
 jra hs hp (h r hr) D.g
theorem jnl(h:D.Ok)(hr:r<D.m)(hs:s<D.n):(D.pivot r s).Ok where
 own i i' hi hi' e:=by
  simp only[Dic.pivot]at e hi hi';split at e<;>split at e
  ·omega
  ·exact absurd e.symm (h.apart i' s hi' hs)
  ·exact absurd e (h.apart i s hi hs)
  ·exact h.own i i' hi hi' e
 free j j' hj hj' e:=by
  simp only[Dic.pivot]at e hj hj';split at e<;>split at e
  ·omega
  ·exact absurd e (h.apart r j' hr hj')
  ·exact absurd e.symm (h.apart r j hr hj)
  ·exact h.free j j' hj hj' e
 apart i j hi hj e:=by
  simp only[Dic.pivot]at e hi hj;split at e<;>split at e<;>rename_i h1 h2
  ·exact h.apart r s hr hs e.symm
  ·exact h2 (h.free s j hs hj e).symm
  ·exact h1 (h.own i r hi hr e)
  ·exact h.apart i j hi hj e
end
structure Eqv(D E:Dic):Prop where
 sat:∀x,D.Sat x↔E.Sat x
 lin:∃c,∀x,D.Sat x->D.lin x=E.lin x+c
theorem Eqv.refl(D:Dic):Eqv D D:=⟨fun _=>Iff.rfl,0,fun x _=>by grind⟩
theorem Eqv.symm{D E:Dic}(h:Eqv D E):Eqv E D:=by
 obtain⟨c,hc⟩:=h.lin;exact⟨fun x=>(h.sat x).symm,-c,fun x hx=>by have:=hc x ((h.sat x).2 hx);grind⟩
theorem Eqv.trans{D E F:Dic}(h:Eqv D E)(h':Eqv E F):Eqv D F:=by
 obtain⟨c,hc⟩:=h.lin;obtain⟨c',hc'⟩:=h'.lin;exact⟨fun x=>(h.sat x).trans (h'.sat x),c+c',fun x hx=>by have:=hc x hx;have:=hc' x ((h.sat x).1 hx);grind⟩
theorem jli{D:Dic}{r s:Nat}(hr:r<D.m)(hs:s<D.n)(hp:D.a r s≠0):Eqv D (D.pivot r s):=
 ⟨fun x=>(sat_pivot hr hs hp).symm,_,fun x hx=>lin_pivot hr hs hp hx⟩
def find(f:Nat->Nat)(k:Nat):Nat->Option Nat
 | 0=>none
 | m+1=>if f m=k then some m else find f k m
theorem find_some{f:Nat->Nat}{k i:Nat}:∀{m:Nat},find f k m=some i->i<m/\f i=k
 | m+1,h=>by
  unfold find at h;split at h
  ·cases h;exact⟨by omega,‹_›⟩
  ·have:=find_some h;exact⟨by omega,this.2⟩
theorem jle{f:Nat->Nat}{k:Nat}:∀{m:Nat},find f k m=none->∀i,i<m->f i≠k
 | m+1,h,i,hi=>by
  unfold find at h;split at h
  ·cases h
  ·by_cases e:i=m
   ·subst e;assumption
   ·exact jle h i (by omega)
def Dic.pt(D:Dic)(k:Nat):Rat:=match find D.own k D.m with
 | some i=>D.v i
 | none=>0
def Dic.dir(D:Dic)(s:Nat)(k:Nat):Rat:=match find D.own k D.m with
 | some i=> -(D.a i s)
 | none=>if k=D.free s then 1 else 0
section
variable{D:Dic}
theorem jrf(h:D.Ok){i:Nat}(hi:i<D.m):D.pt (D.own i)=D.v i:=by
 unfold Dic.pt;cases e:find D.own (D.own i) D.m with
 | none=>exact absurd rfl (jle e i hi)
 | some i'=>
  obtain⟨h1,h2⟩:=find_some e;rw[h.own i' i h1 hi h2]
theorem jqg(h:D.Ok){j:Nat}(hj:j<D.n):D.pt (D.free j)=0:=by
 unfold Dic.pt;cases e:find D.own (D.free j) D.m with
 | none=>rfl
 | some i'=>
  obtain⟨h1,h2⟩:=find_some e;exact absurd h2 (h.apart i' j h1 hj)
theorem jqh{k:Nat}(h:∀i,i<D.m->D.own i≠k):D.pt k=0:=by
 unfold Dic.pt;cases e:find D.own k D.m with
 | none=>rfl
 | some i'=>
  obtain⟨h1,h2⟩:=find_some e;exact absurd h2 (h i' h1)
theorem pt_sat(h:D.Ok):D.Sat D.pt:=by
 intro i hi;unfold Dic.row;rw[jrf h hi,jfj fun j hj=>by rw[jqg h hj];grind];grind
theorem pt_lin(h:D.Ok):D.lin D.pt=0:=jfj fun j hj=>by rw[jqg h hj];grind
theorem jlo(h:D.Ok){i s:Nat}(hi:i<D.m):D.dir s (D.own i)= -(D.a i s):=by
 unfold Dic.dir;cases e:find D.own (D.own i) D.m with
 | none=>exact absurd rfl (jle e i hi)
 | some i'=>
  obtain⟨h1,h2⟩:=find_some e;rw[h.own i' i h1 hi h2]
theorem jfg(h:D.Ok){j s:Nat}(hj:j<D.n)(hs:s<D.n):D.dir s (D.free j)=if j=s then 1 else 0:=by
 unfold Dic.dir;cases e:find D.own (D.free j) D.m with
 | none=>
  by_cases e':j=s
  ·subst e';simp
  ·simp only[e',qt];rw[zn fun h'=>e' (h.free j s hj hs h')]
 | some i'=>
  obtain⟨h1,h2⟩:=find_some e;exact absurd h2 (h.apart i' j h1 hj)
theorem jse{k s:Nat}(h:∀i,i<D.m->D.own i≠k)(hk:k≠D.free s):D.dir s k=0:=by
 unfold Dic.dir;cases e:find D.own k D.m with
 | none=>simp[hk]
 | some i'=>
  obtain⟨h1,h2⟩:=find_some e;exact absurd h2 (h i' h1)
theorem dir_sum(h:D.Ok){s:Nat}(hs:s<D.n)(c:Nat->Rat):S D.n (fun j=>c j*D.dir s (D.free j))=c s:=by
 rw[S_one hs fun j hj e=>by rw[jfg h hj hs,zn e];grind];rw[jfg h hs hs,zm rfl];grind
theorem dir_sat(h:D.Ok){s:Nat}(hs:s<D.n){x:Nat->Rat}(hx:D.Sat x)(t:Rat):D.Sat (fun k=>x k+t*D.dir s k):=by
 intro i hi;have h1:=hx i hi;unfold Dic.row at h1⊢;show x (D.own i)+t*D.dir s (D.own i)+S D.n (fun j=>D.a i j*(x (D.free j)+t*D.dir s (D.free j)))=D.v i;rw[jlo h hi];have e:S D.n (fun j=>D.a i j*(x (D.free j)+t*D.dir s (D.free j)))=S D.n (fun j=>D.a i j*x (D.free j))+t*S D.n (fun j=>D.a i j*D.dir s (D.free j)):=by
  rw[<-S_mul,<-S_add];exact S_congr fun j hj=>by grind
 rw[e,dir_sum h hs];grind
theorem lin_add(x w:Nat->Rat)(t:Rat):D.lin (fun k=>x k+t*w k)=D.lin x+t*D.lin w:=by
 unfold Dic.lin;rw[<-S_mul,<-S_add];exact S_congr fun j hj=>by grind
theorem dir_lin(h:D.Ok){s:Nat}(hs:s<D.n):D.lin (D.dir s)=D.g s:=dir_sum h hs D.g
