/- A part of the proof. No further condition. -/
import Derived.Test.YtgncgpfjldefpaaGreatKP27
import Derived.Test.YtgncgpfjldefpaaGreatKP44
import Derived.Test.YtgncgpfjldefpaaGreatKP47
set_option linter.all false
set_option maxRecDepth 10000000
set_option maxHeartbeats 16000000
namespace Go.Proofs.YtgncgpfjldefpaaGreat
section
open Go.Abs
attribute [local go_sem] ints ic Bat.c Pap.c Led.c bl
theorem KeptL.short{p q:Led}{i j:Int}(h:KeptL p q i j)(hs:jdk p):jdk q:=fun b hb=>hs b (by rw[<-h.bs];exact hb)
theorem pb_keeps(k0:Ctr G.P 8 [] (· = .bool true))(p:Led)(b i j n:Int):Ctr G.P 4 [.agg p.c,.int b,.int i,.int j,.int n] (· = .bool true):=by
 have kF:=pb_few p;rcases hf:fewF p with _ | _
 ·rw[hf]at kF;simp only[Led.c]at*;refine ja4 [.tmp 10] Tryz.func4 ?_;simp only[go_sem];refine ja1 k0 ?_;simp only[go_sem];refine ja1 kF ?_;simp only[go_sem]
 rw[hf]at kF;obtain⟨_,_,hs,_⟩:=jou hf;have kR:=jdw p hs;rcases hr:jb6 p with _ | _
 ·rw[hr]at kR;simp only[Led.c]at*;refine ja4 [.tmp 10] Tryz.func4 ?_;simp only[go_sem];refine ja1 k0 ?_;simp only[go_sem];refine ja1 kF ?_;simp only[go_sem];refine ja1 kR ?_;simp only[go_sem]
 rw[hr]at kR;have hl:=(jb5 hr).2.1;have w1:=jaa (n:=(p.ps.length:Int)+2) (by omega);have w2:=jaa (n:=(p.ps.length:Int)+1) (by omega);have kS:=jjq hs b i n;have kJ:=jkb hs b i j;have kG:=jpk hs b i n;have kT:=jod hs b i;obtain⟨hc1,hcg⟩:=keeps_codes (p:=p) (b:=b) (i:=i) (n:=n) hr;obtain⟨⟨a,e⟩,hS⟩:∃z,jep p b i n=z:=⟨_,rfl⟩;obtain⟨⟨q,f⟩,hJ⟩:∃z,joinF p b i j=z:=⟨_,rfl⟩;obtain⟨⟨c,g⟩,hG⟩:∃z,giveF p b i n=z:=⟨_,rfl⟩;obtain⟨⟨d,h⟩,hT⟩:∃z,jd7 p b i=z:=⟨_,rfl⟩;rw[hS]at kS;rw[hJ]at kJ;rw[hG]at kG hcg;rw[hT]at kT hc1 hcg;dsimp only at hc1 hcg kS kJ kG kT;have d1:decide (h=1)=false:=ze hc1;have K1:e=0->Ctr G.P 16 [.agg p.c,.agg a.c,.int i,.int i] (· = .bool true):=fun h0=>by subst h0;exact jiv p a i i hr hs (jha hS).1
 have K2:f=0->Ctr G.P 16 [.agg p.c,.agg q.c,.int i,.int j] (· = .bool true):=fun h0=>by subst h0;exact jiv p q i j hr hs (jkn hJ).1
 have K3:g=0->Ctr G.P 16 [.agg p.c,.agg c.c,.int i,.int i] (· = .bool true):=fun h0=>by subst h0;exact jiv p c i i hr hs (jop hG).1
 have K4:h=0->Ctr G.P 16 [.agg p.c,.agg d.c,.int i,.int i] (· = .bool true):=fun h0=>by subst h0;exact jiv p d i i hr hs (jf7 hT).1
 have T1:e=0->decide ((a.ps.length:Int)=(p.ps.length:Int)+2)=true:=fun h0=>by subst h0;have:=(jha hS).2;exact zh (by omega)
 have T2:f=0->decide ((q.ps.length:Int)=(p.ps.length:Int)+1)=true:=fun h0=>by subst h0;have:=(jkn hJ).2;exact zh (by omega)
 have T3:g=0->decide ((c.ps.length:Int)=(p.ps.length:Int))=true:=fun h0=>by subst h0;have:=(jop hG).2;exact zh (by omega)
 have T4:h=0->decide ((d.ps.length:Int)=(p.ps.length:Int))=true:=fun h0=>by subst h0;have:=(jf7 hT).2;exact zh (by omega)
 have Z:h=0->(jep d b i 1).2=7/\(giveF d b i 1).2=7/\∃k:Nat,i=(k:Int)/\k<(jeo d [1099511627776]).length/\(jeo d [1099511627776])[k]? =some false:=fun h0=>by subst h0;exact keeps_after hT
 have Y:h=0->jdk d:=fun h0=>by subst h0;exact(jf7 hT).1.short hs
 clear hS hJ hG hT;simp only[Led.c]at kF kR kS kJ kG kT K1 K2 K3 K4⊢;refine ctrX_of (t:=10) good Tryz.func4 rfl (by decide+kernel) (yh rfl) rfl ?_;refine SemC.cuts good ⟨[(1,.im (.int b)),(2,.im (.int i)),(3,.im (.int j)),(5,.loc 5 2 0 0),(11,.im (.bool true)),(12,.loc 12 2 0 0),(13,.im (.int e)),(14,.loc 14 2 0 0),(15,.im (.int f)),(16,.loc 16 2 0 0),(17,.im (.int g)),(18,.loc 18 2 0 0),(19,.im (.int h))],
  [(18,2,[d.c]),(16,2,[c.c]),(14,2,[q.c]),(12,2,[a.c]),(5,2,[p.c])],[]⟩ 7 rfl (by decide+kernel) ?_ ?_
 ·as_aux_lemma=>
   simp only[putN];simp only[go_sem];refine ja1 k0 ?_;simp only[go_sem];refine ja1 kF ?_;simp only[go_sem];refine ja1 kR ?_;simp only[go_sem];refine ja1 kS ?_;simp only[go_sem];refine ja1 kJ ?_;simp only[go_sem];refine ja1 kG ?_;simp only[go_sem];refine ja1 kT ?_;simp only[go_sem];refine jim [1,2,3,5,11,12,13,14,15,16,17,18,19] ?_ (SubR.of_eq ?_) rfl
   ·simp only[go_sem]
   ·simp only[go_sem]
 simp only[tailN];refine SemC.cuts good ⟨[(1,.im (.int b)),(2,.im (.int i)),(5,.loc 5 2 0 0),(11,.im (.bool true)),(16,.loc 16 2 0 0),(17,.im (.int g)),(18,.loc 18 2 0 0),(19,.im (.int h))],
  [(18,2,[d.c]),(16,2,[c.c]),(14,2,[q.c]),(12,2,[a.c]),(5,2,[p.c])],[]⟩ 1 rfl (by decide+kernel) ?_ ?_
 ·as_aux_lemma=>
   simp only[putN];rcases de:decide (e=0)with _ | _<;>rcases df:decide (f=0)with _ | _
   ·simp only[de,df,go_sem];refine jim [1,2,5,11,16,17,18,19] ?_ (SubR.of_eq ?_) rfl
    ·simp only[go_sem]
    ·simp only[go_sem]
   ·have t2:=T2 (zF df);simp only[de,df,go_sem];refine ja1 (K2 (zF df)) ?_;simp only[de,df,w2,t2,za,go_sem];refine jim [1,2,5,11,16,17,18,19] ?_ (SubR.of_eq ?_) rfl
    ·simp only[go_sem]
    ·simp only[go_sem]
   ·have t1:=T1 (zF de);simp only[de,df,go_sem];refine ja1 (K1 (zF de)) ?_;simp only[de,df,w1,t1,za,go_sem];refine jim [1,2,5,11,16,17,18,19] ?_ (SubR.of_eq ?_) rfl
    ·simp only[go_sem]
    ·simp only[go_sem]
   ·have t1:=T1 (zF de);have t2:=T2 (zF df);simp only[de,df,go_sem];refine ja1 (K1 (zF de)) ?_;simp only[de,df,w1,t1,za,go_sem];refine ja1 (K2 (zF df)) ?_;simp only[de,df,w2,t2,za,go_sem];refine jim [1,2,5,11,16,17,18,19] ?_ (SubR.of_eq ?_) rfl
    ·simp only[go_sem]
    ·simp only[go_sem]
 simp only[tailN];refine SemC.cuts good ⟨[(1,.im (.int b)),(2,.im (.int i)),(11,.im (.bool true)),(17,.im (.int g)),(18,.loc 18 2 0 0),(19,.im (.int h))],
  [(18,2,[d.c]),(16,2,[c.c]),(14,2,[q.c]),(12,2,[a.c]),(5,2,[p.c])],[]⟩ 1 rfl (by decide+kernel) ?_ ?_
 ·as_aux_lemma=>
   simp only[putN];rcases dg:decide (g=0)with _ | _<;>rcases dh:decide (h=0)with _ | _
   ·simp only[dg,dh,go_sem];refine jim [1,2,11,17,18,19] ?_ (SubR.of_eq ?_) rfl
    ·simp only[go_sem]
    ·simp only[go_sem]
   ·have t2:=T4 (zF dh);simp only[dg,dh,go_sem];refine ja1 (K4 (zF dh)) ?_;simp only[dg,dh,t2,za,go_sem];refine jim [1,2,11,17,18,19] ?_ (SubR.of_eq ?_) rfl
    ·simp only[go_sem]
    ·simp only[go_sem]
   ·have t1:=T3 (zF dg);simp only[dg,dh,go_sem];refine ja1 (K3 (zF dg)) ?_;simp only[dg,dh,t1,za,go_sem];refine jim [1,2,11,17,18,19] ?_ (SubR.of_eq ?_) rfl
    ·simp only[go_sem]
    ·simp only[go_sem]
   ·have t1:=T3 (zF dg);have t2:=T4 (zF dh);simp only[dg,dh,go_sem];refine ja1 (K3 (zF dg)) ?_;simp only[dg,dh,t1,za,go_sem];refine ja1 (K4 (zF dh)) ?_;simp only[dg,dh,t2,za,go_sem];refine jim [1,2,11,17,18,19] ?_ (SubR.of_eq ?_) rfl
    ·simp only[go_sem]
    ·simp only[go_sem]
 simp only[tailN];refine SemC.awp good (by decide+kernel) ?_;clear K1 K2 K3 K4 T1 T2 T3 T4 kF kR kS kJ kG kT;rcases dh:decide (h=0)with _ | _
 ·rcases dg1:decide (g=1)with _ | _
  ·have dgh:decide (g=h)=true:=zh (hcg (zK dg1));simp only[dh,dg1,dgh,d1,go_sem]
  ·simp only[dh,dg1,d1,go_sem]
 ·have h0:=zF dh;subst h0;obtain⟨s1,s2,k,rfl,hk,hkv⟩:=Z rfl;have kS2:=jjq (Y rfl) b k 1;have kG2:=jpk (Y rfl) b k 1;have kD:=jhq d [1099511627776] (Y rfl) (fun v hv=>by rw[zC.1 hv];omega);obtain⟨⟨r1,x1⟩,e1⟩:∃z,jep d b k 1=z:=⟨_,rfl⟩;obtain⟨⟨r2,x2⟩,e2⟩:∃z,giveF d b k 1=z:=⟨_,rfl⟩;rw[e1]at kS2 s1;rw[e2]at kG2 s2;dsimp only at s1 s2 kS2 kG2;subst s1 s2;clear e1 e2 Z Y;generalize jeo d [1099511627776]=st at*;simp only[Led.c,ints,ic,zn,zB]at kS2 kG2 kD;have hk0:decide ((k:Int)<0)=false:=ze (by omega);have hk1:decide ((st.length:Int)<=(k:Int))=false:=ze (by omega);have hk2:(k:Int)<(st.length:Int):=by omega
  have d2:decide ((0:Int)=1)=false:=rfl;rcases dg1:decide (g=1)with _ | _
  all_goals
   first | have dgh:decide (g=0)=true:=zh (hcg (zK dg1)) | have dgh:=dg1
   simp only[dg1,dgh,d2,go_sem];refine ja1 kS2 ?_;simp only[go_sem];refine ja1 kG2 ?_;simp only[go_sem];refine ja1 kD ?_;simp only[za,hk0,hk1,hk,hk2,zq,hkv,go_sem]
end
end Go.Proofs.YtgncgpfjldefpaaGreat
