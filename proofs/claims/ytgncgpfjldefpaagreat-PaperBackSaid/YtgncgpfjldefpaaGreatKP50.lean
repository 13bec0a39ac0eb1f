/- A part of the proof. No further condition. -/
import Derived.Test.YtgncgpfjldefpaaGreatKP27
import Derived.Test.YtgncgpfjldefpaaGreatKP44
set_option linter.all false
set_option maxRecDepth 10000000
set_option maxHeartbeats 16000000
namespace Go.Proofs.YtgncgpfjldefpaaGreat
section
open Go.Abs
attribute [local go_sem] ints ic Bat.c Pap.c Led.c
theorem pb_back(k0:Ctr G.P 8 [] (· = .bool true))(p:Led)(b i n:Int):Ctr G.P 5 [.agg p.c,.int b,.int i,.int n] (· = .bool true):=by
 have kF:=pb_few p;rcases hf:fewF p with _ | _
 ·rw[hf]at kF;simp only[Led.c]at*;refine ja4 [.tmp 8] Tryz.func5 ?_;simp only[go_sem];refine ja1 k0 ?_;simp only[go_sem];refine ja1 kF ?_;simp only[go_sem]
 rw[hf]at kF;obtain⟨_,_,hs,_⟩:=jou hf;rcases h290:decide (290<(p.ps.length:Int))with _ | _
 case true=>
  simp only[Led.c]at*;refine ja4 [.tmp 8] Tryz.func5 ?_;simp only[go_sem];refine ja1 k0 ?_;simp only[go_sem];refine ja1 kF ?_;simp only[za,h290,go_sem]
 have l290:=zK h290;have kR:=jdw p hs;rcases hr:jb6 p with _ | _
 ·rw[hr]at kR;simp only[Led.c]at*;refine ja4 [.tmp 8] Tryz.func5 ?_;simp only[go_sem];refine ja1 k0 ?_;simp only[go_sem];refine ja1 kF ?_;simp only[za,h290,go_sem];refine ja1 kR ?_;simp only[go_sem]
 rw[hr]at kR;have kS:=jjq hs b i n;obtain⟨⟨a,e⟩,hS⟩:∃z,jep p b i n=z:=⟨_,rfl⟩;rw[hS]at kS;dsimp only at kS;rcases de:decide (e=0)with _ | _
 ·simp only[Led.c]at*;refine ja4 [.tmp 8] Tryz.func5 ?_;simp only[go_sem];refine ja1 k0 ?_;simp only[go_sem];refine ja1 kF ?_;simp only[za,h290,go_sem];refine ja1 kR ?_;simp only[go_sem];refine ja1 kS ?_;simp only[de,go_sem]
 have he:=zF de;subst he;clear de;have hA:jdk a:=fun x hx=>hs x (by rw[<-(jha hS).1.bs];exact hx);obtain⟨k,x,q,c,rfl,hk,hx,hal,hJ,hT,hJ2,hql,hqx,hK1,hK2,y,hqy,hyg⟩:=back_ok hS (by omega);have hC:jdk c:=fun z hz=>hs z (by rw[<-hK2.bs];exact hz);have kJ:=jkb hA b ((p.ps.length:Int)+1) p.ps.length;have kT:=jod hA b ((p.ps.length:Int)+1);have kU:=jkb hC b p.ps.length ((p.ps.length:Int)+1);rw[hJ]at kJ;rw[hT]at kT;obtain⟨⟨r,f⟩,hU⟩:∃z,joinF c b p.ps.length ((p.ps.length:Int)+1)=z:=⟨_,rfl⟩;rw[hU]at kU hJ2;dsimp only at kJ kT kU hJ2;subst hJ2;have kK1:=jiv p q k k hr hs hK1;have kK2:=jiv p c k k hr hs hK2;have w1:=jaa (n:=(p.ps.length:Int)+1) (by omega);have w2:=jaa (n:=(p.ps.length:Int)+2) (by omega);have w3:=jaa (n:=(p.ps.length:Int)+3) (by omega);have d1:decide ((q.ps.length:Int)=(p.ps.length:Int)+3)=true:=zh (by omega);have d2:decide ((k:Int)<0)=false:=ze (by omega);have d3:decide ((p.ps.length:Int)<=(k:Int))=false:=ze (by omega);have i1:(k:Int)<(p.ps.length:Int):=by omega
 have i2:(0:Int)<=(k:Int):=by omega
 have i3:(k:Int)<(q.ps.length:Int):=by omega
 have i4:k<q.ps.length:=by omega
 have i5:(p.ps.length:Int)+2<(q.ps.length:Int):=by omega
 have i6:(0:Int)<=(p.ps.length:Int)+2:=by omega
 have i7:((p.ps.length:Int)+2).toNat=p.ps.length+2:=by omega
 have i8:p.ps.length+2<q.ps.length:=by omega
 clear hS hJ hT hU hK1 hK2 hs hA hC;obtain⟨yb,yg,yo,yr,ye⟩:=y;dsimp only at hyg;subst hyg;simp only[Led.c]at*;refine ja4 [.tmp 8] Tryz.func5 ?_;simp only[go_sem];refine ja1 k0 ?_;simp only[go_sem];refine ja1 kF ?_;simp only[za,h290,go_sem];refine ja1 kR ?_;simp only[go_sem];refine ja1 kS ?_;simp only[za,w1,go_sem];refine ja1 kJ ?_;simp only[za,w1,go_sem];refine ja1 kT ?_;simp only[za,w1,go_sem];refine ja1 kU ?_;simp only[za,w1,w3,d1,d2,d3,hk,i1,i2,zq,hx,go_sem];refine jai 33 ?_;simp only[za,w2,i1,i2,i3,i4,i5,i6,i7,i8,zq,hx,hqx,hqy,go_sem];refine ja8 kK1 (by decide) ?_;simp only[za,i1,i2,i3,i4,zq,hqy,go_sem];refine ja8 kK2 (by decide) ?_;simp only[za,i1,i2,i3,i4,zq,hqy,go_sem]
end
end Go.Proofs.YtgncgpfjldefpaaGreat
