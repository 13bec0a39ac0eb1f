/- A part of the proof. No further condition. -/
import Derived.Test.YtgncgpfjldefpaaGreatKR25
import Derived.Test.YtgncgpfjldefpaaGreatKR41
set_option linter.all false
set_option maxRecDepth 10000000
set_option maxHeartbeats 16000000
namespace Go.Proofs.YtgncgpfjldefpaaGreat
section
open Go.Abs
open Go.LP (Rw RT tsum Sol)
attribute [local go_sem] ints ic Bat.c Pap.c Led.c bl
def exQ:Evid:=⟨1,1,1,[⟨0,0,0⟩,⟨1,-1,-1⟩,⟨5,-1,-1⟩],[⟨1,0,1,0,5000,false⟩,⟨2,1,2,-1,0,true⟩],[⟨0,0,9,100,0,0⟩],[],[]⟩
def eqPl:List (List IV):=[[.int 0,.int 0,.int 0],[.int 1,.int (-1),.int (-1)],[.int 5,.int (-1),.int (-1)]]
def eqMv:List (List IV):=[[.int 1,.int 0,.int 1,.int 0,.int 5000,.bool false],[.int 2,.int 1,.int 2,.int (-1),.int 0,.bool true]]
def eqCt:List (List IV):=[[.int 0,.int 0,.int 9,.int 100,.int 0,.int 0]]
theorem eq_rows:rowsE exQ=[⟨[(0,1)],0,4900⟩,⟨[(0,1)],1,5100⟩,⟨[(0,1),(1,-1)],2,0⟩]:=by decide+kernel
theorem eq_sol{x:Nat->Rat}(h:Sol 2 (rowsE exQ) x):4900<=x 1:=by
 rw[eq_rows]at h;have h1:=(h.row ⟨[(0,1)],0,4900⟩ (by simp)).1 (by decide);have h2:=h.row ⟨[(0,1),(1,-1)],2,0⟩ (by simp);have h4:=h2.1 (by decide);have h5:=h2.2 (by decide);simp only[tsum]at h1 h4 h5;grind
theorem eq_has:Sol 2 (rowsE exQ) (fun _=>4900) where
 pos k hk:=by grind
 row w hw:=by
  rw[eq_rows]at hw;simp only[zT,j7,vH]at hw;rcases hw with rfl | rfl | rfl<;>simp only[Rw.sat,tsum]<;>constructor<;>intro _<;>grind
theorem pb_example:Ctr G.P 26 [] (· = .agg [.int 1,.int 1,.int 1,.sl eqPl,.sl eqMv,.sl eqCt,.sl [],.sl []]):=by
 unfold eqPl eqMv eqCt;refine ja4 [.cell 0 49] Tryz.func26 ?_;simp only[go_sem]
theorem eq_certain:Ctr G.P 20 [.agg [.int 1,.int 1,.int 1,.sl eqPl,.sl eqMv,.sl eqCt,.sl [],.sl []],.agg [.int 0,.sl [[.int 1]]]] (· = .tup [.int 4900,.int 0]):=by
 obtain⟨r,f,b,s,kR⟩:=w_range (e:=exQ) (ps:=[(1,0)]) (small2 (by show 2<=9;omega) (by show(1:Int)<=2;omega) (by show 0<=40;omega)) (by simp);obtain⟨hi,hb⟩:=s.say.low (lo:=((4900:Int):Rat)) (by decide+kernel) eq_has (by show(4900:Rat)+0=4900;decide+kernel) (fun z hz=>by
  have:=eq_sol hz;have e1:wgt exQ [(1,0)] z=z 1+0:=rfl;have e2:((4900:Int):Rat)=4900:=rfl;rw[e1,e2];grind)
 subst hb;have kL:=w_least s kR;have h:=jkr exQ exB (by decide) (by decide+kernel) ((4900:Int):Rat) (by decide+kernel) (by decide+kernel) kL;have e:intF ((((4900:Int):Rat)).num.fdiv (((4900:Int):Rat)).den)=4900:=by decide+kernel
 rw[e]at h;exact h
theorem jq3:Ctr G.P 52 [.agg [.int 1,.int 1,.int 1,.sl eqPl,.sl eqMv,.sl eqCt,.sl [],.sl []],.agg [.int 0,.sl [[.int 1]]]] (· = .bool true):=by
 have h:=jna exQ exB (by decide);rw[show fitsF exQ exB=true by decide+kernel]at h;exact h
def ex3:Led:=⟨[exB],[⟨0,3000,7,false,true⟩,⟨0,1900,8,false,false⟩,⟨0,1000,7,false,false⟩,⟨0,2000,7,false,false⟩]⟩
def ex4:Led:=⟨[exB],[⟨0,3000,7,false,true⟩,⟨0,1900,7,false,false⟩,⟨0,1000,7,false,false⟩,⟨0,2000,7,false,false⟩]⟩
def ex5:Led:=⟨[exB],[⟨0,3000,7,false,true⟩,⟨0,1900,7,false,true⟩,⟨0,1000,7,false,true⟩,⟨0,2000,7,false,false⟩,⟨0,2900,7,false,false⟩]⟩
theorem jfc(ps:List Pap):jgw ⟨[exB],ps⟩:=fun b hb=>by rw[zC.1 hb];decide
theorem pb_small:Ctr G.P 8 [] (· = .bool true):=by
 have kX:=pb_example;have kC:=eq_certain;have kI:=pb_issueA jq3 kC;have kJ:=pb_issueB jq3 kC;have kK:=pb_issueC jq3 kC;have kS:=pb_Split (p:=exW) (jfc _) 7 0 1000;rw[show jm3 exW 7 0 1000=(ex3,0)by kernel_rfl]at kS;have kU:=pb_Join (p:=ex3) (jfc _) 7 2 1;rw[show joinF ex3 7 2 1=(zL,21)by kernel_rfl,zL_c]at kU;have kV:=pb_Give (p:=ex3) (jfc _) 8 1 7;rw[show giveF ex3 8 1 7=(ex4,0)by kernel_rfl]at kV;have kW:=pb_Join (p:=ex4) (jfc _) 7 1 2;rw[show joinF ex4 7 1 2=(ex5,0)by kernel_rfl]at kW;have kY:=jkq ex5 [4900] (jfc _) (fun v hv=>by rw[zC.1 hv];omega);rw[show jkf ex5 [4900]=[false,false,false,true,true]by kernel_rfl]at kY;have kZ:=jkq ex5 [4899] (jfc _) (fun v hv=>by rw[zC.1 hv];omega);rw[show jkf ex5 [4899]=[false,false,false,true,false]by kernel_rfl]at kZ;have kT:=jk1 ex5 0 (jfc _);rw[show totF ex5 0=4900 by kernel_rfl]at kT;have kR:=jfe ex5 (jfc _);rw[show jbv ex5=true by kernel_rfl]at kR;have kB1:=jqz [false,false,false,true,true] [false,false,false,true,true] (by decide);have kB2:=jqz [false,false,false,true,false] [false,false,false,true,false] (by decide);rw[zk rfl]at kB1 kB2;generalize eqPl=pl at*;generalize eqMv=mv at*;generalize eqCt=ct at*;simp only[exO,exW,ex3,ex4,ex5,exB,Led.c,Bat.c,Pap.c,ints,ic,bl,zr,zE]at*
 refine ja4 [.tmp 0] Tryz.func8 ?_;simp only[go_sem];refine ja1 kX ?_;simp only[go_sem];refine ja1 kC ?_;simp only[go_sem];refine ja1 kI ?_;simp only[go_sem];refine ja1 kJ ?_;simp only[go_sem];refine ja1 kK ?_;simp only[go_sem];refine ja1 kS ?_;simp only[go_sem];refine ja1 kU ?_;simp only[go_sem];refine ja1 kV ?_;simp only[go_sem];refine ja1 kW ?_;simp only[go_sem];refine ja1 kY ?_;simp only[go_sem];refine ja1 kB1 ?_;simp only[go_sem];refine ja1 kZ ?_;simp only[go_sem];refine ja1 kB2 ?_;simp only[go_sem];refine ja1 kT ?_;simp only[go_sem];refine ja1 kR ?_;simp only[go_sem]
