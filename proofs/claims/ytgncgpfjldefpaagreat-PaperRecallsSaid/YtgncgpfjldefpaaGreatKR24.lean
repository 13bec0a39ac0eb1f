/- A part of the proof. No further condition. -/
import Derived.Test.YtgncgpfjldefpaaGreatKR19
import Derived.Test.YtgncgpfjldefpaaGreatKR23
set_option linter.all false
set_option maxRecDepth 10000000
set_option maxHeartbeats 16000000
namespace Go.Proofs.YtgncgpfjldefpaaGreat
section
open Go.Abs
attribute [local go_sem] ints ic Bat.c Pap.c Led.c
def exB:Bat:=⟨0,[1]⟩
def exO:Led:=⟨[exB],[⟨0,3000,7,false,false⟩]⟩
def exW:Led:=⟨[exB],[⟨0,3000,7,false,false⟩,⟨0,1900,8,false,false⟩]⟩
theorem exO_c:exO.c=[.sl [[.int 0,.sl [[.int 1]]]],.sl [[.int 0,.int 3000,.int 7,.bool false,.bool false]]]:=rfl
theorem exW_c:exW.c=[.sl [[.int 0,.sl [[.int 1]]]],.sl [[.int 0,.int 3000,.int 7,.bool false,.bool false],[.int 0,.int 1900,.int 8,.bool false,.bool false]]]:=rfl
section
variable{pl mv ct:List (List IV)}
theorem pb_issueB(kF:Ctr G.P 52 [.agg [.int 1,.int 1,.int 1,.sl pl,.sl mv,.sl ct,.sl [],.sl []],.agg [.int 0,.sl [[.int 1]]]] (· = .bool true))(kC:Ctr G.P 20 [.agg [.int 1,.int 1,.int 1,.sl pl,.sl mv,.sl ct,.sl [],.sl []],.agg [.int 0,.sl [[.int 1]]]] (· = .tup [.int 4900,.int 0])):
  Ctr G.P 27 [.agg exO.c,.agg [.int 1,.int 1,.int 1,.sl pl,.sl mv,.sl ct,.sl [],.sl []],.agg [.int 0,.sl [[.int 1]]],.int 2000,.int 7] (· = .tup [.agg [.sl [],.sl []],.int 6]):=by
 have hs:jgw exO:=fun b hb=>by rw[zC.1 hb];decide
 have kR:=jfe exO hs;rw[show jbv exO=true by decide+kernel]at kR;have kI:=pb_in 7 0 999;rw[show btw 7 0 999=true by decide+kernel]at kI;have kG:=pb_in 2000 1 1099511627776;rw[show btw 2000 1 1099511627776=true by decide+kernel]at kG;have kX:=pb_iba1 exB 66 [.ip exB.c 0] (by decide) (by
  have h:=jox exB exB (by decide) (by decide)
  rwa [show overF exB exB=true by decide+kernel]at h)
 have kE:=pb_eqs [1] (by decide);have kT:=jk1 exO 0 hs;rw[show totF exO 0=3000 by decide+kernel]at kT;rw[exO_c]at kR kT⊢;simp only[exB,Bat.c,ints,ic,zr,zE]at kX kE;refine ja4 [.cell 10 25,.tmp 11] Tryz.func27 ?_;simp only[go_sem];refine ja1 kR ?_;simp only[go_sem];refine ja1 kF ?_;simp only[go_sem];refine ja1 kI ?_;simp only[go_sem];refine ja1 kG ?_;simp only[go_sem];refine ja1 kX ?_;simp only[go_sem];refine jai 14 ?_;simp only[go_sem];refine ja6 kE (by decide) ?_;simp only[go_sem];refine ja1 kC ?_;simp only[go_sem];refine ja1 kT ?_;have w5:=ja9 (n:=5000) (by omega);have d5:decide ((4900:Int)<5000)=true:=rfl;simp only[w5,d5,go_sem]
theorem pb_issueC(kF:Ctr G.P 52 [.agg [.int 1,.int 1,.int 1,.sl pl,.sl mv,.sl ct,.sl [],.sl []],.agg [.int 0,.sl [[.int 1]]]] (· = .bool true))(kC:Ctr G.P 20 [.agg [.int 1,.int 1,.int 1,.sl pl,.sl mv,.sl ct,.sl [],.sl []],.agg [.int 0,.sl [[.int 1]]]] (· = .tup [.int 4900,.int 0])):
  Ctr G.P 27 [.agg exO.c,.agg [.int 1,.int 1,.int 1,.sl pl,.sl mv,.sl ct,.sl [],.sl []],.agg [.int 0,.sl [[.int 1]]],.int 1900,.int 8] (· = .tup [.agg exW.c,.int 0]):=by
 have hs:jgw exO:=fun b hb=>by rw[zC.1 hb];decide
 have kR:=jfe exO hs;rw[show jbv exO=true by decide+kernel]at kR;have kI:=pb_in 8 0 999;rw[show btw 8 0 999=true by decide+kernel]at kI;have kG:=pb_in 1900 1 1099511627776;rw[show btw 1900 1 1099511627776=true by decide+kernel]at kG;have kX:=pb_iba1 exB 66 [.ip exB.c 0] (by decide) (by
  have h:=jox exB exB (by decide) (by decide)
  rwa [show overF exB exB=true by decide+kernel]at h)
 have kE:=pb_eqs [1] (by decide);have kT:=jk1 exO 0 hs;rw[show totF exO 0=3000 by decide+kernel]at kT;have kP:=joy exO (by decide) (by decide) (by decide) (by decide) hs;rw[exO_c]at kR kT kP⊢;rw[exW_c];simp only[exO,exB,Bat.c,Pap.c,ints,ic,zr,zE,List.length_cons,List.length_nil,Nat.reduceAdd]at kX kE kP;refine Ctr.emp (jgn (φ:=fun r L'=>∃(y:IV) (bs:List Nat),r= .im y/\em3 (frzL bs y L')= .tup [.agg [.sl [[.int 0,.sl [[.int 1]]]],.sl [[.int 0,.int 3000,.int 7,.bool false,.bool false],[.int 0,.int 1900,.int 8,.bool false,.bool false]]],.int 0]) ?_ (fun r L' ⟨y,bs,h1,h2⟩=>⟨y,bs,h1,h2⟩));simp only[zr,zE];refine jan [16,103,112] [] [.cell 10 25,.tmp 11] Tryz.func27 ?_;simp only[go_sem];refine ja1 kR ?_;simp only[go_sem];refine ja1 kF ?_;simp only[go_sem];refine ja1 kI ?_;simp only[go_sem];refine ja1 kG ?_;simp only[go_sem];refine ja1 kX ?_;simp only[go_sem];refine jai 14 ?_;simp only[go_sem];refine ja6 kE (by decide) ?_;simp only[go_sem];refine ja1 kC ?_;simp only[go_sem];refine ja1 kT ?_;have w5:=ja9 (n:=4900) (by omega);have d5:decide ((4900:Int)<4900)=false:=rfl;have d6:decide ((40:Int)<=0)=false:=rfl;have d7:decide ((300:Int)<=1)=false:=rfl;simp only[w5,d5,d6,d7,go_sem];refine jcx kP (by decide) rfl jb0 ja7 ?_;rintro _ L1 ⟨X,Y,hXY,rfl,bL,lX,lY⟩-;refine⟨_,jjb _,?_⟩;have F1:=bF bL
 have K1:=bK bL;have G1:=bN bL;simp only[F1,K1,G1,go_sem];refine jfa (fun A hA=> ?_);have lA:Abs.look L1 (hp A)=none:=by
  have h1:=hA;clear hA;simp only[F1,K1,G1,go_sem]at h1;exact h1
 clear hA;have m1:=fun(s:Nat) (es:List (List IV))=>map_none s es lA;have hXA:¬X=A:=fun h=>by rw[<-h,lX]at lA;cases lA
 have hYA:¬Y=A:=fun h=>by rw[<-h,lY]at lA;cases lA
 simp only[F1,K1,G1,m1,lY,hYA,zw hYA,go_sem];refine And.intro (fun c hc=>by rw[zC.1 hc];rfl) ?_;obtain⟨Q,hQe⟩:∃Q,Abs.del L1 (hp Y)=Q:=⟨_,rfl⟩;have lQ:∀d,d≠hp Y->Abs.look Q d=Abs.look L1 d:=fun d hd=>by rw[<-hQe];exact ja8 _ hd
 have kQ:blks Q:=hQe▸jbc bL;have hQf:List.filter (fun q=>q.1 !=hp Y) L1=Q:=hQe;have lXQ:=(lQ _ (hpn hXY)).trans lX;have lAQ:=(lQ _ (hpn (zw hYA))).trans lA;have bA:(hp A !=hp Y)=true:=by simp only[qq,ne_eq];exact hpn (zw hYA)
 have bn:∀k:Nat,k<100000->(k !=hp Y)=true:=fun k hk=>by simp only[qq,ne_eq];exact hp_ne hk
 refine jk7 (fun Z hZ=> ?_);simp only[F1,K1,G1,m1,lY,hYA,zw hYA,bA,bn,hQf,go_sem]at hZ;have nZ:¬Z=A:=fun e=>by rw[zn e]at hZ;cases hZ
 rw[zp nZ]at hZ;have nXZ:¬X=Z:=fun e=>by rw[<-e,lXQ]at hZ;cases hZ
 have F2:=bF kQ;have K2:=bK kQ;have G2:=bN kQ;have m2:=fun(s:Nat) (es:List (List IV))=>map_none s es lAQ;simp only[F1,K1,G1,F2,K2,G2,m1,m2,lY,hYA,zw hYA,bA,bn,hQf,nZ,zw nZ,go_sem];refine jb6 ?_;simp only[go_sem];refine⟨_,[X,Z],rfl,?_⟩;rw[jco (s:=2) (es:=[[.int 0,.sl [[.int 1]]]]) ?_,jco (s:=5) (es:=[[.int 0,.int 3000,.int 7,.bool false,.bool false],[.int 0,.int 1900,.int 8,.bool false,.bool false]]) ?_,jei]
 ·simp only[frz3,frz2,frz1,em3,em2,em1,zr,zE,List.length_cons,List.length_nil,Nat.reduceAdd,zu,jD,qr,List.take_succ_cons,List.take_zero,nXZ,zw nXZ,false_and,ql]
 ·rw[ja8 _ (hpn (zw nXZ)),jaf];exact ja2 _ _ _
 ·rw[jaf,ja0 _ _ (hpn nXZ),ja0 _ _ (hpn hXA),ja0 _ _ (hp_ne (by decide)).symm,ja0 _ _ (hp_ne (by decide)).symm,ja0 _ _ (hp_ne (by decide)).symm];exact lXQ
