/- A part of the proof. No further condition. -/
import Derived.Test.YtgncgpfjldefpaaGreatKR13
import Derived.Test.YtgncgpfjldefpaaGreatKR24
set_option linter.all false
set_option maxRecDepth 10000000
set_option maxHeartbeats 16000000
namespace Go.Proofs.YtgncgpfjldefpaaGreat
section
open Go.Abs
attribute [local go_sem] ints ic Bat.c Pap.c Led.c
section
variable{pl mv ct:List (List IV)}
theorem pb_issueA(kF:Ctr G.P 52 [.agg [.int 1,.int 1,.int 1,.sl pl,.sl mv,.sl ct,.sl [],.sl []],.agg [.int 0,.sl [[.int 1]]]] (· = .bool true))(kC:Ctr G.P 20 [.agg [.int 1,.int 1,.int 1,.sl pl,.sl mv,.sl ct,.sl [],.sl []],.agg [.int 0,.sl [[.int 1]]]] (· = .tup [.int 4900,.int 0])):
  Ctr G.P 27 [.agg [.sl [],.sl []],.agg [.int 1,.int 1,.int 1,.sl pl,.sl mv,.sl ct,.sl [],.sl []],.agg [.int 0,.sl [[.int 1]]],.int 3000,.int 7] (· = .tup [.agg exO.c,.int 0]):=by
 have hs:jgw zL:=fun b hb=>by cases hb
 have kR:=jfe zL hs;rw[show jbv zL=true by decide+kernel]at kR;have kI:=pb_in 7 0 999;rw[show btw 7 0 999=true by decide+kernel]at kI;have kG:=pb_in 3000 1 1099511627776;rw[show btw 3000 1 1099511627776=true by decide+kernel]at kG;have kX:=pb_ibat [] (by decide) (fun x=>overF x exB) 66 [.ip exB.c 0] (by decide) (fun x hx=>by cases hx);have kT:=jk1 zL 0 hs;rw[show totF zL 0=0 by decide+kernel]at kT;have kM:=jhu [1] (by decide);have kP:=pb_copied0;rw[zL_c]at kR kT;rw[exO_c];simp only[exB,Bat.c,Pap.c,ints,ic,zr,zE]at kX kM;refine Ctr.emp (jgn (φ:=fun r L'=>∃(y:IV) (bs:List Nat),r= .im y/\em3 (frzL bs y L')= .tup [.agg [.sl [[.int 0,.sl [[.int 1]]]],.sl [[.int 0,.int 3000,.int 7,.bool false,.bool false]]],.int 0]) ?_ (fun r L' ⟨y,bs,h1,h2⟩=>⟨y,bs,h1,h2⟩));simp only[zr,zE];refine jan [16,103,112] [] [.cell 10 25,.tmp 11] Tryz.func27 ?_;simp only[go_sem];refine ja1 kR ?_;simp only[go_sem];refine ja1 kF ?_;simp only[go_sem];refine ja1 kI ?_;simp only[go_sem];refine ja1 kG ?_;simp only[go_sem];refine jdf kX ?_;rintro r ⟨k,rfl,hk⟩;have hk1:¬0<=k:=zK hk;have d1:decide (0<=k)=false:=hk;have d2:decide (k<0)=true:=zk (by omega);simp only[d1,d2,go_sem];refine jai 14 ?_;simp only[d1,d2,go_sem];refine ja1 kC ?_;simp only[d1,d2,go_sem];refine ja1 kT ?_
 have w5:=ja9 (n:=3000) (by omega);have d5:decide ((4900:Int)<3000)=false:=rfl;have d6:decide ((40:Int)<=0)=false:=rfl;have d7:decide ((300:Int)<=0)=false:=rfl;simp only[w5,d5,d6,d7,go_sem];refine jcx kP (by decide) rfl jb0 ja7 ?_;rintro _ L1 ⟨Y,rfl,bL,lY⟩-;refine⟨_,jjb _,?_⟩;have F1:=bF bL;have K1:=bK bL;have G1:=bN bL;simp only[F1,K1,G1,go_sem];refine jfa (fun A hA=> ?_);have lA:Abs.look L1 (hp A)=none:=by
  have h1:=hA;clear hA;simp only[F1,K1,G1,go_sem]at h1;exact h1
 clear hA;have m1:=fun(s:Nat) (es:List (List IV))=>map_none s es lA;have hYA:¬Y=A:=fun h=>by rw[<-h,lY]at lA;cases lA
 simp only[F1,K1,G1,m1,d1,d2,go_sem];refine jbo [false,false,false,false,false,false,false,false,false,true,false] [(hp A,2,[[.emp,.ref Y 34 5 0]])] (by decide+kernel) (ja5 (ja2 _ _ _) ja7) ?_;simp only[go_sem];refine ja6 kM (by decide) ?_;simp only[go_sem];refine And.intro (fun c hc=>by rw[zC.1 hc];rfl) ?_;refine je4 (fun X hX=> ?_);have nXA:¬X=A:=fun e=>by rw[e,ja2]at hX;cases hX
 rw[ja0 _ _ (hpn nXA),ja0 _ _ (hp_ne (by decide)).symm,ja0 _ _ (hp_ne (by decide)).symm,ja0 _ _ (hp_ne (by decide)).symm]at hX;have nXY:¬X=Y:=fun e=>by rw[e,lY]at hX;cases hX
 refine And.intro (ja5 (by rw[ja0 _ _ (hpn (zw nXA)),ja2]) ja7) ?_;obtain⟨Q,hQe⟩:∃Q,Abs.del L1 (hp Y)=Q:=⟨_,rfl⟩;have lQ:∀d,d≠hp Y->Abs.look Q d=Abs.look L1 d:=fun d hd=>by rw[<-hQe];exact ja8 _ hd
 have kQ:blks Q:=hQe▸jbc bL;have hQf:List.filter (fun q=>q.1 !=hp Y) L1=Q:=hQe;have lXQ:=(lQ _ (hpn nXY)).trans hX;have lAQ:=(lQ _ (hpn (zw hYA))).trans lA;have bA:(hp A !=hp Y)=true:=by simp only[qq,ne_eq];exact hpn (zw hYA)
 have bX:(hp X !=hp Y)=true:=by simp only[qq,ne_eq];exact hpn nXY
 have bn:∀k:Nat,k<100000->(k !=hp Y)=true:=fun k hk=>by simp only[qq,ne_eq];exact hp_ne hk
 simp only[F1,K1,G1,m1,lY,hYA,zw hYA,nXA,zw nXA,nXY,zw nXY,go_sem];refine And.intro (fun c hc=>by rw[zC.1 hc];rfl) ?_;refine jk7 (fun Z hZ=> ?_);simp only[F1,K1,G1,m1,lY,hYA,zw hYA,nXA,zw nXA,nXY,zw nXY,bA,bX,bn,hQf,go_sem]at hZ;have nZX:¬Z=X:=fun e=>by rw[zn e]at hZ;cases hZ
 rw[zp nZX]at hZ;have nZA:¬Z=A:=fun e=>by rw[zn e]at hZ;cases hZ
 rw[zp nZA]at hZ;have F2:=bF kQ;have K2:=bK kQ;have G2:=bN kQ;have m2:=fun(s:Nat) (es:List (List IV))=>map_none s es lAQ;simp only[F1,K1,G1,F2,K2,G2,m1,m2,lY,hYA,zw hYA,bA,bX,bn,hQf,nXA,zw nXA,nXY,zw nXY,nZA,zw nZA,nZX,zw nZX,go_sem];refine jb6 ?_;simp only[go_sem];refine⟨_,[X,Z],rfl,?_⟩;rw[jco (s:=2) (es:=[[.int 0,.sl [[.int 1]]]]) ?_,jco (s:=5) (es:=[[.int 0,.int 3000,.int 7,.bool false,.bool false]]) ?_,jei]
 ·simp only[frz3,frz2,frz1,em3,em2,em1,zr,zE,List.length_cons,List.length_nil,Nat.reduceAdd,zu,jD,qr,List.take_succ_cons,List.take_zero,nZX,zw nZX,false_and,ql]
 ·rw[ja8 _ (hpn nZX),jaf];simp only[nXA,zw nXA,nZA,zw nZA,nZX,zw nZX,go_sem]
 ·rw[jaf];simp only[nXA,zw nXA,nZA,zw nZA,nZX,zw nZX,go_sem]
