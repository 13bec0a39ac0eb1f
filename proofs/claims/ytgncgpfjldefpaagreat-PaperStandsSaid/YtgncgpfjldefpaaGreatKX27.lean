/- A part of the proof. No further condition. -/
import Derived.Test.YtgncgpfjldefpaaGreatKX15
import Derived.Test.YtgncgpfjldefpaaGreatKX26
set_option linter.all false
set_option maxRecDepth 100000
namespace Go.Proofs.YtgncgpfjldefpaaGreat
section
open Go.Abs
attribute [local go_sem] ints ic Bat.c Pap.c Led.c
section
variable{pl mv ct:List (List IV)}
set_option maxRecDepth 10000000 in
set_option maxHeartbeats 8000000 in
theorem pb_issueA(kF:Ctr G.P 52 [.agg [.int 1,.int 1,.int 1,.sl pl,.sl mv,.sl ct,.sl [],.sl []],.agg [.int 0,.sl [[.int 1]]]] (· = .bool true))(kC:Ctr G.P 20 [.agg [.int 1,.int 1,.int 1,.sl pl,.sl mv,.sl ct,.sl [],.sl []],.agg [.int 0,.sl [[.int 1]]]] (· = .tup [.int 4900,.int 0])):
  Ctr G.P 27 [.agg [.sl [],.sl []],.agg [.int 1,.int 1,.int 1,.sl pl,.sl mv,.sl ct,.sl [],.sl []],.agg [.int 0,.sl [[.int 1]]],.int 3000,.int 7] (· = .tup [.agg exO.c,.int 0]):=by
 have hs:jg2 zL:=fun b hb=>by cases hb
 have kR:=jex zL hs;rw[show jbf zL=true by decide+kernel]at kR;have kI:=pb_in 7 0 999;rw[show btw 7 0 999=true by decide+kernel]at kI;have kG:=pb_in 3000 1 1099511627776;rw[show btw 3000 1 1099511627776=true by decide+kernel]at kG;have kX:=pb_ibat [] (by decide) (fun x=>overF x exB) 66 [.ip exB.c 0] (by decide) (fun x hx=>by cases hx);have kT:=jjo zL 0 hs;rw[show totF zL 0=0 by decide+kernel]at kT;have kM:=jhn [1] (by decide);have kP:=pb_copied0;rw[zL_c]at kR kT;rw[exO_c];simp only[exB,Bat.c,Pap.c,ints,ic,List.map_cons,List.map_nil]at kX kM;refine Ctr.emp (jhd (φ:=fun r L'=>∃(y:IV) (bs:List Nat),r= .im y/\em3 (frzL bs y L')= .tup [.agg [.sl [[.int 0,.sl [[.int 1]]]],.sl [[.int 0,.int 3000,.int 7,.bool false,.bool false]]],.int 0]) ?_ (fun r L' ⟨y,bs,h1,h2⟩=>⟨y,bs,h1,h2⟩));simp only[List.map_cons,List.map_nil];refine jb2 (goodH [16,103,112] []) _ _ [.cell 10 25,.tmp 11] Tryz.func27 rfl rfl (by decide+kernel) rfl ?_;simp only[go_sem];refine ja1 kR (by decide) ?_;simp only[go_sem];refine ja1 kF (by decide) ?_;simp only[go_sem];refine ja1 kI (by decide) ?_;simp only[go_sem];refine ja1 kG (by decide) ?_;simp only[go_sem];refine jgk kX (by decide) ?_;rintro r ⟨k,rfl,hk⟩;have hk1:¬0<=k:=of_decide_eq_false hk;have d1:decide (0<=k)=false:=hk;have d2:decide (k<0)=true:=decide_eq_true (by omega);simp only[d1,d2,go_sem]
 refine jar 14 (by decide+kernel) ?_;simp only[d1,d2,go_sem];refine ja1 kC (by decide) ?_;simp only[d1,d2,go_sem];refine ja1 kT (by decide) ?_;have w5:=jaa (n:=3000) (by omega);have d5:decide ((4900:Int)<3000)=false:=rfl;have d6:decide ((40:Int)<=0)=false:=rfl;have d7:decide ((300:Int)<=0)=false:=rfl;simp only[w5,d5,d6,d7,go_sem];refine jcx kP (by decide) rfl jb3 ja7 ?_;rintro _ L1 ⟨Y,rfl,bL,lY⟩-;refine⟨_,jj3 _,?_⟩;have F1:=bF bL;have K1:=bK bL;have G1:=bN bL;simp only[F1,K1,G1,go_sem];refine jgj (fun A hA=> ?_);have lA:Abs.look L1 (hp A)=none:=by
  have h1:=hA;clear hA;simp only[F1,K1,G1,go_sem]at h1;exact h1
 clear hA;have m1:=fun(s:Nat) (es:List (List IV))=>map_none s es lA;have hYA:¬Y=A:=fun h=>by rw[<-h,lY]at lA;cases lA
 simp only[F1,K1,G1,m1,d1,d2,go_sem];refine jby [false,false,false,false,false,false,false,false,false,true,false] [(hp A,2,[[.emp,.ref Y 34 5 0]])] (by decide+kernel) (ja6 (ja2 _ _ _) ja7) ?_;simp only[go_sem];refine ja8 kM (by decide) ?_;simp only[go_sem];refine And.intro (fun c hc=>by rw[List.mem_singleton.1 hc];rfl) ?_;refine jfn (fun X hX=> ?_);have nXA:¬X=A:=fun e=>by rw[e,ja2]at hX;cases hX
 rw[ja0 _ _ (hpn nXA),ja0 _ _ (hp_ne (by decide)).symm,ja0 _ _ (hp_ne (by decide)).symm,ja0 _ _ (hp_ne (by decide)).symm]at hX;have nXY:¬X=Y:=fun e=>by rw[e,lY]at hX;cases hX
 refine And.intro (ja6 (by rw[ja0 _ _ (hpn (Ne.symm nXA)),ja2]) ja7) ?_;obtain⟨Q,hQe⟩:∃Q,Abs.del L1 (hp Y)=Q:=⟨_,rfl⟩;have lQ:∀d,d≠hp Y->Abs.look Q d=Abs.look L1 d:=fun d hd=>by rw[<-hQe];exact ja4 _ hd
 have kQ:blks Q:=hQe▸jbh bL;have hQf:List.filter (fun q=>q.1 !=hp Y) L1=Q:=hQe;have lXQ:=(lQ _ (hpn nXY)).trans hX;have lAQ:=(lQ _ (hpn (Ne.symm hYA))).trans lA;have bA:(hp A !=hp Y)=true:=by simp only[bne_iff_ne,ne_eq];exact hpn (Ne.symm hYA)
 have bX:(hp X !=hp Y)=true:=by simp only[bne_iff_ne,ne_eq];exact hpn nXY
 have bn:∀k:Nat,k<100000->(k !=hp Y)=true:=fun k hk=>by simp only[bne_iff_ne,ne_eq];exact hp_ne hk
 simp only[F1,K1,G1,m1,lY,hYA,Ne.symm hYA,nXA,Ne.symm nXA,nXY,Ne.symm nXY,go_sem];refine And.intro (fun c hc=>by rw[List.mem_singleton.1 hc];rfl) ?_;refine jju (fun Z hZ=> ?_);simp only[F1,K1,G1,m1,lY,hYA,Ne.symm hYA,nXA,Ne.symm nXA,nXY,Ne.symm nXY,bA,bX,bn,hQf,go_sem]at hZ;have nZX:¬Z=X:=fun e=>by rw[if_pos e]at hZ;cases hZ
 rw[if_neg nZX]at hZ;have nZA:¬Z=A:=fun e=>by rw[if_pos e]at hZ;cases hZ
 rw[if_neg nZA]at hZ;have F2:=bF kQ;have K2:=bK kQ;have G2:=bN kQ;have m2:=fun(s:Nat) (es:List (List IV))=>map_none s es lAQ;simp only[F1,K1,G1,F2,K2,G2,m1,m2,lY,hYA,Ne.symm hYA,bA,bX,bn,hQf,nXA,Ne.symm nXA,nXY,Ne.symm nXY,nZA,Ne.symm nZA,nZX,Ne.symm nZX,go_sem];refine jba ?_;simp only[go_sem];refine⟨_,[X,Z],rfl,?_⟩;rw[jch (s:=2) (es:=[[.int 0,.sl [[.int 1]]]]) ?_,jch (s:=5) (es:=[[.int 0,.int 3000,.int 7,.bool false,.bool false]]) ?_,jef]
 ·simp only[frz3,frz2,frz1,em3,em2,em1,List.map_cons,List.map_nil,List.length_cons,List.length_nil,Nat.reduceAdd,Nat.le_refl,and_self,if_true,List.take_succ_cons,List.take_zero,nZX,Ne.symm nZX,false_and,if_false]
 ·rw[ja4 _ (hpn nZX),jag];simp only[nXA,Ne.symm nXA,nZA,Ne.symm nZA,nZX,Ne.symm nZX,go_sem]
 ·rw[jag];simp only[nXA,Ne.symm nXA,nZA,Ne.symm nZA,nZX,Ne.symm nZX,go_sem]
end
end
end Go.Proofs.YtgncgpfjldefpaaGreat
