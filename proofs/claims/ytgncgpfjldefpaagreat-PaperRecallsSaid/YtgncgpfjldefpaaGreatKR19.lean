/- A part of the proof. No further condition. -/
import Derived.Test.YtgncgpfjldefpaaGreatKR14
import Derived.Test.YtgncgpfjldefpaaGreatKR17
import Derived.Test.YtgncgpfjldefpaaGreatKR18
set_option linter.all false
set_option maxRecDepth 10000000
set_option maxHeartbeats 16000000
namespace Go.Proofs.YtgncgpfjldefpaaGreat
section
open Go.Abs
attribute [local go_sem] ints ic Bat.c Pap.c Led.c
def em1:IV->IV
 | .emp=> .sl []
 | x=>x
def em2:IV->IV
 | .agg cs=> .agg (cs.map em1)
 | x=>em1 x
def em3:IV->IV
 | .tup cs=> .tup (cs.map em2)
 | x=>em2 x
section
variable{w:World}{M:Nat->Nat->Prop}{v:Value}
theorem em1_one(x:IV):(em1 x).one=x.one:=by cases x<;>rfl
theorem em1_rep{x:IV}(h:Rep w M x v):Rep w M (em1 x) v:=by
 cases x with
 | emp=>
  cases h with
  | emp a=>exact .nil _ _
 | _=>exact h
theorem em2_rep{x:IV}(h:Rep w M x v):Rep w M (em2 x) v:=by
 cases x with
 | agg cs=>
  cases h with
  | agg _ vs h1 h2 h3=>
   refine .agg _ vs (by simpa using h1) (fun x hx=> ?_) (fun k x v hx hv=> ?_)
   ·obtain⟨y,hy,rfl⟩:=qd.1 hx;rw[em1_one];exact h2 y hy
   ·rw[zq]at hx;obtain⟨y,hy,rfl⟩:=z7.1 hx;exact em1_rep (h3 k y v hy hv)
 | _=>exact em1_rep h
theorem em3_rep{x:IV}(h:Rep w M x v):Rep w M (em3 x) v:=by
 cases x with
 | tup cs=>
  cases h with
  | tup _ vs h1 h3=>
   refine .tup _ vs (by simpa using h1) (fun k x v hx hv=> ?_);rw[zq]at hx;obtain⟨y,hy,rfl⟩:=z7.1 hx;exact em2_rep (h3 k y v hy hv)
 | _=>exact em2_rep h
end
theorem jjb{L':Abs.Rows}(pre:Abs.Rows):jev pre [] L' (pre++L'):=fun k x hk=>by
 induction pre with
 | nil=>exact .inl hk
 | cons p pre ih=>
  obtain⟨j,v⟩:=p;by_cases e:k=j
  ·subst e;rw[List.cons_append,ja2]at hk;exact .inr ⟨rfl,by rw[ja2];exact hk⟩
  ·rw[List.cons_append,ja0 _ _ e]at hk;rcases ih hk with h | h
   ·exact .inl h
   ·exact .inr ⟨rfl,by rw[ja0 _ _ e];exact h.2⟩
def stepF(p:Led)(b:Int)(is:List Int)(e:Int)(q:Led):Led×Int:=if jd7 p b is≠0 then(zL,jd7 p b is)else if e≠0 then(zL,e)else fullF q
theorem stepErr_cases{p:Led}{b:Int}{is:List Int}:(jbv p=false/\jd7 p b is=1)\/(jbv p=true/\(is.any fun i=> !btw i 0 ((p.ps.length:Int)-1))=true/\jd7 p b is=4)\/
  (jbv p=true/\(is.any fun i=> !btw i 0 ((p.ps.length:Int)-1))=false/\someF p (fun x=> !decide (x.own=b)) is=true/\jd7 p b is=21)\/
  (jbv p=true/\(is.any fun i=> !btw i 0 ((p.ps.length:Int)-1))=false/\someF p (fun x=> !decide (x.own=b)) is=false/\someF p (fun x=> !x.live) is=true/\jd7 p b is=7)\/
  (jbv p=true/\(is.any fun i=> !btw i 0 ((p.ps.length:Int)-1))=false/\someF p (fun x=> !decide (x.own=b)) is=false/\someF p (fun x=> !x.live) is=false/\jd7 p b is=0):=by
 unfold jd7;cases jbv p<;>cases (is.any fun i=> !btw i 0 ((p.ps.length:Int)-1))<;>cases someF p (fun x=> !decide (x.own=b)) is<;>cases someF p (fun x=> !x.live) is<;>simp
theorem zL_c:zL.c=[.sl [],.sl []]:=rfl
theorem Ctr.emp{P:Program}{f:FuncId}{xs:List IV}{ψ:IV->Prop}(h:Ctr P f xs (fun z=>ψ (em3 z))):Ctr P f xs ψ:=fun w M vs hM hr=>
 (h w M vs hM hr).mono fun en w' ⟨y,v,a,b,c,d⟩=>⟨em3 y,v,a,b,em3_rep c,d⟩
theorem jpv(p:Led)(hs:jgw p)(b:Int)(is:List Int)(hne:is≠[])(hl:is.length<=1000)(g:Nat)(caps:List IV)(hg:3<=g/\g<G.fns)(e:Int)(q:Led)
  (hc:jd7 p b is=0->∀L A B C,HasLg L A B C p->CtrH G.P g (.loc (hp A) 2 0 0::caps.map AV.im) L (fun r L'=>r= .im (.int e)/\(e=0->∃X,HasLg L' A B X q))):
  Ctr G.P 38 [.agg p.c,.int b,ints is,.clo g caps] (· = .tup [.agg (stepF p b is e q).1.c,.int (stepF p b is e q).2]):=by
 have kR:=jfe p hs;have k2:=jpw is (by omega) (fun i=> !btw i 0 ((p.ps.length:Int)-1)) 76 [.ip p.c 0] (by decide);unfold stepF;rcases stepErr_cases (p:=p) (b:=b) (is:=is)with ⟨r0,e0⟩ | ⟨r0,r1,e0⟩ | ⟨r0,r1,r2,e0⟩ | ⟨r0,r1,r2,r3,e0⟩ | ⟨r0,r1,r2,r3,e0⟩
 ·rw[e0,zn (by decide),zL_c];rw[r0]at kR;clear hc k2;simp only[ints]at*;refine ja4 [.cell 8 25,.tmp 9] Tryz.func38 ?_;simp only[go_sem];refine ja1 kR ?_;simp only[go_sem]
 all_goals
  have hlp:=(jcd r0).2.1;have k2:=k2 fun n _=>pb_step2 p n (by omega);rw[r1]at k2;rw[r0]at kR
 ·rw[e0,zn (by decide),zL_c];clear hc;simp only[ints,Led.c]at*;refine ja4 [.cell 8 25,.tmp 9] Tryz.func38 ?_;simp only[go_sem];refine ja1 kR ?_;simp only[go_sem];refine ja1 k2 ?_;simp only[go_sem]
 all_goals
  have hin:∀i∈is,btw i 0 ((p.ps.length:Int)-1)=true:=fun i hi=>by have:=yX.1 r1 i hi;simpa using this
  have k3:=jqy p is (by omega) (fun x=> !decide (x.own=b)) 77 [.ip [.int b] 0] (by decide) (fun x _=>pb_step3 x b) hin;rw[r2]at k3
 ·rw[e0,zn (by decide),zL_c];clear hc;simp only[ints,Led.c]at*;refine ja4 [.cell 8 25,.tmp 9] Tryz.func38 ?_;simp only[go_sem];refine ja1 kR ?_;simp only[go_sem];refine ja1 k2 ?_;simp only[go_sem];refine ja1 k3 ?_;simp only[go_sem]
 all_goals
  have k4:=jqy p is (by omega) (fun x=> !x.live) 78 [] (by decide) (fun x _=>pb_step4 x) hin;rw[r3]at k4
 ·rw[e0,zn (by decide),zL_c];clear hc;simp only[ints,Led.c]at*;refine ja4 [.cell 8 25,.tmp 9] Tryz.func38 ?_;simp only[go_sem];refine ja1 kR ?_;simp only[go_sem];refine ja1 k2 ?_;simp only[go_sem];refine ja1 k3 ?_;simp only[go_sem];refine ja1 k4 ?_;simp only[go_sem]
 ·rw[e0,zp (by decide)];have hc:=hc e0;have hps:p.ps≠[]:=fun h=>by
   obtain⟨i,hi⟩:=jY is hne;have:=btw_iff.1 (hin i hi);rw[h]at this;simp at this;omega
  have hbs:p.bs≠[]:=fun h=>by
   obtain⟨x,hx⟩:=jY p.ps hps;have:=papOk_iff.1 ((jcd r0).2.2.2 x hx);rw[h]at this;simp at this;omega
  have kC:=joy p hbs hps (by have:=(jcd r0).1;omega) (by omega) hs;refine Ctr.emp (jgn (φ:=fun r L'=>∃(y:IV) (bs:List Nat),r= .im y/\em3 (frzL bs y L')= .tup [.agg (if e≠0 then(zL,e)else fullF q).1.c,.int (if e≠0 then(zL,e)else fullF q).2]) ?_ (fun r L' ⟨y,bs,h1,h2⟩=>⟨y,bs,h1,h2⟩));simp only[zr,zE,ints,Led.c]at k2 k3 k4 kR kC⊢;refine jan [11] [] [.cell 8 25,.tmp 9] Tryz.func38 ?_;simp only[go_sem];refine ja1 kR ?_;simp only[go_sem];refine ja1 k2 ?_;simp only[go_sem];refine ja1 k3 ?_;simp only[go_sem];refine ja1 k4 ?_;simp only[go_sem];refine jcx kC (by decide) rfl jb0 ja7 ?_;rintro _ L1 ⟨X,Y,hXY,rfl,bL,lX,lY⟩-;refine⟨_,jjb [_],?_⟩;have F1:=bF bL;have K1:=bK bL;have G1:=bN bL;simp only[F1,K1,G1,go_sem];refine jfa (fun A hA=> ?_);have lA:Abs.look L1 (hp A)=none:=by
   have h1:=hA;clear hA;simp only[F1,K1,G1,go_sem]at h1;exact h1
  clear hA;have m1:=fun(s:Nat) (es:List (List IV))=>map_none s es lA;simp only[F1,K1,G1,m1,go_sem];have hAX:¬A=X:=fun h=>by rw[h,lX]at lA;cases lA
  have hAY:¬A=Y:=fun h=>by rw[h,lY]at lA;cases lA
  have hP:HasLg ((hp A,2,[[.ref X 52 2 p.bs.length,.ref Y 34 5 p.ps.length]])::L1) A X Y p:=
   ⟨jaq bL,hAX,hAY,hXY,ja2 _ _ _,by rw[ja0 _ _ (hpn (zw hAX))];exact lX,by rw[ja0 _ _ (hpn (zw hAY))];exact lY⟩
  refine jal (hc _ A X Y hP) hg (by simp only[zr,yl];rfl) hP.blk (ja5 (ja2 _ _ _) fun k x hk=>jdq (by rw[ja0 _ _ (hp_ne (by decide)).symm];exact lA) k x (jdq (G1 8 (by decide)) k x hk)) ?_;rintro _ L2 ⟨rfl,hq⟩-;refine⟨(8,2,[[.emp,.emp]])::L2,fun k x hk=> ?_,?_⟩
  ·by_cases h8:k=8
   ·subst h8;rw[ja2]at hk;exact .inr ⟨by rw[ja0 _ _ (hp_ne (by decide))];exact G1 8 (by decide),by rw[ja0 _ _ (hp_ne (by decide)),ja2];exact hk⟩
   ·rw[ja0 _ _ h8]at hk;exact .inl hk
  by_cases he:e=0
  ·obtain⟨Z,hZ⟩:=hq he;have a2:=hZ.hA;have b2:=hZ.hB;have c2:=hZ.hC;have kL:=hZ.blk;have nXZ:=hZ.bc;clear hq hc hP m1 lA lX lY bL F1 K1 G1 hZ;subst he;have F2:=bF kL;have K2:=bK kL;have G2:=bN kL;rw[zp (by decide)];unfold fullF;rcases d3:decide (300<(q.ps.length:Int))with _ | _
   ·rw[zp (zK d3)];simp only[a2,d3,F2,K2,G2,go_sem];refine jb6 ?_;simp only[go_sem];refine⟨_,[X,Z],rfl,?_⟩;rw[jco (s:=2) (by rw[jaf,ja0 _ _ (hp_ne (by decide)).symm];exact b2),jco (s:=5) (by rw[ja8 _ (hpn (zw nXZ)),jaf,ja0 _ _ (hp_ne (by decide)).symm];exact c2),jei];have t1:List.take q.bs.length (q.bs.map Bat.c)=q.bs.map Bat.c:=zD (by rw[zh];exact zu _);have t2:List.take q.ps.length (q.ps.map Pap.c)=q.ps.map Pap.c:=zD (by rw[zh];exact zu _);have nZX:¬Z=X:=zw nXZ;simp only[frz3,frz2,frz1,em3,em2,em1,zr,zE,zh,zu,jD,qr,t1,t2,nXZ,nZX,false_and,ql,Led.c]
   ·rw[zn (zJ d3)];simp only[a2,d3,F2,K2,G2,go_sem];refine jb6 ?_;simp only[go_sem];exact⟨_,[],rfl,rfl⟩
  ·have d3:decide (e=0)=false:=za he;clear hq hc hP m1 lA lX lY bL F1 K1 G1;rw[zn he];simp only[d3,go_sem];refine jb6 ?_;simp only[go_sem];exact⟨_,[],rfl,rfl⟩
