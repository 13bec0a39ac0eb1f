/- A part of the proof. No further condition. -/
import Derived.Test.YtdhlmmoicchgpaaGreatKV35
import Derived.Test.YtdhlmmoicchgpaaGreatKV38
set_option linter.all false
set_option maxRecDepth 10000000
set_option maxHeartbeats 16000000
namespace Go.Proofs.YtdhlmmoicchgpaaGreat
section
open Go.Abs
attribute [local go_sem] Evid.iv Evid.c ints ic
theorem u_clonePk(l:List (Int×Int))(hl:l.length<=100000):Ctr G.P 33 [.sl (l.map pickC)] (· = .sl (l.map pickC)):=by
 have hlen:∀(c:List IV),c∈l.map pickC->c.length=2:=fun c hc=>by
  obtain⟨z,_,rfl⟩:=zU.1 hc;rfl
 refine CtrV.ctr (e:=84) (s:=2) ?_;refine ji0 good _ _ [.tmp 2] Tryz.func33 rfl rfl (by decide+kernel) rfl ?_;simp only[go_sem];refine jd6 (fun h=> ?_) ?_
 ·rw[qd]at h;subst h;simp only[go_sem]
 ·simp only[go_sem];exact⟨by simp,hlen,by omega⟩
theorem all_take{α:Type}{p:α->Bool}{l:List α}{k:Nat}{x:α}(hx:l[k]? =some x)(h:(l.take k).all p=true)(h1:p x=true):(l.take (k+1)).all p=true:=by
 rw[jm3 hx,jz,h,List.all_cons,h1];rfl
section
variable{L:Abs.Rows}{e:Evid}{qs:List (List (Int×Int))}{f:List (Int×Int)->List IV}{p:Bool}
theorem ji6{c:Int}(hc:c≠0)(kK:Ctr G.P 12 [e.iv] (· = .int c)):CtrH G.P 8 [.im e.iv,.im (.sl (qs.map qC))] [] (fun r L'=>r= .im (.tup [.sc (.pointer none),.int 1])/\L'=[]):=by
 have hd:decide (c=0)=false:=zw hc;refine jji (goodH [20,39] []) _ _ [.tmp 4,.tmp 5] Tryz.func8 rfl rfl (by decide+kernel) rfl ?_;simp only[go_sem];refine ja2 kK ?_;simp only[hd,go_sem];refine jfl [] jak jad ?_;simp only[go_sem]
theorem u_new(hE:FitE e)(kK:Ctr G.P 12 [e.iv] (· = .int 0))(hl:qs.length<=50)(hq1:∀q∈qs,q.length<=100000)(hf:∀q,BCell (f q))
  (kP:Ctr G.P 14 [e.iv] (· = .bool p)) (kB:∀q∈qs,Ctr G.P 35 [e.iv,.sl (q.map pickC)] (· = .agg (f q))):
  CtrH G.P 8 [.im e.iv,.im (.sl (qs.map qC))] [] (fun r L'=>(qs.all (jdc e)=false/\r= .im (.tup [.sc (.pointer none),.int 1])/\L'=[])\/
   (qs.all (jdc e)=true/\∃A Q B,r= .im (.tup [.pr A 11 0 0,.int 0])/\HasR L' A Q B 0 e p qs f [])):=by
 have kO:=u_own e hE;have d50:decide ((50:Int)<qs.length)=false:=zw (by omega);refine jji (goodH [20,39] []) _ _ [.tmp 4,.tmp 5] Tryz.func8 rfl rfl (by decide+kernel) rfl ?_;simp only[go_sem];refine ja2 kK ?_;simp only[zq,d50,go_sem];refine ja2 kO ?_;simp only[go_sem];refine jc2 (fun A hA=> ?_);clear hA;simp only[zq,go_sem];refine jb1 [2,6,21,22,23] (fun g:(Nat×Nat)×Abs.Rows=>⟨[(2,.loc 2 8 0 0),(6,.loc (hp A) 11 0 0),(21,.im (.sl (qs.map qC))),(22,.im (.int qs.length)),(23,.im (.int g.1.1))],(2,8,[e.c])::g.2,[]⟩)
  (fun g=>g.1.1<=qs.length/\blks g.2/\Abs.look g.2 (hp A)=some (11,[e.c++[sl0 g.1.2 31 1 g.1.1,.emp,.bool false]])/\(g.1.1≠0->Abs.look g.2 (hp g.1.2)=some (1,(qs.map qC).take g.1.1))/\(qs.take g.1.1).all (jdc e)=true)
  (fun g=>qs.length-g.1.1) ((0,0),[(hp A,11,[e.c++[.emp,.emp,.bool false]])]) ?_ ?_ rfl ⟨zI _,jac jak,ja1 _ _ _,fun h=>absurd rfl h,rfl⟩ ?_
 ·simp only[Int.natCast_zero,go_sem]
 ·refine jds ?_;exact(hp_ne (n:=2) (by decide)).symm
 rintro⟨⟨k,Q⟩,R⟩ ⟨hk,hR,cA,hQ,ha⟩;dsimp only at hk hR cA hQ ha;have F2:=bF hR;have K2:=bK hR;have G2:=bN hR;by_cases hkl:(k:Int)<qs.length
 ·have hd:decide ((k:Int)<qs.length)=true:=ze hkl;obtain⟨q,hq⟩:=jby hkl;have hql:=hq1 q (zE hq);have h1:=jaa (n:=(k:Int)+1) (by omega);have hi0:(0:Int)<=k:=by omega
  have hk1:k<qs.length:=by omega
  have kR:=u_right (e:=e) (q:=q) hql hE.moves;have kC:=u_clonePk q hql;have hfq:(qs.map qC)[k]? =some (qC q):=by rw[za,hq];rfl
  rcases hr:jdc e q with _ | _
  ·rw[hr]at kR;simp only[hd,hkl,hi0,hk1,zq,za,hq,qC,F2,K2,G2,go_sem];refine ja2 kR ?_;simp only[F2,K2,G2,go_sem];refine jfl [] jak jad ?_;simp only[go_sem];refine .inl (vf.2 ⟨q,zE hq,by rw[hr];exact qo⟩)
  ·rw[hr]at kR;have hall:=all_take hq ha hr;have ht:=jm3 hfq;have hs1:=fun X:Nat=>jab (b:=X) (e:=31) (s:=1) (ql k);by_cases hk0:k=0
   ·have hz:sl0 Q 31 1 k= .emp:=by rw[hk0];rfl
    rw[hz]at cA;simp only[Evid.c,List.cons_append,List.nil_append]at cA;simp only[hd,hkl,hi0,hk1,zq,za,hq,qC,F2,K2,G2,go_sem];refine ja2 kR ?_;simp only[F2,K2,G2,go_sem];refine jci [false,false,false,false,false,false,false,false,true,false,false,true] (.alt 8 (.alt 11 .fin .none) .none) [(hp A,11,[e.c++[.emp,.emp,.bool false]])] (by decide+kernel) (jbg (by simp only[cA,go_sem]) jad) ?_;simp only[cA,F2,K2,G2,go_sem];refine ja4 kC (by decide) ?_;simp only[F2,K2,G2,go_sem];refine And.intro (fun c hc=>by rw[zp.1 hc];rfl) ?_;refine ji4 (fun X hX=> ?_);have lX:Abs.look R (hp X)=none:=by
     rw[ja0 _ _ (hp_ne (by decide)).symm]at hX;exact hX
    clear hX;have xA:=jcz lX cA;refine And.intro (jbg ?_ jad) ?_
    ·rw[ja0 _ _ (hpn (zG xA)),ja0 _ _ (hp_ne (by decide)).symm];exact cA
    simp only[cA,xA,zG xA,F2,K2,G2,go_sem];refine lay (List.map (fun q=>if q.1=hp A then(q.1,11,[e.c++[.ref X 31 1 1,.emp,.bool false]])else q) R) (fun M hM=> ?_);have bM:blks M:=hM▸jb6 hR;have aM:Abs.look M (hp A)=some (11,[e.c++[.ref X 31 1 1,.emp,.bool false]]):=by rw[<-hM];exact jc6 cA _ _
    have hs2:sl0 X 31 1 (k+1)= .ref X 31 1 1:=by rw[hk0];rfl
    refine ja8 ((k+1,X),(hp X,1,[qC q])::M) ?_ (by rw[<-hM];refine jds ?_;exact(hp_ne (n:=2) (by decide)).symm) rfl (by show qs.length-(k+1)<qs.length-k;omega) ⟨hk1,jac bM,?_,fun _=> ?_,hall⟩
    ·simp only[h1,Int.natCast_add,go_sem]
    ·dsimp only;rw[ja0 _ _ (hpn (zG xA)),hs2];exact aM
    ·dsimp only;rw[ja1,ht,hk0];rfl
   ·have g1:=hQ hk0;have hz:=jab (b:=Q) (e:=31) (s:=1) hk0;have htk:List.take k ((qs.map qC).take k)=(qs.map qC).take k:=by rw[vC,Nat.min_self]
    have hlk:((qs.map qC).take k).length=k:=by rw[qa,zq];omega
    rw[hz]at cA;simp only[Evid.c,List.cons_append,List.nil_append]at cA;simp only[hd,hkl,hi0,hk1,zq,za,hq,qC,F2,K2,G2,go_sem];refine ja2 kR ?_;simp only[F2,K2,G2,go_sem];refine jci [false,false,false,false,false,false,false,false,true,false,false,true] (.alt 8 (.alt 11 .fin .none) .none) [(hp A,11,[e.c++[.ref Q 31 1 k,.emp,.bool false]])] (by decide+kernel) (jbg (by simp only[cA,go_sem]) jad) ?_;simp only[cA,F2,K2,G2,go_sem];refine ja4 kC (by decide) ?_;simp only[g1,htk,hlk,F2,K2,G2,go_sem];have b2:(2 !=hp Q)=true:=by simp only[zY,ne_eq];exact hp_ne (by decide)
    obtain⟨Z,hZ⟩:∃Z,Abs.del R (hp Q)=Z:=⟨_,rfl⟩;have lZ:∀d,d≠hp Q->Abs.look Z d=Abs.look R d:=fun d hd=>by rw[<-hZ];exact ja6 _ hd
    have bZ:blks Z:=hZ▸jbd hR;have hZf:List.filter (fun p=>p.1 !=hp Q) R=Z:=hZ;have qA:=jf0 g1 cA (by decide);have cZ:=(lZ _ (hpn (zG qA))).trans cA;have F3:=bF bZ;have K3:=bK bZ;have G3:=bN bZ;refine And.intro (fun c hc=>by rw[zp.1 hc];rfl) (And.intro (zn _) (And.intro (by omega) ?_));refine jgq (fun X hX=> ?_);have lX:Abs.look Z (hp X)=none:=by
     rw[jas (hp_ne (by decide)),ja0 _ _ (hp_ne (by decide)).symm,hZ]at hX;exact hX
    clear hX;have xA:=jcz lX cZ;refine And.intro (jbg ?_ jad) ?_
    ·rw[jas (hp_ne (by decide)),hZ,ja0 _ _ (hpn (zG xA)),ja0 _ _ (hp_ne (by decide)).symm];exact cZ
    simp only[cZ,b2,hZf,xA,zG xA,qA,zG qA,F3,K3,G3,go_sem];refine lay (List.map (fun q=>if q.1=hp A then(q.1,11,[e.c++[.ref X 31 1 (k+1),.emp,.bool false]])else q) Z) (fun M hM=> ?_);have bM:blks M:=hM▸jb6 bZ;have aM:Abs.look M (hp A)=some (11,[e.c++[.ref X 31 1 (k+1),.emp,.bool false]]):=by rw[<-hM];exact jc6 cZ _ _
    refine ja8 ((k+1,X),(hp X,1,(qs.map qC).take k++[qC q])::M) ?_ (by rw[<-hM];refine jds ?_;exact(hp_ne (n:=2) (by decide)).symm) rfl (by show qs.length-(k+1)<qs.length-k;omega) ⟨hk1,jac bM,?_,fun _=> ?_,hall⟩
    ·simp only[h1,Int.natCast_add,go_sem]
    ·dsimp only;rw[ja0 _ _ (hpn (zG xA)),hs1];exact aM
    ·dsimp only;rw[ja1,ht]
 ·have hd:decide ((k:Int)<qs.length)=false:=zw hkl;have hkn:k=qs.length:=by omega
  subst hkn;rw[zu (zn _)]at ha;have hQ2:NewR R Q 1 (qs.map qC):=fun hne=>by
   have:=hQ (fun h=>hne (by rw[zF h];rfl))
   rwa [zu (by rw[zq];exact zn _)]at this
  have kF:=jlz hR cA hQ2 (by omega) hf kP kB;simp only[Evid.c,List.cons_append,List.nil_append]at cA;cases p with
  | false=>
   have hv:∀B,bV B false qs.length= .sl []:=fun _=>rfl;simp only[hv]at kF;simp only[hd,F2,K2,G2,cA,go_sem];refine ja9 kF (by decide) (by simp only[zl,zB,jaq];rfl) hR (ja3 (by decide) hR (SubR.refl R)) ?_;rintro _ R1 ⟨B,rfl,hb1,hs1,hn1⟩ _;refine⟨_,jb3 [(2,8,[e.c])] (fun p hp=>by rw[zp.1 hp];exact G2 2 (by decide)),?_⟩;have cA1:=hs1 _ _ cA;have F3:=bF hb1;have K3:=bK hb1;have G3:=bN hb1;simp only[cA1,jc6 cA1,je5,List.cons_append,List.nil_append,F3,K3,G3,go_sem];refine lay (List.map (fun q=>if q.1=hp A then(q.1,11,[e.c++[sl0 Q 31 1 qs.length,bV B false qs.length,.bool false]])else q) R1) (fun M hM=> ?_);have bM:blks M:=hM▸jb6 hb1;have aM:Abs.look M (hp A)=some (11,[e.c++[sl0 Q 31 1 qs.length,bV B false qs.length,.bool false]]):=by rw[<-hM];exact jc6 cA1 _ _
   have lM:∀d,d≠hp A->Abs.look M d=Abs.look R1 d:=fun d hd=>by rw[<-hM];exact jal hd
   refine jfl M bM (ja3 (by decide) bM (SubR.of_eq (by rw[<-hM,hv];rfl))) ?_;simp only[go_sem];refine .inr ⟨ha,A,Q,B,rfl,bM,aM,fun hne=> ?_,fun hpt=> ?_,fun h=>absurd rfl h⟩
   ·have c1:=hs1 _ _ (hQ2 hne);exact(lM _ (hpn (jf0 c1 cA1 (by decide)))).trans c1
   ·cases hpt
  | true=>
   by_cases hn0:qs.length=0
   ·have hv:∀B,bV B true qs.length= .emp:=fun B=>by rw[hn0];rfl
    simp only[hv]at kF;simp only[hd,F2,K2,G2,cA,go_sem];refine ja9 kF (by decide) (by simp only[zl,zB,jaq];rfl) hR (ja3 (by decide) hR (SubR.refl R)) ?_;rintro _ R1 ⟨B,rfl,hb1,hs1,hn1⟩ _;refine⟨_,jb3 [(2,8,[e.c])] (fun p hp=>by rw[zp.1 hp];exact G2 2 (by decide)),?_⟩;have cA1:=hs1 _ _ cA;have F3:=bF hb1;have K3:=bK hb1;have G3:=bN hb1;simp only[cA1,jc6 cA1,je5,List.cons_append,List.nil_append,F3,K3,G3,go_sem];refine lay (List.map (fun q=>if q.1=hp A then(q.1,11,[e.c++[sl0 Q 31 1 qs.length,bV B true qs.length,.bool true]])else q) R1) (fun M hM=> ?_);have bM:blks M:=hM▸jb6 hb1;have aM:Abs.look M (hp A)=some (11,[e.c++[sl0 Q 31 1 qs.length,bV B true qs.length,.bool true]]):=by rw[<-hM];exact jc6 cA1 _ _
    have lM:∀d,d≠hp A->Abs.look M d=Abs.look R1 d:=fun d hd=>by rw[<-hM];exact jal hd
    refine jfl M bM (ja3 (by decide) bM (SubR.of_eq (by rw[<-hM,hv];rfl))) ?_;simp only[go_sem];refine .inr ⟨ha,A,Q,B,rfl,bM,aM,fun hne=> ?_,fun hpt=> ?_,fun h=>absurd rfl h⟩
    ·have c1:=hs1 _ _ (hQ2 hne);exact(lM _ (hpn (jf0 c1 cA1 (by decide)))).trans c1
    ·exact fun hne=>by
      have c1:=(hn1 trivial).1 hne;exact(lM _ (hpn (jf0 c1 cA1 (by decide)))).trans c1
   ·have hv:∀B,bV B true qs.length= .ref B 73 10 qs.length:=fun B=>by unfold bV;rw[zm rfl,jab hn0]
    simp only[hv]at kF;simp only[hd,F2,K2,G2,cA,go_sem];refine ja9 kF (by decide) (by simp only[zl,zB,jaq];rfl) hR (ja3 (by decide) hR (SubR.refl R)) ?_;rintro _ R1 ⟨B,rfl,hb1,hs1,hn1⟩ _;refine⟨_,jb3 [(2,8,[e.c])] (fun p hp=>by rw[zp.1 hp];exact G2 2 (by decide)),?_⟩;have cA1:=hs1 _ _ cA;have F3:=bF hb1;have K3:=bK hb1;have G3:=bN hb1;simp only[cA1,jc6 cA1,je5,List.cons_append,List.nil_append,F3,K3,G3,go_sem];refine lay (List.map (fun q=>if q.1=hp A then(q.1,11,[e.c++[sl0 Q 31 1 qs.length,bV B true qs.length,.bool true]])else q) R1) (fun M hM=> ?_);have bM:blks M:=hM▸jb6 hb1;have aM:Abs.look M (hp A)=some (11,[e.c++[sl0 Q 31 1 qs.length,bV B true qs.length,.bool true]]):=by rw[<-hM];exact jc6 cA1 _ _
    have lM:∀d,d≠hp A->Abs.look M d=Abs.look R1 d:=fun d hd=>by rw[<-hM];exact jal hd
    refine jfl M bM (ja3 (by decide) bM (SubR.of_eq (by rw[<-hM,hv];rfl))) ?_;simp only[go_sem];refine .inr ⟨ha,A,Q,B,rfl,bM,aM,fun hne=> ?_,fun hpt=> ?_,fun h=>absurd rfl h⟩
    ·have c1:=hs1 _ _ (hQ2 hne);exact(lM _ (hpn (jf0 c1 cA1 (by decide)))).trans c1
    ·exact fun hne=>by
      have c1:=(hn1 trivial).1 hne;exact(lM _ (hpn (jf0 c1 cA1 (by decide)))).trans c1
