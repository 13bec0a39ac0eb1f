/- A part of the proof. No further condition. -/
import Derived.Test.YtgncgpfjldefpaaGreatKR16
set_option linter.all false
set_option maxRecDepth 10000000
set_option maxHeartbeats 16000000
namespace Go.Proofs.YtgncgpfjldefpaaGreat
section
open Go.Abs
attribute [local go_sem] ints ic Bat.c Pap.c Led.c
section
variable{L:Abs.Rows}{A B C:Nat}{p:Led}
theorem jdq{R:Abs.Rows}{d:Nat}{v:Nat×List (List IV)}(h:Abs.look R d=none):SubR R ((d,v)::R):=fun k x hk=>by
 rw[ja0 _ _ (fun e=>by rw[e,h]at hk;cases hk)];exact hk
theorem SubRN{R:Abs.Rows}{O1 O2:Nat}{v:Nat×List (List IV)}(n:¬O1=O2)(h:Abs.look R (hp O2)=none):Abs.look ((hp O1,v)::R) (hp O2)=none:=by
 rw[ja0 _ _ (hpn (zw n))];exact h
theorem SubR_sw{R:Abs.Rows}{a b:Nat}{v w:Nat×List (List IV)}(n:a≠b):SubR ((a,v)::(b,w)::R) ((b,w)::(a,v)::R):=fun k x hk=>by
 by_cases e:k=a
 ·subst e;rw[ja2]at hk;rw[ja0 _ _ n,ja2];exact hk
 ·rw[ja0 _ _ e]at hk;by_cases e2:k=b
  ·subst e2;rw[ja2]at hk;rw[ja2];exact hk
  ·rw[ja0 _ _ e2]at hk;rw[ja0 _ _ e2,ja0 _ _ e];exact hk
theorem map_none{R:Abs.Rows}{d:Nat}(s:Nat)(es:List (List IV))(h:Abs.look R d=none):List.map (fun q=>if q.1=d then(q.1,s,es)else q) R=R:=by
 induction R with
 | nil=>rfl
 | cons a R ih=>
  obtain⟨k,v⟩:=a;have hk:¬k=d:=fun e=>by subst e;rw[ja2]at h;cases h
  rw[ja0 _ _ (zw hk)]at h;rw[zr,zp hk,ih h]
theorem pb_join1(h:HasLg L A B C p){k m:Nat}{x y:Pap}(hkm:¬k=m)(hx:p.ps[k]? =some x)(hy:p.ps[m]? =some y)(hg:1<=x.grams/\x.grams<=1099511627776)(hgy:1<=y.grams/\y.grams<=1099511627776)(hl:p.ps.length<=10000):
  CtrH G.P 40 [.loc (hp A) 2 0 0,.im (.ip [.int k] 0),.im (.ip [.int m] 0)] L (fun r L'=>(decide (x.bat=y.bat)=false/\r= .im (.int 13))\/(decide (x.bat=y.bat)=true/\decide (1099511627776<x.grams+y.grams)=true/\r= .im (.int 3))\/
   (decide (x.bat=y.bat)=true/\decide (1099511627776<x.grams+y.grams)=false/\r= .im (.int 0)/\∃X,HasLg L' A B X ⟨p.bs,(p.ps.set k (goneP x)).set m (goneP y)++[{x with grams:=x.grams+y.grams}]⟩)):=by
 have hb:=h.blk;have F1:=bF hb;have K1:=bK hb;have G1:=bN hb;have c0:=h.hA;have cC:=h.hC;have hi0:(0:Int)<=k:=by omega
 have hk:k<p.ps.length:=(zt.1 hx).1;have hki:(k:Int)<p.ps.length:=by omega
 have hj0:(0:Int)<=m:=by omega
 have hm:m<p.ps.length:=(zt.1 hy).1;have hmi:(m:Int)<p.ps.length:=by omega
 have w1:=ja9 (n:=x.grams+y.grams) (by omega);have hca:¬C=A:=fun e=>h.ac e.symm;refine jan [5,6,61] [] [.tmp 4] Tryz.func40 ?_;simp only[F1,K1,G1,go_sem];refine jhr (ι:=Nat×Nat) (fun o=>⟨[(0,.loc (hp A) 2 0 0),(1,.im (.ip [.int k] 0)),(2,.im (.ip [.int m] 0)),(5,.loc (hp o.1) 5 0 0),(6,.loc (hp o.2) 5 0 0)],(hp o.1,5,[x.c])::(hp o.2,5,[y.c])::L,[]⟩) (fun o=>Abs.look L (hp o.1)=none/\Abs.look L (hp o.2)=none/\¬o.1=o.2) ?_ ?_
 ·refine jsa [false,false,false,false,false,false,false,false,false,false,false,false,false,false,true,true,true] (.alt 14 (.alt 15 (.alt 16 .fin .none) .none) (.alt 15 (.alt 14 (.alt 16 .fin .none) .none) .none)) [(hp A,2,[[.ref B 52 2 p.bs.length,.ref C 34 5 p.ps.length]]),(hp C,5,p.ps.map Pap.c)] (by decide+kernel) (ja5 c0 (ja5 cC ja7)) ?_;simp only[hca,hk,hi0,hki,hm,hj0,hmi,zh,zq,hx,hy,go_sem];have sr0:SubR [(hp A,2,[[.ref B 52 2 p.bs.length,.ref C 34 5 p.ps.length]]),(hp C,5,p.ps.map Pap.c)] L:=ja5 c0 (ja5 cC ja7);refine And.intro ?_ ?_
  ·refine jbn (fun O1 h1=>And.intro (fun k x hk=>jdq h1 k x (sr0 k x hk)) ?_);simp only[go_sem];refine jbn (fun O2 h2=>And.intro (fun k x hk=>jdq h2 k x (jdq h1 k x (sr0 k x hk))) ?_);have n12:¬O1=O2:=fun e=>by rw[e,ja2]at h2;cases h2
   rw[ja0 _ _ (hpn (zw n12))]at h2;have f1:=fun(s:Nat) (es:List (List IV))=>map_none s es h1;have f2:=fun(s:Nat) (es:List (List IV))=>map_none s es h2;simp only[n12,zw n12,f1,f2,go_sem];refine And.intro (fun k x hk=>jdq (SubRN n12 h2) k x (jdq h1 k x (sr0 k x hk))) ?_;refine jbz (O1,O2) ?_ ?_ ?_ ?_
   ·exact⟨h1,h2,n12⟩
   ·simp only[go_sem]
   ·exact SubR_sw (hpn n12)
   rfl
  ·refine jbn (fun O2 h2=>And.intro (fun k x hk=>jdq h2 k x (sr0 k x hk)) ?_);simp only[go_sem];refine jbn (fun O1 h1=>And.intro (fun k x hk=>jdq h1 k x (jdq h2 k x (sr0 k x hk))) ?_);have n12:¬O1=O2:=fun e=>by rw[e,ja2]at h1;cases h1
   rw[ja0 _ _ (hpn n12)]at h1;have f1:=fun(s:Nat) (es:List (List IV))=>map_none s es h1;have f2:=fun(s:Nat) (es:List (List IV))=>map_none s es h2;simp only[n12,zw n12,f1,f2,go_sem];refine And.intro (fun k x hk=>jdq (SubRN (zw n12) h1) k x (jdq h2 k x (sr0 k x hk))) ?_;refine jbz (O1,O2) ?_ ?_ ?_ ?_
   ·exact⟨h1,h2,n12⟩
   ·simp only[go_sem]
   ·exact SubR.of_eq rfl
   rfl
 intro o ⟨n1,n2,n12⟩;generalize o.1=O1 at*;generalize o.2=O2 at*;rcases d1:decide (x.bat=y.bat)with _ | _
 ·simp only[n12,zw n12,w1,d1,go_sem];refine jb8 [] jb0 ja7 ?_;simp only[go_sem]
 rcases d2:decide (1099511627776<x.grams+y.grams)with _ | _
 case true=>
  simp only[n12,zw n12,w1,d1,d2,go_sem];refine jb8 [] jb0 ja7 ?_;simp only[go_sem]
 have m1:=fun(s:Nat) (es:List (List IV))=>map_none s es n1;simp only[n12,zw n12,w1,d1,d2,m1,go_sem];have b1C:¬O1=C:=fun e=>by rw[e,cC]at n1;cases n1
 have b2C:¬O2=C:=fun e=>by rw[e,cC]at n2;cases n2
 have b1B:¬O1=B:=fun e=>by rw[e,h.hB]at n1;cases n1
 have b2B:¬O2=B:=fun e=>by rw[e,h.hB]at n2;cases n2
 have b1a:¬O1=A:=fun e=>by rw[e,c0]at n1;cases n1
 have b2a:¬O2=A:=fun e=>by rw[e,c0]at n2;cases n2
 refine jsa [false,false,false,false,false,false,false,false,false,false,false,false,true,false,false] (.alt 12 .fin .none) [(hp A,2,[[.ref B 52 2 p.bs.length,.ref C 34 5 p.ps.length]])] (by decide+kernel) (ja5 (by rw[ja0 _ _ (hpn (zw b1a)),ja0 _ _ (hpn (zw b2a))];exact c0) ja7) ?_;simp only[hca,hk,hi0,hki,hm,hj0,hmi,cC,c0,b1C,b2C,b1a,b2a,zw b1C,zw b2C,zw b1a,zw b2a,zh,zZ,zq,hx,go_sem];have srL:∀(M:Abs.Rows) (v w:Nat×List (List IV)),(∀d,d≠hp C->Abs.look M d=Abs.look L d)->SubR [(hp A,2,[[.ref B 52 2 p.bs.length,.ref C 34 5 p.ps.length]])] ((hp O1,v)::(hp O2,w)::M):=fun M v w hM=>ja5 (by
  rw[ja0 _ _ (hpn (zw b1a)),ja0 _ _ (hpn (zw b2a)),hM _ (hpn h.ac)];exact c0) ja7
 refine And.intro (srL _ _ _ fun d hd=>jag hd) ?_;obtain⟨V,hV⟩:∃V,V=(p.ps.map Pap.c).set k (goneP x).c:=⟨_,rfl⟩;refine pnm (List.map (fun q=>if q.1=hp C then(q.1,5,V)else q) L) (fun M0 hM0=> ?_);have e0:=hM0;rw[hV]at e0;simp only[Pap.c,goneP]at e0;have lM0:∀d,d≠hp C->Abs.look M0 d=Abs.look L d:=fun d hd=>by rw[<-hM0];exact jag hd
 have cM0:Abs.look M0 (hp C)=some (5,V):=by rw[<-hM0];exact jab cC
 have kM0:blks M0:=hM0▸jb5 hb;have hym:V[m]? =some y.c:=by rw[hV,yK,zp hkm,zq,hy];rfl
 have lV:V.length=p.ps.length:=by rw[hV,zZ,zh]
 simp only[e0,cM0,hym,lV,hm,b1C,b2C,zw b1C,zw b2C,go_sem];clear e0;obtain⟨U,hU⟩:∃U,U=V.set m (goneP y).c:=⟨_,rfl⟩;refine pnm (List.map (fun q=>if q.1=hp C then(q.1,5,U)else q) M0) (fun M hM=> ?_);have e1:=hM;rw[hU]at e1;simp only[Pap.c,goneP]at e1;simp only[e1,go_sem];clear e1;have lM:∀d,d≠hp C->Abs.look M d=Abs.look L d:=fun d hd=>by rw[<-hM,jag hd];exact lM0 d hd
 have cM:Abs.look M (hp C)=some (5,U):=by rw[<-hM];exact jab cM0
 have aM:Abs.look M (hp A)=some (2,[[.ref B 52 2 p.bs.length,.ref C 34 5 p.ps.length]]):=(lM _ (hpn h.ac)).trans c0;have bM:Abs.look M (hp B)=some (2,p.bs.map Bat.c):=(lM _ (hpn h.bc)).trans h.hB;have kM:blks M:=hM▸jb5 kM0;have o1M:Abs.look M (hp O1)=none:=(lM _ (hpn b1C)).trans n1;have o2M:Abs.look M (hp O2)=none:=(lM _ (hpn b2C)).trans n2;have hlen:U.length=p.ps.length:=by rw[hU,zZ,lV]
 have htk:U.take p.ps.length=U:=zD (by omega);clear hM hM0 cM0 lM0 kM0 srL m1;obtain⟨Q,hQe⟩:∃Q,Abs.del M (hp C)=Q:=⟨_,rfl⟩;have lQ:∀d,d≠hp C->Abs.look Q d=Abs.look M d:=fun d hd=>by rw[<-hQe];exact ja8 _ hd
 have kQ:blks Q:=hQe▸jbc kM;have hQf:List.filter (fun q=>q.1 !=hp C) M=Q:=hQe;have aQ:=(lQ _ (hpn h.ac)).trans aM;have bQ:=(lQ _ (hpn h.bc)).trans bM;have b5:(hp O1 !=hp C)=true:=by simp only[qq,ne_eq];exact hpn b1C
 have b6:(hp O2 !=hp C)=true:=by simp only[qq,ne_eq];exact hpn b2C
 refine jbo [false,false,false,false,false,false,false,true,false,false] [(hp O1,5,[({x with grams:=x.grams+y.grams}:Pap).c]),(hp A,2,[[.ref B 52 2 p.bs.length,.ref C 34 5 p.ps.length]])] (by decide+kernel) (ja5 (ja2 _ _ _) (ja5 (by rw[ja0 _ _ (hpn (zw b1a)),ja0 _ _ (hpn (zw b2a))];exact aM) ja7)) ?_;simp only[aM,cM,hlen,htk,b1C,b2C,b1a,b2a,zw b1C,zw b2C,zw b1a,zw b2a,go_sem];refine And.intro (fun c hc=>by rw[zC.1 hc];rfl) (And.intro (zu _) (And.intro (by omega) ?_));refine jdk (fun X hX=> ?_);rw[jjt (hpn b1C),jjt (hpn b2C),hQe]at hX;have x1:¬O1=X:=fun e=>by rw[e,ja2]at hX;cases hX
 rw[ja0 _ _ (hpn (zw x1))]at hX;have x2:¬O2=X:=fun e=>by rw[e,ja2]at hX;cases hX
 rw[ja0 _ _ (hpn (zw x2))]at hX;have xa:¬A=X:=fun e=>by rw[<-e,aQ]at hX;cases hX
 have xb:¬B=X:=fun e=>by rw[<-e,bQ]at hX;cases hX
 refine And.intro ?_ ?_
 ·rw[jjt (hpn b1C),jjt (hpn b2C),hQe];refine ja5 ?_ (ja5 ?_ ja7)
  ·rw[ja0 _ _ (hpn x1),ja2]<;>rfl
  ·rw[ja0 _ _ (hpn xa),ja0 _ _ (hpn (zw b1a)),ja0 _ _ (hpn (zw b2a))];exact aQ
 simp only[aQ,bQ,xa,zw xa,xb,zw xb,x1,zw x1,x2,zw x2,b5,b6,hQf,b1C,b2C,b1a,b2a,zw b1C,zw b2C,zw b1a,zw b2a,go_sem];refine jb6 ?_;simp only[go_sem];refine⟨X,jdc,h.ab,xa,xb,?_,?_,?_⟩
 ·rw[jaf,ja0 _ _ (hpn xa),ja0 _ _ (hpn (zw b1a)),ja0 _ _ (hpn (zw b2a)),jab aQ];dsimp only;rw[zF,zZ,zZ];rfl
 ·rw[jaf,ja0 _ _ (hpn xb),ja0 _ _ (hpn (zw b1B)),ja0 _ _ (hpn (zw b2B)),jag (hpn (fun e=>h.ab e.symm))];exact bQ
 ·rw[jaf,ja2,hU,hV];dsimp only;rw[qp,qn,qn];rfl
