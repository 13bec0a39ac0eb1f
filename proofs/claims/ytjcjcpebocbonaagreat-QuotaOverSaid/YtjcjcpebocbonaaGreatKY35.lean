/- A part of the proof. No further condition. -/
import Derived.Test.YtjcjcpebocbonaaGreatKY34
set_option linter.all false
set_option maxRecDepth 10000000
set_option maxHeartbeats 16000000
namespace Go.Proofs.YtjcjcpebocbonaaGreat
section
set_option maxRecDepth 1000000
open Go.Abs
open Go.LP (Rw RT)
attribute [local go_sem] Evid.c Evid.iv ints ic big frac
def pickC(p:Int×Int):List IV:=[.int p.1,.int p.2]
def je8(e:Evid)(p:Int×Int):Bool:=decide (0<=p.1)&&(decide (p.1<e.moves.length)&&(decide (0<=p.2)&&decide (p.2<e.mats)))
def pickK(M:Nat)(p:Int×Int):Nat:=p.1.toNat*M+p.2.toNat
def okP(e:Evid)(ps:List (Int×Int)):Bool:=decide (jbh e=0)&&(ps.all (je8 e)&&Go.LW.noDup (Go.LW.isort (ps.map (pickK e.mats.toNat))))
def goalS(M:Nat)(ps:List (Int×Int)):List (Nat×Rat):=Go.LP.ones (Go.LW.isort (ps.map (pickK M)))
def jg9(e:Evid)(ps:List (Int×Int)):IV:=if okP e ps=true then .tup [.sl ((goalS e.mats.toNat ps).map tmC),.bool true]else .tup [.sl [],.bool false]
theorem jko{e:Evid}{ps:List (Int×Int)}{i:Nat}{p:Int×Int}(hx:ps[i]? =some p)(h:je8 e p=false):jg9 e ps= .tup [.sl [],.bool false]:=by
 have:okP e ps=false:=by
  unfold okP;have:ps.all (je8 e)=false:=by
   rcases ha:ps.all (je8 e)with _ | _
   ·rfl
   ·rw[List.all_eq_true.1 ha p (zk hx)]at h;cases h
  rw[this];simp
 unfold jg9;rw[this];rfl
def goalT(M:Nat)(ps:List (Int×Int)):List (Nat×Rat):=ps.map fun p=>(pickK M p,((1:Int):Rat))
section
variable{e:Evid}{M:Nat}{ps:List (Int×Int)}
theorem w_goal0(hc:jbh e≠0):Ctr G.P 88 [e.iv,.sl (ps.map pickC)] (· = .tup [.sl [],.bool false]):=by
 have a1:=c21 e;generalize jbh e=k at*;have hk:decide (k=0)=false:=zh hc;refine ja3 [.tmp 4,.tmp 5] Tryz.func88 ?_;simp only[go_sem];refine ja0 a1 ?_;simp only[hk,go_sem]
theorem keys_T{M:Nat}{ps:List (Int×Int)}{es':List (List IV)}(hp:es'.Perm ((goalT M ps).map tmC))(hs:∀(i j:Nat) x y,i<j->es'[i]? =some x->es'[j]? =some y->keyC x<=keyC y):es'=(goalS M ps).map tmC:=by
 have e1:(goalT M ps).map tmC=(ps.map (pickK M)).map (fun k=>tmC (k,((1:Int):Rat))):=by
  unfold goalT;rw[qN,qN];rfl
 obtain⟨ks,h1,h2⟩:=Go.LW.perm_map_inv hp e1;subst h2;have e3:ks=Go.LW.isort (ps.map (pickK M)):=by
  refine Go.LW.isort_of h1 ?_;rw[yK];intro i j hi hj a1;have:=hs i j _ _ a1 (by rw[zq,za hi];rfl) (by rw[zq,za hj];rfl);simp only[tmC,keyC]at this;omega
 rw[e3,goalS,Go.LP.ones,qN];rfl
theorem w_goal1(hc:jbh e=0)(hM:e.mats=(M:Int))(hl:ps.length<=10000):CtrH G.P 88 [.im e.iv,.im (.sl (ps.map pickC))] [] (fun r L'=>∃(y:IV) (bs:List Nat),r= .im y/\frzL bs y L'=jg9 e ps):=by
 have h2:=c21 e;rw[hc]at h2;have h6:e.mats.toNat=M:=by omega
 obtain⟨e8,l0,_⟩:=jay hc;obtain⟨l1,l2,l3,l4,l5,l6,l7,l8⟩:=jet e8;refine jap [54] [] [.tmp 4,.tmp 5] Tryz.func88 ?_;simp only[go_sem];refine ja0 h2 ?_;simp only[zw,go_sem];refine jar [2,6,13,14,15] (fun g:(Nat×Nat)×Abs.Rows=>⟨[(2,.loc 2 8 0 0),(6,sA g.1.2 (goalT M (ps.take g.1.1)).length),(13,.im (.sl (ps.map pickC))),(14,.im (.int ps.length)),(15,.im (.int g.1.1))],(2,8,[e.c])::g.2,[]⟩)
  (fun g=>g.1.1<=ps.length/\blks g.2/\NEWT [] g.2 g.1.2 (goalT M (ps.take g.1.1))/\∀p∈ps.take g.1.1,je8 e p=true) (fun g=>ps.length-g.1.1) ((0,0),[]) ?_ ja5 rfl ⟨zG _,jb6,fun h=>absurd rfl h,fun p hp=>by cases hp⟩ ?_
 ·have hz:=jer (A:=0) (show(goalT M ([]:List (Int×Int))).length=0 from rfl);simp only[Int.natCast_zero,hz,List.take_zero,go_sem]
 rintro⟨⟨i,A⟩,R⟩ ⟨hi,hR,b6,b3⟩;dsimp only at hi hR b6 b3;have F1:=bB hR;have c5:∀j,j<=ps.length->(goalT M (ps.take j)).length=j:=fun j hj=>by unfold goalT;rw[zw,qb];omega
 rcases zU i ps.length with hlt | hlt
 ·have hd:decide ((i:Int)<ps.length)=true:=dTo;have h1:=ja8 ((i:Int)+1);obtain⟨⟨a,b⟩,hx⟩:=jcf (l:=ps) (i:=i) (by omega);have b0:(ps.map pickC)[i]? =some [.int a,.int b]:=by rw[zq,hx];rfl
  have hs:∃x,sA A (goalT M (ps.take i)).length=x/\(x= .sx []\/∃n,x= .im (.ref A 180 5 n)):=⟨_,rfl,by
   by_cases hn:(goalT M (ps.take i)).length=0
   ·exact .inl (jer hn)
   ·exact .inr ⟨_,je7 hn⟩⟩
  rcases ha:decide (a<0)with _ | _
  ·rcases ha2:decide ((e.moves.length:Int)<=a)with _ | _
   ·rcases hb:decide (b<0)with _ | _
    ·rcases hb2:decide (e.mats<=b)with _ | _
     ·have kI:Ctr G.P 41 [.int 1] (· =frac ((1:Int):Rat)):=jcj 1 (by omega);simp only[frac,ints]at kI;have n0:=zJ ha;have k8:=zJ ha2;have l9:=zJ hb;have k7:=zJ hb2;obtain⟨a',rfl⟩:∃a':Nat,a=(a':Int):=⟨a.toNat,by omega⟩;obtain⟨b',rfl⟩:∃b':Nat,b=(b':Int):=⟨b.toNat,by omega⟩;have k9:a'*M<=200*6:=yk (by omega) (by omega);have w1:IntKind.i64.wrap ((a':Int)*e.mats)=((a'*M:Nat):Int):=by
       rw[hM,<-Int.natCast_mul];exact jdf (by omega)
      have w2:IntKind.i64.wrap (((a'*M:Nat):Int)+b')=((a'*M+b':Nat):Int):=by
       rw[<-Int.natCast_add];exact jdf (by omega)
      have c4:je8 e ((a':Int),(b':Int))=true:=by
       simp only[je8,zn,zN];omega
      have c6:ps.take (i+1)=ps.take i++[((a':Int),(b':Int))]:=by rw[List.take_succ,hx];rfl
      have c0:goalT M (ps.take (i+1))=goalT M (ps.take i)++[(a'*M+b',((1:Int):Rat))]:=by
       rw[c6,goalT,qx];rfl
      have b7:∀p∈ps.take (i+1),je8 e p=true:=fun p hp=>by
       rw[c6]at hp;rcases ql.1 hp with hp | hp
       ·exact b3 p hp
       ·rw[zF.1 hp];exact c4
      have b4:=c5 (i+1) hlt;have a1:=c5 i (by omega);by_cases hn:i=0
      ·have a8:=jer (A:=A) (a1.trans hn);have c9:goalT M (ps.take i)=[]:=zX (a1.trans hn);have hs1:=fun X=>je7 (A:=X) (n:=(goalT M (ps.take (i+1))).length) (by rw[b4];omega);rw[b4]at hs1;simp only[hd,b0,ha,ha2,hb,hb2,F1,a8,zw,go_sem];refine jdb [false,false,false,false,false,false,false,false,false,false,false,false,true] [(8,2,[[.int a',.int b']]),(2,8,[e.c])] (by decide+kernel) (jbi _ (jb0 (ja2 _ _ _))) ?_;simp only[w1,w2,go_sem];refine ja4 kI (by decide) ?_;simp only[w1,w2,F1,go_sem];refine And.intro (fun c hc=>by rw[zF.1 hc];rfl) ?_;refine jjw (fun X hX=> ?_);have lX:Abs.look R (hp X)=none:=by
        rw[jae,jae]at hX;exact hX
       clear hX;refine And.intro ?_ ?_
       ·refine jaw ?_ (jbi _ (jb0 (ja2 _ _ _)));dsimp only;rw[jae,jae];rfl
       simp only[F1,go_sem];refine jac ((i+1,X),(hp X,5,[tmC (a'*M+b',((1:Int):Rat))])::R) ?_ ?_ rfl (by show ps.length-(i+1)<ps.length-i;omega) ⟨hlt,jao hR,?_,b7⟩
       ·have h8:sA X (i+1)= .im (.ref X 180 5 1):=by
         rw[show i+1=1 by omega];exact je7 (by decide)
        simp only[h1,b4,h8,Int.natCast_add,go_sem]
       ·dsimp only;refine jc2 ?_ (jbi _ (ja6 (by decide) hR (ja6 (by decide) hR (SubR.refl _))));rw[jcz,ja1 _ _ (by decide),ja2]<;>rfl
       ·dsimp only;rw[c0];refine NEWT.app ?_ rfl;rw[ja2,c9];rfl
      ·have a8:=je7 (A:=A) (n:=(goalT M (ps.take i)).length) (by rw[a1];exact hn);obtain⟨b5,_⟩:=b6 (by rw[a1];exact hn);have h7:((goalT M (ps.take i)).map tmC).take i=(goalT M (ps.take i)).map tmC:=zZ (by rw[zw,a1];exact zu _);have hs1:=fun X=>je7 (A:=X) (n:=(goalT M (ps.take (i+1))).length) (by rw[b4];omega);rw[b4]at hs1;rw[a1]at a8;have c3:((goalT M (ps.take i)).map tmC).length=i:=by rw[zw,a1]
       obtain⟨Q,hQe⟩:∃Q,Abs.del R (hp A)=Q:=⟨_,rfl⟩;have bQ:blks Q:=hQe▸jch hR;have k5:List.filter (fun p=>p.1 !=hp A) R=Q:=hQe;have F2:=bB bQ;have b8:∀k,(8 !=hp k)=true:=fun k=>by simp only[qh,ne_eq];exact hp_ne (by decide)
       have b2:∀k,(2 !=hp k)=true:=fun k=>by simp only[qh,ne_eq];exact hp_ne (by decide)
       simp only[hd,b0,ha,ha2,hb,hb2,F1,a1,a8,zw,go_sem];refine jdb [false,false,false,false,false,false,false,false,false,false,false,false,true] [(8,2,[[.int a',.int b']]),(2,8,[e.c])] (by decide+kernel) (jbi _ (jb0 (ja2 _ _ _))) ?_;simp only[w1,w2,go_sem];refine ja4 kI (by decide) ?_;simp only[w1,w2,b5,h7,c3,F1,go_sem];refine And.intro (fun c hc=>by rw[zF.1 hc];rfl) (And.intro (zu _) (And.intro (by omega) ?_));refine jhy (fun X hX=> ?_);have lX:Abs.look Q (hp X)=none:=by
        rw[jat (hp_ne (by decide)),jat (hp_ne (by decide)),jae,jae,hQe]at hX;exact hX
       clear hX;refine And.intro ?_ ?_
       ·rw[jat (hp_ne (by decide)),jat (hp_ne (by decide)),hQe];refine jaw ?_ (jbi _ (jb0 (ja2 _ _ _)));dsimp only;rw[jae,jae];rfl
       simp only[b8,b2,k5,F2,go_sem];refine jac ((i+1,X),(hp X,5,(goalT M (ps.take i)).map tmC++[tmC (a'*M+b',((1:Int):Rat))])::Q) ?_ ?_ rfl (by show ps.length-(i+1)<ps.length-i;omega) ⟨hlt,jao bQ,?_,b7⟩
       ·simp only[h1,b4,hs1,Int.natCast_add,go_sem]
       ·dsimp only;refine jc2 ?_ (jbi _ (ja6 (by decide) bQ (ja6 (by decide) bQ (SubR.refl _))));rw[jcz,ja1 _ _ (by decide),ja2]<;>rfl
       ·dsimp only;rw[c0];exact NEWT.app (ja2 _ _ _) rfl
     ·have h3:decide (b<e.mats)=false:=zh (by have:=zI hb2;omega);have a6:=jko (e:=e) hx (by simp only[je8,h3,jl,qZ]);obtain⟨x,a7,b1⟩:=hs;rcases b1 with rfl | ⟨n,rfl⟩
      ·simp only[hd,b0,ha,ha2,hb,hb2,F1,a7,zw,go_sem];refine jbl ?_;simp only[go_sem];exact⟨_,[],rfl,by rw[a6];rfl⟩
      ·simp only[hd,b0,ha,ha2,hb,hb2,F1,a7,zw,go_sem];refine jbl ?_;simp only[go_sem];exact⟨_,[],rfl,by rw[a6];rfl⟩
    ·have k3:decide (0<=b)=false:=zh (by have:=zI hb;omega);have a6:=jko (e:=e) hx (by simp only[je8,k3,jl,qZ]);obtain⟨x,a7,b1⟩:=hs;rcases b1 with rfl | ⟨n,rfl⟩
     ·simp only[hd,b0,ha,ha2,hb,F1,a7,zw,go_sem];refine jbl ?_;simp only[go_sem];exact⟨_,[],rfl,by rw[a6];rfl⟩
     ·simp only[hd,b0,ha,ha2,hb,F1,a7,zw,go_sem];refine jbl ?_;simp only[go_sem];exact⟨_,[],rfl,by rw[a6];rfl⟩
   ·have h4:decide (a<(e.moves.length:Int))=false:=zh (by have:=zI ha2;omega);have a6:=jko (e:=e) hx (by simp only[je8,h4,jl,qZ]);obtain⟨x,a7,b1⟩:=hs;rcases b1 with rfl | ⟨n,rfl⟩
    ·simp only[hd,b0,ha,ha2,F1,a7,zw,go_sem];refine jbl ?_;simp only[go_sem];exact⟨_,[],rfl,by rw[a6];rfl⟩
    ·simp only[hd,b0,ha,ha2,F1,a7,zw,go_sem];refine jbl ?_;simp only[go_sem];exact⟨_,[],rfl,by rw[a6];rfl⟩
  ·have k4:decide (0<=a)=false:=zh (by have:=zI ha;omega);have a6:=jko (e:=e) hx (by simp only[je8,k4,jl,qZ]);obtain⟨x,a7,b1⟩:=hs;rcases b1 with rfl | ⟨n,rfl⟩
   ·simp only[hd,b0,ha,F1,a7,zw,go_sem];refine jbl ?_;simp only[go_sem];exact⟨_,[],rfl,by rw[a6];rfl⟩
   ·simp only[hd,b0,ha,F1,a7,zw,go_sem];refine jbl ?_;simp only[go_sem];exact⟨_,[],rfl,by rw[a6];rfl⟩
 ·have hd:decide ((i:Int)<ps.length)=false:=dFo;have k1:i=ps.length:=by omega
  subst k1;rw[qJ]at b3;have a1:=c5 ps.length (zu _);rw[qJ]at a1 b6;by_cases hn:ps.length=0
  ·have h9:ps=[]:=zX hn;have a8:=jer (A:=A) (a1.trans hn);have c7:jg9 e ps= .tup [.sl [],.bool true]:=by
    subst h9;unfold jg9 okP goalS;rw[hc];rfl
   have kS:=w_sort0;simp only[hd,a8,qJ,go_sem];refine ja0 kS ?_;simp only[go_sem];refine jar [2,6,9] (fun g:Nat=>⟨[(2,.loc 2 8 0 0),(6,.sx []),(9,.im (.int 1))],(2,8,[e.c])::R,[]⟩) (fun _=>True) (fun g=>g) 0 ?_ ja5 rfl trivial ?_
   ·simp only[a8,qJ,go_sem]
   rintro j _;simp only[go_sem];refine jbl ?_;simp only[go_sem];exact⟨_,[],rfl,by rw[c7];rfl⟩
  ·have a8:=je7 (A:=A) (n:=(goalT M ps).length) (by rw[a1];exact hn);rw[a1]at a8;obtain⟨b5,_⟩:=b6 (by rw[a1];exact hn);have c3:((goalT M ps).map tmC).length=ps.length:=by rw[zw,a1]
   have kS:=w_sort b5 (by omega) (fun c hc=>by obtain⟨z,_,rfl⟩:=z8.1 hc;exact⟨_,_,rfl⟩);rw[c3]at kS;simp only[hd,a8,qJ,a1,go_sem];refine jaj kS (by decide) rfl hR (ja6 (by decide) hR (SubR.refl _)) ?_;rintro _ L1 ⟨rfl,es',hperm,hsorted,hL1⟩ _;have e9:=keys_T hperm hsorted;obtain⟨ks,hks⟩:∃ks,Go.LW.isort (ps.map (pickK M))=ks:=⟨_,rfl⟩;have k0:ks.length=ps.length:=by rw[<-hks,(Go.LW.isort_perm _).length_eq,zw]
   have e7:(goalS M ps).map tmC=ks.map (fun k=>tmC (k,1)):=by rw[goalS,hks,Go.LP.ones,qN];rfl
   have lA:Abs.look L1 (hp A)=some (5,ks.map (fun k=>tmC (k,1))):=by rw[hL1,e9,e7];exact jc7 (by rw[b5];rfl)
   have k6:blks L1:=hL1▸jb8 hR;clear hL1 hperm hsorted e9 b5 b6;obtain⟨cs,ct,cb,cd,hfc⟩:∃(s t:Int) (b d:List (List IV)),fc (1:Rat)=[.int s,.sl b,.int t,.sl d]:=⟨_,_,_,_,rfl⟩;have h5:∀(j x:Nat),ks[j]? =some x->(ks.map (fun k=>tmC (k,1)))[j]? =some [.int x,.int cs,.sl cb,.int ct,.sl cd]:=fun j x h=>by
    rw[zq,h,Option.map_some,tmC,hfc]
   have n1:(ks.map (fun k=>tmC (k,1))).length=ps.length:=by rw[zw,k0]
   generalize ks.map (fun k=>tmC (k,1))=TT at*;refine⟨(2,8,[e.c])::L1,jbg [_] (jd5 hR (by simp)),?_⟩;have F2:=bB k6;have c8:∀b,Go.LW.noDup ks=b->okP e ps=b:=fun b hb=>by
    unfold okP;rw[h6,hks,hb,hc,List.all_eq_true.2 b3];rfl
   simp only[F2,go_sem];refine jar [2,6,9] (fun g:Nat=>⟨[(2,.loc 2 8 0 0),(6,.im (.ref A 180 5 ps.length)),(9,.im (.int ((g:Int)+1)))],(2,8,[e.c])::L1,[]⟩)
    (fun g=>g<ps.length/\∀(j x y:Nat),j<g->ks[j]? =some x->ks[j+1]? =some y->x≠y) (fun g=>ps.length-g) 0 ?_ ja5 rfl ⟨by omega,fun j x y h=>by omega⟩ ?_
   ·simp only[Int.natCast_zero,yW,go_sem]
   rintro j ⟨hj,e0⟩;rcases zU (j+1) ps.length with hlt2 | hlt2
   ·have b9:decide ((j:Int)+1<ps.length)=true:=dTo;have h0:IntKind.i64.wrap ((j:Int)+1-1)=(j:Int):=by rw[Int.add_sub_cancel];exact jdf (by omega)
    have h1:=ja8 ((j:Int)+1+1);obtain⟨x,hx⟩:∃x,ks[j]? =some x:=⟨_,za (by omega)⟩;obtain⟨y,hy⟩:∃y,ks[j+1]? =some y:=⟨_,za (by omega)⟩;have gx:=h5 j x hx;have gy:=h5 (j+1) y hy;have e6:(0:Int)<=j:=by omega
    have e5:(j:Int)<ps.length:=by omega
    have e4:(0:Int)<=(j:Int)+1:=by omega
    have e3:(j:Int)+1<ps.length:=by omega
    have ht:((j:Int)+1).toNat=j+1:=by omega
    rcases hxy:decide ((x:Int)=(y:Int))with _ | _
    ·simp only[b9,go_sem];refine jaf 12 ?_;simp only[h0,lA,gx,gy,hxy,e6,e5,e4,e3,ht,Int.toNat_natCast,F2,go_sem];refine jac (j+1) ?_ ja5 rfl (by show ps.length-(j+1)<ps.length-j;omega) ⟨hlt2,fun k u v hk hu hv=> ?_⟩
     ·simp only[h1,Int.natCast_add,go_sem]
     ·rcases zU k j with h | h
      ·exact e0 k u v h hu hv
      ·have:k=j:=by omega
       subst this;rw[hx]at hu;rw[hy]at hv;cases hu;cases hv;have:=zJ hxy;omega
    ·have a6:jg9 e ps= .tup [.sl [],.bool false]:=by
      have:Go.LW.noDup ks=false:=by
       rcases hb:Go.LW.noDup ks with _ | _
       ·rfl
       ·exact absurd (by have:=zI hxy;omega) (Go.LW.noDup_at.1 hb j x y hx hy)
      unfold jg9;rw[c8 _ this];rfl
     simp only[b9,go_sem];refine jaf 12 ?_;simp only[h0,lA,gx,gy,hxy,e6,e5,e4,e3,ht,Int.toNat_natCast,F2,go_sem];refine jbl ?_;simp only[go_sem];exact⟨_,[],rfl,by rw[a6];rfl⟩
   ·have b9:decide ((j:Int)+1<ps.length)=false:=dFo;have k2:jg9 e ps= .tup [.sl TT,.bool true]:=by
     have:Go.LW.noDup ks=true:=Go.LW.noDup_at.2 fun k u v hu hv=>by
      have:=(zr.1 hv).1;exact e0 k u v (by omega) hu hv
     unfold jg9;rw[c8 _ this,h6,e7];rfl
    simp only[b9,go_sem];refine jbl ?_;simp only[go_sem];refine⟨_,[A],rfl,?_⟩;rw[k2,jdn (s:=5) (by rw[jas,jae];exact lA),jfm];have e1:List.take ps.length TT=TT:=tLo;have e2:ps.length<=TT.length:=by omega
    simp only[frz3,frz2,frz1,zt,zE,e1,e2,vj,qD]
theorem w_goal(hl:ps.length<=10000):Ctr G.P 88 [e.iv,.sl (ps.map pickC)] (· =jg9 e ps):=by
 by_cases hc:jbh e=0
 ·obtain⟨a1,a6,_⟩:=jay hc;obtain⟨M,hM⟩:∃M:Nat,e.mats=(M:Int):=⟨e.mats.toNat,by omega⟩;exact jhs (w_goal1 hc hM hl) (fun r L' ⟨y,bs,h1,h2⟩=>⟨y,bs,h1,h2⟩)
 ·have h:=w_goal0 (ps:=ps) hc;have e1:jg9 e ps= .tup [.sl [],.bool false]:=by
   unfold jg9 okP;rw[zh hc];rfl
  rw[e1];exact h
