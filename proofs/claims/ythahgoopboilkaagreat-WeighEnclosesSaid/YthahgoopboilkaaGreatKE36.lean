/- A part of the proof. No further condition. -/
import Derived.Test.YthahgoopboilkaaGreatKE35
set_option linter.all false
set_option maxRecDepth 10000000
set_option maxHeartbeats 16000000
namespace Go.Proofs.YthahgoopboilkaaGreat
section
open Go.Abs
open Go.LP (Rw RT)
attribute [local go_sem] Evid.c Evid.iv ints ic big frac
def pickC(p:Int×Int):List IV:=[.int p.1,.int p.2]
def jdh(e:Evid)(p:Int×Int):Bool:=decide (0<=p.1)&&(decide (p.1<e.moves.length)&&(decide (0<=p.2)&&decide (p.2<e.mats)))
def pickK(M:Nat)(p:Int×Int):Nat:=p.1.toNat*M+p.2.toNat
def okP(e:Evid)(ps:List (Int×Int)):Bool:=decide (jbl e=0)&&(ps.all (jdh e)&&Go.LW.noDup (Go.LW.isort (ps.map (pickK e.mats.toNat))))
def goalS(M:Nat)(ps:List (Int×Int)):List (Nat×Rat):=Go.LP.ones (Go.LW.isort (ps.map (pickK M)))
def jel(e:Evid)(ps:List (Int×Int)):IV:=if okP e ps=true then .tup [.sl ((goalS e.mats.toNat ps).map tmC),.bool true]else .tup [.sl [],.bool false]
theorem jka{e:Evid}{ps:List (Int×Int)}{i:Nat}{p:Int×Int}(hx:ps[i]? =some p)(h:jdh e p=false):jel e ps= .tup [.sl [],.bool false]:=by
 have:okP e ps=false:=by
  unfold okP;have:ps.all (jdh e)=false:=by
   rcases ha:ps.all (jdh e)with _ | _
   ·rfl
   ·rw[List.all_eq_true.1 ha p (zk hx)]at h;cases h
  rw[this];simp
 unfold jel;rw[this];rfl
def goalT(M:Nat)(ps:List (Int×Int)):List (Nat×Rat):=ps.map fun p=>(pickK M p,((1:Int):Rat))
section
variable{e:Evid}{M:Nat}{ps:List (Int×Int)}
theorem w_goal0(hc:jbl e≠0):Ctr G.P 47 [e.iv,.sl (ps.map pickC)] (· = .tup [.sl [],.bool false]):=by
 have hck:=c21 e;generalize jbl e=k at*;have hk:decide (k=0)=false:=zq hc;refine ja5 [.tmp 4,.tmp 5] Tryz.func47 ?_;simp only[go_sem];refine ja1 hck ?_;simp only[hk,go_sem]
theorem keys_T{M:Nat}{ps:List (Int×Int)}{es':List (List IV)}(hp:es'.Perm ((goalT M ps).map tmC))(hs:∀(i j:Nat) x y,i<j->es'[i]? =some x->es'[j]? =some y->keyC x<=keyC y):es'=(goalS M ps).map tmC:=by
 have e1:(goalT M ps).map tmC=(ps.map (pickK M)).map (fun k=>tmC (k,((1:Int):Rat))):=by
  unfold goalT;rw[ya,ya];rfl
 obtain⟨ks,h1,h2⟩:=Go.LW.perm_map_inv hp e1;subst h2;have e3:ks=Go.LW.isort (ps.map (pickK M)):=by
  refine Go.LW.isort_of h1 ?_;rw[List.pairwise_iff_getElem];intro i j hi hj hij;have:=hs i j _ _ hij (by rw[ze,zh hi];rfl) (by rw[ze,zh hj];rfl);simp only[tmC,keyC]at this;omega
 rw[e3,goalS,Go.LP.ones,ya];rfl
theorem w_goal1(hc:jbl e=0)(hM:e.mats=(M:Int))(hl:ps.length<=10000):CtrH G.P 47 [.im e.iv,.im (.sl (ps.map pickC))] [] (fun r L'=>∃(y:IV) (bs:List Nat),r= .im y/\frzL bs y L'=jel e ps):=by
 have hck:=c21 e;rw[hc]at hck;have hMe:e.mats.toNat=M:=by omega
 obtain⟨hfit,hm1,_⟩:=jbk hc;obtain⟨l1,l2,l3,l4,l5,l6,l7,l8⟩:=jld hfit;refine jav [54] [] [.tmp 4,.tmp 5] Tryz.func47 ?_;simp only[go_sem];refine ja1 hck ?_;simp only[zw,go_sem];refine jaz [2,6,13,14,15] (fun g:(Nat×Nat)×Abs.Rows=>⟨[(2,.loc 2 8 0 0),(6,sA g.1.2 (goalT M (ps.take g.1.1)).length),(13,.im (.sl (ps.map pickC))),(14,.im (.int ps.length)),(15,.im (.int g.1.1))],(2,8,[e.c])::g.2,[]⟩)
  (fun g=>g.1.1<=ps.length/\blks g.2/\NEWT [] g.2 g.1.2 (goalT M (ps.take g.1.1))/\∀p∈ps.take g.1.1,jdh e p=true) (fun g=>ps.length-g.1.1) ((0,0),[]) ?_ (SubR.of_eq rfl) rfl ⟨zE _,jc8,fun h=>absurd rfl h,fun p hp=>by cases hp⟩ ?_
 ·have hz:=jd1 (A:=0) (show(goalT M ([]:List (Int×Int))).length=0 from rfl);simp only[Int.natCast_zero,hz,List.take_zero,go_sem]
 rintro⟨⟨i,A⟩,R⟩ ⟨hi,hR,hbn,hall⟩;dsimp only at hi hR hbn hall;have F1:=bF hR;have K1:=bK hR;have G1:=bN hR;have hgl:∀j,j<=ps.length->(goalT M (ps.take j)).length=j:=fun j hj=>by unfold goalT;rw[zw,qi];omega
 rcases zT i ps.length with hlt | hlt
 ·have hd:decide ((i:Int)<ps.length)=true:=za (by omega);have h1:=ja9 (n:=(i:Int)+1) (by omega);obtain⟨⟨a,b⟩,hx⟩:=jby (l:=ps) (i:=i) (by omega);have hgx:(ps.map pickC)[i]? =some [.int a,.int b]:=by rw[ze,hx];rfl
  have hs:∃x,sA A (goalT M (ps.take i)).length=x/\(x= .sx []\/∃n,x= .im (.ref A 155 5 n)):=⟨_,rfl,by
   by_cases hn:(goalT M (ps.take i)).length=0
   ·exact .inl (jd1 hn)
   ·exact .inr ⟨_,jcn hn⟩⟩
  rcases ha:decide (a<0)with _ | _
  ·rcases ha2:decide ((e.moves.length:Int)<=a)with _ | _
   ·rcases hb:decide (b<0)with _ | _
    ·rcases hb2:decide (e.mats<=b)with _ | _
     ·have kI:Ctr G.P 32 [.int 1] (· =frac ((1:Int):Rat)):=jbt 1 (by omega);simp only[frac,ints]at kI;have hap:=zJ ha;have hap2:=zJ ha2;have hbp:=zJ hb;have hbp2:=zJ hb2;obtain⟨a',rfl⟩:∃a':Nat,a=(a':Int):=⟨a.toNat,by omega⟩;obtain⟨b',rfl⟩:∃b':Nat,b=(b':Int):=⟨b.toNat,by omega⟩;have hpr:a'*M<=200*6:=qL (by omega) (by omega);have w1:IntKind.i64.wrap ((a':Int)*e.mats)=((a'*M:Nat):Int):=by
       rw[hM,<-Int.natCast_mul];exact ja9 (by omega)
      have w2:IntKind.i64.wrap (((a'*M:Nat):Int)+b')=((a'*M+b':Nat):Int):=by
       rw[<-Int.natCast_add];exact ja9 (by omega)
      have hgood:jdh e ((a':Int),(b':Int))=true:=by
       simp only[jdh,zr,zK];omega
      have htk:ps.take (i+1)=ps.take i++[((a':Int),(b':Int))]:=by rw[List.take_succ,hx];rfl
      have hadd:goalT M (ps.take (i+1))=goalT M (ps.take i)++[(a'*M+b',((1:Int):Rat))]:=by
       rw[htk,goalT,qW];rfl
      have hall2:∀p∈ps.take (i+1),jdh e p=true:=fun p hp=>by
       rw[htk]at hp;rcases qu.1 hp with hp | hp
       ·exact hall p hp
       ·rw[zF.1 hp];exact hgood
      have hg1:=hgl (i+1) hlt;have hg0:=hgl i (by omega);by_cases hn:i=0
      ·have hs0:=jd1 (A:=A) (hg0.trans hn);have hnil:goalT M (ps.take i)=[]:=zL (hg0.trans hn);have hs1:=fun X=>jcn (A:=X) (n:=(goalT M (ps.take (i+1))).length) (by rw[hg1];omega);rw[hg1]at hs1;simp only[hd,hgx,ha,ha2,hb,hb2,F1,K1,G1,hs0,zw,go_sem];refine jcf [false,false,false,false,false,false,false,false,false,false,false,false,true] [(8,2,[[.int a',.int b']]),(2,8,[e.c])] (by decide+kernel) (jb4 _ (jax (ja2 _ _ _))) ?_;simp only[w1,w2,go_sem];refine ja4 kI (by decide) ?_;simp only[w1,w2,F1,K1,G1,go_sem];refine And.intro (fun c hc=>by rw[zF.1 hc];rfl) ?_;refine jji (fun X hX=> ?_);have lX:Abs.look R (hp X)=none:=by
        rw[ja0 _ _ (hp_ne (by decide)).symm,ja0 _ _ (hp_ne (by decide)).symm]at hX;exact hX
       clear hX;refine And.intro ?_ ?_
       ·refine jas ?_ (jb4 _ (jax (ja2 _ _ _)));dsimp only;rw[ja0 _ _ (hp_ne (by decide)).symm,ja0 _ _ (hp_ne (by decide)).symm];rfl
       simp only[F1,K1,G1,go_sem];refine jaa ((i+1,X),(hp X,5,[tmC (a'*M+b',((1:Int):Rat))])::R) ?_ ?_ rfl (by show ps.length-(i+1)<ps.length-i;omega) ⟨hlt,jat hR,?_,hall2⟩
       ·have hs2:sA X (i+1)= .im (.ref X 155 5 1):=by
         rw[show i+1=1 by omega];exact jcn (by decide)
        simp only[h1,hg1,hs2,Int.natCast_add,go_sem]
       ·dsimp only;refine jb5 ?_ (jb4 _ (ja3 (by decide) hR (ja3 (by decide) hR (SubR.refl _))));rw[ja0 _ _ (hp_ne (by decide)),ja0 _ _ (by decide),ja2]<;>rfl
       ·dsimp only;rw[hadd];refine NEWT.app ?_ rfl;rw[ja2,hnil];rfl
      ·have hs0:=jcn (A:=A) (n:=(goalT M (ps.take i)).length) (by rw[hg0];exact hn);obtain⟨hrA,_⟩:=hbn (by rw[hg0];exact hn);have htl:((goalT M (ps.take i)).map tmC).take i=(goalT M (ps.take i)).map tmC:=zt (by rw[zw,hg0];exact zB _);have hs1:=fun X=>jcn (A:=X) (n:=(goalT M (ps.take (i+1))).length) (by rw[hg1];omega);rw[hg1]at hs1;rw[hg0]at hs0;have hml:((goalT M (ps.take i)).map tmC).length=i:=by rw[zw,hg0]
       obtain⟨Q,hQe⟩:∃Q,Abs.del R (hp A)=Q:=⟨_,rfl⟩;have bQ:blks Q:=hQe▸jbx hR;have hQf:List.filter (fun p=>p.1 !=hp A) R=Q:=hQe;have F2:=bF bQ;have K2:=bK bQ;have G2:=bN bQ;have b8:∀k,(8 !=hp k)=true:=fun k=>by simp only[qk,ne_eq];exact hp_ne (by decide)
       have b2:∀k,(2 !=hp k)=true:=fun k=>by simp only[qk,ne_eq];exact hp_ne (by decide)
       simp only[hd,hgx,ha,ha2,hb,hb2,F1,K1,G1,hg0,hs0,zw,go_sem];refine jcf [false,false,false,false,false,false,false,false,false,false,false,false,true] [(8,2,[[.int a',.int b']]),(2,8,[e.c])] (by decide+kernel) (jb4 _ (jax (ja2 _ _ _))) ?_;simp only[w1,w2,go_sem];refine ja4 kI (by decide) ?_;simp only[w1,w2,hrA,htl,hml,F1,K1,G1,go_sem];refine And.intro (fun c hc=>by rw[zF.1 hc];rfl) (And.intro (zB _) (And.intro (by omega) ?_));refine jhh (fun X hX=> ?_);have lX:Abs.look Q (hp X)=none:=by
        rw[jam (hp_ne (by decide)),jam (hp_ne (by decide)),ja0 _ _ (hp_ne (by decide)).symm,ja0 _ _ (hp_ne (by decide)).symm,hQe]at hX;exact hX
       clear hX;refine And.intro ?_ ?_
       ·rw[jam (hp_ne (by decide)),jam (hp_ne (by decide)),hQe];refine jas ?_ (jb4 _ (jax (ja2 _ _ _)));dsimp only;rw[ja0 _ _ (hp_ne (by decide)).symm,ja0 _ _ (hp_ne (by decide)).symm];rfl
       simp only[b8,b2,hQf,F2,K2,G2,go_sem];refine jaa ((i+1,X),(hp X,5,(goalT M (ps.take i)).map tmC++[tmC (a'*M+b',((1:Int):Rat))])::Q) ?_ ?_ rfl (by show ps.length-(i+1)<ps.length-i;omega) ⟨hlt,jat bQ,?_,hall2⟩
       ·simp only[h1,hg1,hs1,Int.natCast_add,go_sem]
       ·dsimp only;refine jb5 ?_ (jb4 _ (ja3 (by decide) bQ (ja3 (by decide) bQ (SubR.refl _))));rw[ja0 _ _ (hp_ne (by decide)),ja0 _ _ (by decide),ja2]<;>rfl
       ·dsimp only;rw[hadd];exact NEWT.app (ja2 _ _ _) rfl
     ·have hb2b:decide (b<e.mats)=false:=zq (by have:=zI hb2;omega);have hbv:=jka (e:=e) hx (by simp only[jdh,hb2b,yq,qp]);obtain⟨x,hx0,hx1⟩:=hs;rcases hx1 with rfl | ⟨n,rfl⟩
      ·simp only[hd,hgx,ha,ha2,hb,hb2,F1,K1,G1,hx0,zw,go_sem];refine jbg ?_;simp only[go_sem];exact⟨_,[],rfl,by rw[hbv];rfl⟩
      ·simp only[hd,hgx,ha,ha2,hb,hb2,F1,K1,G1,hx0,zw,go_sem];refine jbg ?_;simp only[go_sem];exact⟨_,[],rfl,by rw[hbv];rfl⟩
    ·have hbb:decide (0<=b)=false:=zq (by have:=zI hb;omega);have hbv:=jka (e:=e) hx (by simp only[jdh,hbb,yq,qp]);obtain⟨x,hx0,hx1⟩:=hs;rcases hx1 with rfl | ⟨n,rfl⟩
     ·simp only[hd,hgx,ha,ha2,hb,F1,K1,G1,hx0,zw,go_sem];refine jbg ?_;simp only[go_sem];exact⟨_,[],rfl,by rw[hbv];rfl⟩
     ·simp only[hd,hgx,ha,ha2,hb,F1,K1,G1,hx0,zw,go_sem];refine jbg ?_;simp only[go_sem];exact⟨_,[],rfl,by rw[hbv];rfl⟩
   ·have ha2b:decide (a<(e.moves.length:Int))=false:=zq (by have:=zI ha2;omega);have hbv:=jka (e:=e) hx (by simp only[jdh,ha2b,yq,qp]);obtain⟨x,hx0,hx1⟩:=hs;rcases hx1 with rfl | ⟨n,rfl⟩
    ·simp only[hd,hgx,ha,ha2,F1,K1,G1,hx0,zw,go_sem];refine jbg ?_;simp only[go_sem];exact⟨_,[],rfl,by rw[hbv];rfl⟩
    ·simp only[hd,hgx,ha,ha2,F1,K1,G1,hx0,zw,go_sem];refine jbg ?_;simp only[go_sem];exact⟨_,[],rfl,by rw[hbv];rfl⟩
  ·have hab:decide (0<=a)=false:=zq (by have:=zI ha;omega);have hbv:=jka (e:=e) hx (by simp only[jdh,hab,yq,qp]);obtain⟨x,hx0,hx1⟩:=hs;rcases hx1 with rfl | ⟨n,rfl⟩
   ·simp only[hd,hgx,ha,F1,K1,G1,hx0,zw,go_sem];refine jbg ?_;simp only[go_sem];exact⟨_,[],rfl,by rw[hbv];rfl⟩
   ·simp only[hd,hgx,ha,F1,K1,G1,hx0,zw,go_sem];refine jbg ?_;simp only[go_sem];exact⟨_,[],rfl,by rw[hbv];rfl⟩
 ·have hd:decide ((i:Int)<ps.length)=false:=zq (by omega);have hil:i=ps.length:=by omega
  subst hil;rw[yj]at hall;have hg0:=hgl ps.length (zB _);rw[yj]at hg0 hbn;by_cases hn:ps.length=0
  ·have hps:ps=[]:=zL hn;have hs0:=jd1 (A:=A) (hg0.trans hn);have hokP:jel e ps= .tup [.sl [],.bool true]:=by
    subst hps;unfold jel okP goalS;rw[hc];rfl
   have kS:=w_sort0;simp only[hd,hs0,yj,go_sem];refine ja1 kS ?_;simp only[go_sem];refine jaz [2,6,9] (fun g:Nat=>⟨[(2,.loc 2 8 0 0),(6,.sx []),(9,.im (.int 1))],(2,8,[e.c])::R,[]⟩) (fun _=>True) (fun g=>g) 0 ?_ (SubR.of_eq rfl) rfl trivial ?_
   ·simp only[hs0,yj,go_sem]
   rintro j _;simp only[go_sem];refine jbg ?_;simp only[go_sem];exact⟨_,[],rfl,by rw[hokP];rfl⟩
  ·have hs0:=jcn (A:=A) (n:=(goalT M ps).length) (by rw[hg0];exact hn);rw[hg0]at hs0;obtain⟨hrA,_⟩:=hbn (by rw[hg0];exact hn);have hml:((goalT M ps).map tmC).length=ps.length:=by rw[zw,hg0]
   have kS:=w_sort hrA (by omega) (fun c hc=>by obtain⟨z,_,rfl⟩:=qq.1 hc;exact⟨_,_,rfl⟩);rw[hml]at kS;simp only[hd,hs0,yj,hg0,go_sem];refine jaj kS (by decide) rfl hR (ja3 (by decide) hR (SubR.refl _)) ?_;rintro _ L1 ⟨rfl,es',hperm,hsorted,hL1⟩ _;have hes:=keys_T hperm hsorted;obtain⟨ks,hks⟩:∃ks,Go.LW.isort (ps.map (pickK M))=ks:=⟨_,rfl⟩;have hkl:ks.length=ps.length:=by rw[<-hks,(Go.LW.isort_perm _).length_eq,zw]
   have hgs:(goalS M ps).map tmC=ks.map (fun k=>tmC (k,1)):=by rw[goalS,hks,Go.LP.ones,ya];rfl
   have lA:Abs.look L1 (hp A)=some (5,ks.map (fun k=>tmC (k,1))):=by rw[hL1,hes,hgs];exact jbz (by rw[hrA];rfl)
   have bL1:blks L1:=hL1▸jb8 hR;clear hL1 hperm hsorted hes hrA hbn;obtain⟨cs,ct,cb,cd,hfc⟩:∃(s t:Int) (b d:List (List IV)),fc (1:Rat)=[.int s,.sl b,.int t,.sl d]:=⟨_,_,_,_,rfl⟩;have hTk:∀(j x:Nat),ks[j]? =some x->(ks.map (fun k=>tmC (k,1)))[j]? =some [.int x,.int cs,.sl cb,.int ct,.sl cd]:=fun j x h=>by
    rw[ze,h,Option.map_some,tmC,hfc]
   have hTl:(ks.map (fun k=>tmC (k,1))).length=ps.length:=by rw[zw,hkl]
   generalize ks.map (fun k=>tmC (k,1))=TT at*;refine⟨(2,8,[e.c])::L1,jap [_] (jbe hR (by simp)),?_⟩;have F2:=bF bL1;have K2:=bK bL1;have G2:=bN bL1;have hok:∀b,Go.LW.noDup ks=b->okP e ps=b:=fun b hb=>by
    unfold okP;rw[hMe,hks,hb,hc,List.all_eq_true.2 hall];rfl
   simp only[F2,K2,G2,go_sem];refine jaz [2,6,9] (fun g:Nat=>⟨[(2,.loc 2 8 0 0),(6,.im (.ref A 155 5 ps.length)),(9,.im (.int ((g:Int)+1)))],(2,8,[e.c])::L1,[]⟩)
    (fun g=>g<ps.length/\∀(j x y:Nat),j<g->ks[j]? =some x->ks[j+1]? =some y->x≠y) (fun g=>ps.length-g) 0 ?_ (SubR.of_eq rfl) rfl ⟨by omega,fun j x y h=>by omega⟩ ?_
   ·simp only[Int.natCast_zero,jo,go_sem]
   rintro j ⟨hj,hne⟩;rcases zT (j+1) ps.length with hlt2 | hlt2
   ·have hd2:decide ((j:Int)+1<ps.length)=true:=za (by omega);have h0:IntKind.i64.wrap ((j:Int)+1-1)=(j:Int):=by rw[Int.add_sub_cancel];exact ja9 (by omega)
    have h1:=ja9 (n:=(j:Int)+1+1) (by omega);obtain⟨x,hx⟩:∃x,ks[j]? =some x:=⟨_,zh (by omega)⟩;obtain⟨y,hy⟩:∃y,ks[j+1]? =some y:=⟨_,zh (by omega)⟩;have gx:=hTk j x hx;have gy:=hTk (j+1) y hy;have hj0:(0:Int)<=j:=by omega
    have hj1:(j:Int)<ps.length:=by omega
    have hj2:(0:Int)<=(j:Int)+1:=by omega
    have hj3:(j:Int)+1<ps.length:=by omega
    have ht:((j:Int)+1).toNat=j+1:=by omega
    rcases hxy:decide ((x:Int)=(y:Int))with _ | _
    ·simp only[hd2,go_sem];refine jac 12 ?_;simp only[h0,lA,gx,gy,hxy,hj0,hj1,hj2,hj3,ht,Int.toNat_natCast,F2,K2,G2,go_sem];refine jaa (j+1) ?_ (SubR.of_eq rfl) rfl (by show ps.length-(j+1)<ps.length-j;omega) ⟨hlt2,fun k u v hk hu hv=> ?_⟩
     ·simp only[h1,Int.natCast_add,go_sem]
     ·rcases zT k j with h | h
      ·exact hne k u v h hu hv
      ·have:k=j:=by omega
       subst this;rw[hx]at hu;rw[hy]at hv;cases hu;cases hv;have:=zJ hxy;omega
    ·have hbv:jel e ps= .tup [.sl [],.bool false]:=by
      have:Go.LW.noDup ks=false:=by
       rcases hb:Go.LW.noDup ks with _ | _
       ·rfl
       ·exact absurd (by have:=zI hxy;omega) (Go.LW.noDup_at.1 hb j x y hx hy)
      unfold jel;rw[hok _ this];rfl
     simp only[hd2,go_sem];refine jac 12 ?_;simp only[h0,lA,gx,gy,hxy,hj0,hj1,hj2,hj3,ht,Int.toNat_natCast,F2,K2,G2,go_sem];refine jbg ?_;simp only[go_sem];exact⟨_,[],rfl,by rw[hbv];rfl⟩
   ·have hd2:decide ((j:Int)+1<ps.length)=false:=zq (by omega);have hgv:jel e ps= .tup [.sl TT,.bool true]:=by
     have:Go.LW.noDup ks=true:=Go.LW.noDup_at.2 fun k u v hu hv=>by
      have:=(zu.1 hv).1;exact hne k u v (by omega) hu hv
     unfold jel;rw[hok _ this,hMe,hgs];rfl
    simp only[hd2,go_sem];refine jbg ?_;simp only[go_sem];refine⟨_,[A],rfl,?_⟩;rw[hgv,jdx (s:=5) (by rw[jau,ja0 _ _ (hp_ne (by decide)).symm];exact lA),jgb];have e1:List.take ps.length TT=TT:=zt (by omega);have e2:ps.length<=TT.length:=by omega
    simp only[frz3,frz2,frz1,zl,zC,e1,e2,j7,qC]
theorem jom(hl:ps.length<=10000):Ctr G.P 47 [e.iv,.sl (ps.map pickC)] (· =jel e ps):=by
 by_cases hc:jbl e=0
 ·obtain⟨hfit,hm1,_⟩:=jbk hc;obtain⟨M,hM⟩:∃M:Nat,e.mats=(M:Int):=⟨e.mats.toNat,by omega⟩;exact jk6 (w_goal1 hc hM hl) (fun r L' ⟨y,bs,h1,h2⟩=>⟨y,bs,h1,h2⟩)
 ·have h:=w_goal0 (ps:=ps) hc;have e1:jel e ps= .tup [.sl [],.bool false]:=by
   unfold jel okP;rw[zq hc];rfl
  rw[e1];exact h
