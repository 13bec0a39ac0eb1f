/- A part of the proof. No further condition. -/
import Derived.Test.YtkcekimolppapaaGreatKS41
import Derived.Test.YtkcekimolppapaaGreatKS43
set_option linter.all false
set_option maxRecDepth 10000000
set_option maxHeartbeats 16000000
namespace Go.Proofs.YtkcekimolppapaaGreat
section
open Go.Abs
attribute [local go_sem] ints ic Evid.c Evid.iv Place.c Move.c Cert.c Recall.c Purity.c setC
structure SuspOk(e:Evid)(A:List (List Int))(j:Nat):Prop where
 j1:1<=j
 j5:j<=e.moves.length
 len:A.length<=1048576
 ne:A≠[]
 each:∀X∈A,X.length=j/\((usedE e).filter fun s=>X.contains s).length=j/\posS e X=true
 least:∀S,posS e S=true->j<=((usedE e).filter fun s=>S.contains s).length
 full:∀S,posS e S=true->((usedE e).filter fun s=>S.contains s).length=j->Asc S->S.length=j->S∈A
theorem susp_ok{e:Evid}(hm:e.moves.length<=5)(hp:posB e=false):∃j,SuspOk e (suspF e) j:=by
 have hu:=jho e;have hul:=jnq e;have h0:¬Pos e []:=fun h=>by rw[<-posS_iff,jo4,hp]at h;cases h
 obtain⟨j,h1,h2,h3,h4,h5,h6,h7⟩:=least_ok (P:=posS e) hu (fun S=>posS_iff) h0;have e1:suspF e=srch (posS e) j [] (usedE e):=by unfold suspF;rw[hp,zn (by decide),h3]
 rw[e1];have hl:=jkc (P:=posS e) (k:=j) (ch:=[]) (l:=usedE e);have hpw:2^(usedE e).length<=2^20:=qS (by decide) (by omega);have hp2:(2:Nat)^20=1048576:=by decide
 refine⟨j,h1,by omega,by omega,h4,fun X hX=> ?_,fun S hS=>h6 S (posS_iff.1 hS),fun S hS hn ha hl=> ?_⟩
 ·obtain⟨g1,g2,g3⟩:=h5 X hX;exact⟨g2,by rw[asc_filter hu.asc g1,g2],posS_iff.2 g3⟩
 ·have:=h7 S (posS_iff.1 hS) hn
  rwa [filter_full hu ha (by rw[hn,hl])]at this
theorem w_fewest(e:Evid)(S:List Int):Ctr G.P 7 [e.iv,ints S] (· = .bool true):=by
 have k0:=jkb;have kl:=jii e;have kc:=c21 e;rcases hl:jjy e with _ | _
 ·rw[hl]at kl;simp only[Evid.iv,Evid.c]at kl;refine ja5 [.tmp 4] Tryz.func7 ?_;simp only[go_sem];refine ja1 k0 ?_;simp only[go_sem];refine ja1 kl ?_;simp only[go_sem]
 rw[hl]at kl;by_cases hc:jax e=0
 case neg=>
  generalize jax e=z at*;have hz:decide (z=0)=false:=zw hc;simp only[Evid.iv,Evid.c]at kl kc;refine ja5 [.tmp 4] Tryz.func7 ?_;simp only[go_sem];refine ja1 k0 ?_;simp only[go_sem];refine ja1 kl ?_;simp only[go_sem];refine ja1 kc ?_;simp only[hz,go_sem]
 rw[hc]at kc;by_cases h6:S.length<=6
 case neg=>
  have hz:decide (6<(S.length:Int))=true:=zh (by omega);simp only[Evid.iv,Evid.c]at kl kc;refine ja5 [.tmp 4] Tryz.func7 ?_;simp only[go_sem];refine ja1 k0 ?_;simp only[go_sem];refine ja1 kl ?_;simp only[go_sem];refine ja1 kc ?_;simp only[hz,zq,go_sem]
 have hz:decide (6<(S.length:Int))=false:=zw (by omega);obtain⟨hs,hm5⟩:=jgm hl hc;have kp:=jfd hs hc;have kb:=jr5 hc hs (by omega);rcases hp:posB e with _ | _
 ·obtain⟨j,hA⟩:=susp_ok hm5 hp;generalize suspF e=A at*;rw[hp]at kp;have kW:=fun X hX=>jea X hc (show X.length<=100000 from hX);have kP:=fun X=>jfd (e:=offE X e) hs.off (je3 hc);have kP:∀X,Ctr G.P 11 [(offE X e).iv] (· = .bool (posS e X)):=kP;have kU:=fun X hX=>js7 X hc (by omega:e.moves.length<=12) (show X.length<=100000 from hX);have kI:=fun(X:List Int) (hX:X.length<=100000)=>jr3 X S hX;obtain⟨X0,hx0⟩:∃X0,A[0]? =some X0:=⟨A[0]'(qh.2 hA.ne),ze _⟩;have hl0:=(hA.each X0 (zk hx0)).1;have hg0:=jps hx0;have hne:=qh.2 hA.ne;have j5:=hA.j5;have j1:=hA.j1;have dn:decide ((A.length:Int)=0)=false:=zw (by omega);have z0:(0:Int)<A.length:=by omega
  unfold je7 at kb;simp only[Evid.iv,Evid.c,ints]at kl kc kp kb kW kP kU kI;refine ja5 [.tmp 4] Tryz.func7 ?_;simp only[go_sem];refine ja1 k0 ?_;simp only[go_sem];refine ja1 kl ?_;simp only[go_sem];refine ja1 kc ?_;simp only[hz,zq,go_sem];refine ja1 kb ?_;simp only[dn,zq,go_sem];refine ja1 kp ?_;simp only[dn,zq,go_sem];refine jan [1,2,5,6,8,9] [2] (fun g:Nat=>⟨[(1,.im (.sl (S.map ic))),(2,.loc 2 8 0 0),(5,.im (.bool true)),(6,.im (.sl (A.map setC))),(8,.im (.bool ((A.take g).any fun X=>decide (X=S)))),(9,.im (.int g))],[(2,8,[e.c])],[]⟩)
   (fun g=>g<=A.length) (fun g=>A.length-g) 0 ?_ (zH _) ?_
  ·simp only[Int.natCast_zero,List.take_zero,List.any_nil,go_sem]
  intro i hi;by_cases hp':(i:Int)<A.length
  ·have hd:decide ((i:Int)<A.length)=true:=zh hp';have h1:=ja7 (n:=(i:Int)+1) (by have:=hA.len;omega);have hi0:(0:Int)<=i:=by omega
   obtain⟨X,hx⟩:=jbf hp';obtain⟨x1,x2,x3⟩:=hA.each X (zk hx);have hg:=jps hx;have kw:=kW X (by omega);have kq:=kP X;have ku:=kU X (by omega);have ki:=kI X (by omega);rw[x3]at kq;rw[x2]at ku;have xz:decide ((X.length:Int)=0)=false:=zw (by omega);have xj:decide ((X.length:Int)=X0.length)=true:=zh (by omega);have xk:decide ((j:Int)=X.length)=true:=zh (by omega);have hsu:((A.take (i+1)).any fun X=>decide (X=S))=((A.take i).any (fun X=>decide (X=S)) || decide (X=S)):=jcu hx;simp only[hd,zq,go_sem];refine jae 42 ?_;simp only[hp',hi0,hg,z0,hg0,xz,xj,xk,Int.toNat_natCast,zq,go_sem];refine ja4 ku (by decide) ?_;simp only[hp',hi0,hg,z0,hg0,xz,xj,xk,Int.toNat_natCast,zq,go_sem];refine ja4 kw (by decide) ?_;simp only[hp',hi0,hg,z0,hg0,xz,xj,xk,Int.toNat_natCast,zq,go_sem];refine ja4 kq (by decide) ?_;simp only[hp',hi0,hg,z0,hg0,xz,xj,xk,Int.toNat_natCast,zq,go_sem];rcases hf:(A.take i).any fun X=>decide (X=S)with _ | _
   ·rw[hf,qP]at hsu;simp only[hp',hi0,hg,Int.toNat_natCast,zq,go_sem];refine ja1 ki ?_;simp only[go_sem];refine jab (i+1) ?_ (by omega) (by omega);simp only[h1,hsu,Int.natCast_add,go_sem]
   ·rw[hf,ji]at hsu;simp only[hp',hi0,hg,Int.toNat_natCast,zq,go_sem];refine jab (i+1) ?_ (by omega) (by omega);simp only[h1,hsu,Int.natCast_add,go_sem]
  ·have hd:decide ((i:Int)<A.length)=false:=zw hp';have e1:i=A.length:=by omega
   subst e1;rw[qe];have kw:=kW S (by omega);have kq:=kP S;rcases hq:posS e S with _ | _
   ·have hf:(A.any fun X=>decide (X=S))=false:=vV.2 fun hf=>by
     obtain⟨X,h1,h2⟩:=yx.1 hf;rw[<-zJ h2,(hA.each X h1).2.2]at hq;cases hq
    rw[hq]at kq;rw[hf];simp only[hd,dn,zq,go_sem];refine ja1 kw ?_;simp only[go_sem];refine ja1 kq ?_;simp only[go_sem]
   ·rw[hq]at kq;have ku:=kU S (by omega);have hle:=hA.least S hq;have hfu:=hA.full S hq;generalize ((usedE e).filter fun s=>S.contains s).length=n at*;have d1:decide ((n:Int)<X0.length)=false:=zw (by omega);have hz0:(0:Int)<A.length:=z0;rcases hf:(A.any fun X=>decide (X=S))with _ | _
    ·rcases d2:decide ((X0.length:Int)<n)with _ | _
     ·have hnj:n=j:=by have:=zN d2;omega
      rcases d3:decide ((S.length:Int)=n)with _ | _
      ·simp only[hd,dn,zq,go_sem];refine ja1 kw ?_;simp only[go_sem];refine ja1 kq ?_;simp only[go_sem];refine ja1 ku ?_;simp only[z0,hg0,d1,d2,d3,zq,go_sem]
      ·have hSj:S.length=j:=by have:=zJ d3;omega
       have kL:Ctr G.P 45 [ints S,.int e.scales] (· = .bool false):=(t_list12 S e.scales (by omega)).mono fun r ⟨z,h1,h2⟩=>by
        rcases z with _ | _
        ·exact h1
        ·have:=hfu hnj (h2 rfl) hSj;rw[yx.2 ⟨S,this,zh rfl⟩]at hf;cases hf
       simp only[ints]at kL;simp only[hd,dn,zq,go_sem];refine ja1 kw ?_;simp only[go_sem];refine ja1 kq ?_;simp only[go_sem];refine ja1 ku ?_;simp only[z0,hg0,d1,d2,d3,zq,go_sem];refine ja1 kL ?_;simp only[go_sem]
     ·simp only[hd,dn,zq,go_sem];refine ja1 kw ?_;simp only[go_sem];refine ja1 kq ?_;simp only[go_sem];refine ja1 ku ?_;simp only[z0,hg0,d1,d2,zq,go_sem]
    ·simp only[hd,dn,zq,go_sem];refine ja1 kw ?_;simp only[go_sem];refine ja1 kq ?_;simp only[go_sem];refine ja1 ku ?_;simp only[z0,hg0,d1,zq,go_sem]
 ·have hA:suspF e=[]:=by unfold suspF;rw[hp,zm rfl]
  rw[hA]at kb;unfold je7 at kb;rw[hp]at kp;simp only[Evid.iv,Evid.c,ints,zF]at kl kc kp kb;refine ja5 [.tmp 4] Tryz.func7 ?_;simp only[go_sem];refine ja1 k0 ?_;simp only[go_sem];refine ja1 kl ?_;simp only[go_sem];refine ja1 kc ?_;simp only[hz,zq,go_sem];refine ja1 kb ?_;simp only[go_sem];refine ja1 kp ?_;simp only[go_sem];refine jan [2,5,6,8,9] [2] (fun _:Unit=>⟨[(2,.loc 2 8 0 0),(5,.im (.bool true)),(6,.im (.sl [])),(8,.im (.bool false)),(9,.im (.int 0))],[(2,8,[e.c])],[]⟩) (fun _=>True) (fun _=>0) () ?_ trivial ?_
  ·simp only[go_sem]
  rintro _ _;simp only[go_sem]
