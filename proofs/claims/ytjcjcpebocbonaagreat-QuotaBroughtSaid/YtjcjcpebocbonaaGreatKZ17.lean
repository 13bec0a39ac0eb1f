/- A part of the proof. No further condition. -/
import Derived.Test.YtjcjcpebocbonaaGreatKZ15
import Derived.Test.YtjcjcpebocbonaaGreatKZ16
set_option linter.all false
set_option maxRecDepth 10000000
set_option maxHeartbeats 16000000
namespace Go.Proofs.YtjcjcpebocbonaaGreat
section
set_option maxRecDepth 1000000
open Go.Abs
theorem t_pdiv(x y:Nat)(hy:0<y)(lx:(dig x).length<=50000000000)(ly:(dig y).length<=50000000000):Ctr G.P 94 [ints (dig x),ints (dig y)] (· = .tup [ints (dig (x/y)),ints (dig (x % y))]):=by
 have a1:=jg0 x y (by omega) (by omega);by_cases c4:x<y
 ·exact t_pdiv1 x y hy lx ly c4
 have c6:decide (cmpI (x:Int) (y:Int)<0)=false:=by
  refine ze ?_;rw[cmpI,iNo];split<;>omega
 by_cases h1:(dig y).length=1
 ·exact t_pdiv2 x y hy lx ly c4 h1
 obtain⟨n,hn⟩:∃n,(dig y).length=n:=⟨_,rfl⟩;have k3:n≠0:=fun e=>by rw[e]at hn;have:=dig_nil.1 (zV hn);omega
 have hn2:2<=n:=by omega
 have e4:decide ((n:Int)=1)=false:=dFo;have b4:=ja8 ((n:Int)-1);have b5:((n:Int)-1).toNat=n-1:=by omega
 have b6:(0:Int)<=(n:Int)-1:=by omega
 have a6:=jaz (l:=dig y) (i:=n-1) (by omega);have e0:=(jbe y).dgt (n-1);have b9:dgt (dig y) (n-1)≠0:=fun e=>by
  have:=jop y;rw[y9,hn,a6,e]at this;exact this rfl
 have c0:∀j:Nat,j<=20->524288<=dgt (dig y) (n-1)*((2^j:Nat):Int)->dgt (dig y) (n-1)*((2^j:Nat):Int)<1048576->_:=fun j hj g1 g2=>shifted (s:=2^j) hn (by omega) g1 (pow2_ok hj (by omega) g2);have b2:=a1;simp only[ints]at a1;refine jgo (φ:=fun r L'=>r= .im (.tup [.sl ((dig (x/y)).map ic),.sl ((dig (x % y)).map ic)])/\L'=[]) ?_ (fun r L' ⟨h1,h2⟩=>⟨_,[],h1,rfl⟩);refine jta (goodH [] [162]) [.tmp 4,.tmp 5] Tryz.func94 rfl rfl (by decide+kernel) rfl ?_;refine SemC.cutsF (goodH [] [162]) (ι:=Nat×Nat×Nat×List Int×List Int) (fun i=>SDivH i.1 i.2.1 n i.2.2.1 i.2.2.2.1 i.2.2.2.2) (fun i=>DivS x y i.2.1 n i.2.2.1 i.2.2.2.1 i.2.2.2.2) 9 rfl (by decide+kernel) ?_ ?_
 case refine_2=>
  rintro⟨X,s,K,vL,U0⟩ h;rw[jdg];refine SemC.awp (goodH [] [162]) (by decide+kernel) (t_pdivBH h fun st h4 h5=> ?_);refine⟨[],fun k z hk=>(by cases hk),?_⟩;simp only[jgz,resL,resIV,ivOf,h4,h5];exact⟨trivial,trivial⟩
 simp only[zt,zF,ints];refine ji4 rfl ?_;simp only[go_sem,ints,ic,mb20,pw20,fd20];refine ja0 a1 ?_;simp only[c6,hn,e4,go_sem,ints,ic,mb20,pw20,fd20];clear a1 b2 c6;generalize h8:dgt (dig y) (n-1)=t at*;refine jai [0,1,8] [] (fun j:Nat=>⟨[(0,.im (.sl ((dig x).map ic))),(1,.im (.sl ((dig y).map ic))),(8,.im (.int ((2^j:Nat):Int)))],[],[]⟩)
  (fun j=>j<=20/\t*((2^j:Nat):Int)<1048576) (fun j=>20-j) 0 ?_ ⟨zG _,by show t*1<1048576;omega⟩ ?_
 ·simp only[Nat.pow_zero,Int.natCast_one,go_sem,ints,ic,mb20,pw20,fd20]
 intro j ⟨hj,c5⟩;have hp2:=Nat.two_pow_pos j;have e3:((2^j:Nat):Int)<=t*((2^j:Nat):Int):=by
  have:=qf (show 1<=t by omega) (show(0:Int)<=((2^j:Nat):Int)by omega);omega
 have wt:=ja8 (t*((2^j:Nat):Int));by_cases b0:t*((2^j:Nat):Int)<524288
 ·have b1:decide (t*((2^j:Nat):Int)<524288)=true:=zp b0;have h0:=pow2_lt (j:=j) (by omega);have e2:((2^j:Nat):Int)*2=((2^(j+1):Nat):Int):=by rw[Nat.pow_succ,Int.natCast_mul];rfl
  have w2:=ja8 (((2^j:Nat):Int)*2);rw[e2]at w2;simp only[hn,b4,b5,b6,zq,a6,wt,b1,go_sem,ints,ic,mb20,pw20,fd20];refine ja7 (j+1) ?_ (by omega) ⟨by omega,?_⟩
  ·simp only[w2,e2,go_sem,ints,ic,mb20,pw20,fd20]
  ·rw[<-e2,<-qI];omega
 have b1:decide (t*((2^j:Nat):Int)<524288)=false:=ze b0;obtain⟨lv,hv1,b3⟩:=c0 j hj (by omega) c5;clear c0;have hs1:((2^j:Nat):Int)<1048576:=by omega
 generalize hs:2^j=s at*;clear e3 b0 c5 b9 e0;obtain⟨m,hm⟩:∃m,(dig x).length=m:=⟨_,rfl⟩;obtain⟨k,hk⟩:∃k,(dig (x*s)).length=k:=⟨_,rfl⟩;have b7:OkD [(s:Int)]:=OkD.cons (by omega) OkD.nil;have m1:=t_pmulH (dig x) [(s:Int)] (jbe x) b7 (by omega) (by simp);have m2:=t_pmul (dig y) [(s:Int)] (jbe y) b7 (by omega) (by simp);rw[jaq,jji,<-Int.natCast_mul,Int.toNat_natCast]at m1 m2;have k1:n<=m:=by rw[<-hn,<-hm];exact jcm (by omega) (zu _)
 have k4:m<=k:=by rw[<-hm,<-hk];exact jcm (jg x hp2) (zu _)
 have e6:k<=m+1:=by
  rw[<-hm,<-hk];have:(dig s).length<=1:=jb2 (by simpa using hs1);have:=jln (zu (dig x).length) this;exact this
 have e1:(padD (m+1) (x*s)).length=m+1:=jod (by omega);have a8:((padD (m+1) (x*s)).map ic).take k=(dig (x*s)).map ic:=by rw[<-vO,<-hk,jse]
 obtain⟨U0,hU0⟩:∃U,U=dig (x*s)++[0]:=⟨_,rfl⟩;have a7:(dig (x*s)).map ic++[[.sc (.int .i64 0)]]=U0.map ic:=by rw[hU0,qv];rfl
 have lU0:U0.length=k+1:=by rw[hU0,zB,hk];rfl
 have oU0:OkD U0:=by rw[hU0];exact(jbe _).append (OkD.cons (by omega) OkD.nil)
 have vU0:val U0=((x*s:Nat):Int):=by rw[hU0,jnx,qW,yh,jaq]
 have e9:val U0<1048576^k:=by
  rw[vU0];have:=jdb (jbe (x*s));rw[jaq,hk]at this;exact this
 obtain⟨vL,hvL⟩:∃v,v=dig (y*s):=⟨_,rfl⟩;have hvv:val vL=((y*s:Nat):Int):=by rw[hvL,jaq]
 have hvo:OkD vL:=by rw[hvL];exact jbe _
 rw[<-hvL]at lv hv1 m2;obtain⟨K,hK⟩:∃K,K=k+1:=⟨_,rfl⟩;rw[<-hK]at lU0;clear hU0 hvL;rw[hm,List.length_cons,List.length_nil,qi,hk]at m1;simp only[ints,zt,zF]at m1 m2;have hVB:(524288:Int)*1048576^(n-1)<=val vL:=by rw[hvv];exact b3
 have e7:0<val vL:=by have:=jdd (n-1);omega
 have h7:val vL<1048576^n:=by have:=jdb hvo;rw[lv]at this;exact this
 have hrun0:val (U0.drop (K-n))<val vL:=by
  have h2:=jdf U0 (K-n);have h3:=jam (oU0.take (K-n));have h4:=jam (oU0.drop (K-n));have h5:(1048576:Int)^k=1048576^(K-n)*1048576^(n-1):=by rw[<-wk];congr 1;omega
  have k0:=jdd (K-n);have h6:val (U0.drop (K-n))<1048576^(n-1):=by
   refine Int.lt_of_mul_lt_mul_left (a:=1048576^(K-n)) ?_ (by omega);rw[<-h5];omega
  have h9:=jdd (n-1);omega
 have b8:decide ((K:Int)=m)=false:=dFo;have c1:((k:Int)+1)*8<=140737488355328:=by omega
 have c2:(k+1)*8<=140737488355328:=by omega
 have c7:=ja8 ((K:Int)-n);have c8:((K:Int)-n).toNat=K-n:=by omega
 have c9:(0:Int)<=(K:Int)-n:=by omega
 have e8:((K:Int)-n)*8<=140737488355328:=by omega
 have wq:=ja8 (((K-n:Nat):Int)-1);have e5:k<=(padD (m+1) (x*s)).length:=by omega
 have c3:k<=m+1:=e6;simp only[hn,b4,b5,b6,zq,a6,wt,b1,go_sem,ints,ic,mb20,pw20,fd20];refine jcw m1 (by decide) rfl jb5 jba ?_;rintro _ _ ⟨Y,rfl,rfl⟩ _;refine⟨_,jb9,?_⟩;simp only[e5,a8,a7,e1,go_sem,ints,ic,mb20,pw20,fd20];refine And.intro (fun c hc=>by rw[zE.1 hc];rfl) (And.intro c3 (And.intro c2 (jpc (fun X hX=> ?_))));clear hX;have k2:=fun(d:Nat) (h:d<100000)=>hp_ne (n:=d) (b:=X) h;simp only[a8,a7,go_sem,ints,ic,mb20,pw20,fd20];refine ja0 m2 ?_;clear m1 m2;have eK:((k+1:Nat):Int)=(K:Int):=by rw[hK]
 simp only[hm,eK,hK.symm,b8,lv,c7,c8,c9,e8,zQ,wq,go_sem,ints,ic,mb20,pw20,fd20];refine⟨(X,s,K,vL,U0),⟨hp2,hs1,hn2,by show n+1<=K;omega,by show K<=50000000002;omega,lv,hvo,hvv,hv1,lU0,oU0,vU0,hrun0,hVB⟩,?_⟩;unfold SDivH;refine(St.sub_of [8,9,10,11,12] ?_ (SubR.of_eq ?_) rfl).le
 ·simp only[go_sem,ints,ic,mb20,pw20,fd20]
 ·simp only[yw,a8,a7,go_sem,ints,ic,mb20,pw20,fd20]
