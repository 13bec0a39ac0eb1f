/- A part of the proof. No further condition. -/
import Derived.Test.YthahgoopboilkaaGreatKE13
import Derived.Test.YthahgoopboilkaaGreatKE14
set_option linter.all false
set_option maxRecDepth 10000000
set_option maxHeartbeats 16000000
namespace Go.Proofs.YthahgoopboilkaaGreat
section
open Go.Abs
theorem t_pdiv(x y:Nat)(hy:0<y)(lx:(dig x).length<=50000000000)(ly:(dig y).length<=50000000000):Ctr G.P 143 [ints (dig x),ints (dig y)] (· = .tup [ints (dig (x/y)),ints (dig (x % y))]):=by
 have hcmp:=jfs x y (by omega) (by omega);by_cases hlt:x<y
 ·exact t_pdiv1 x y hy lx ly hlt
 have hd0:decide (cmpI (x:Int) (y:Int)<0)=false:=by
  refine zq ?_;rw[cmpI,zn (by omega)];split<;>omega
 by_cases h1:(dig y).length=1
 ·exact t_pdiv2 x y hy lx ly hlt h1
 obtain⟨n,hn⟩:∃n,(dig y).length=n:=⟨_,rfl⟩;have hn0:n≠0:=fun e=>by rw[e]at hn;have:=dig_nil.1 (zL hn);omega
 have hn2:2<=n:=by omega
 have hl1:decide ((n:Int)=1)=false:=zq (by omega);have wn1:=ja9 (n:=(n:Int)-1) (by omega);have tn1:((n:Int)-1).toNat=n-1:=by omega
 have pn1:(0:Int)<=(n:Int)-1:=by omega
 have htop:=jb2 (l:=dig y) (i:=n-1) (by omega);have htd:=(jc3 y).dgt (n-1);have htne:dgt (dig y) (n-1)≠0:=fun e=>by
  have:=jnt y;rw[jq,hn,htop,e]at this;exact this rfl
 have hsh:∀j:Nat,j<=20->524288<=dgt (dig y) (n-1)*((2^j:Nat):Int)->dgt (dig y) (n-1)*((2^j:Nat):Int)<1048576->_:=fun j hj g1 g2=>shifted (s:=2^j) hn (by omega) g1 (pow2_ok hj (by omega) g2);have hcmp':=hcmp;simp only[ints]at hcmp;refine jk6 (φ:=fun r L'=>r= .im (.tup [.sl ((dig (x/y)).map ic),.sl ((dig (x % y)).map ic)])/\L'=[]) ?_ (fun r L' ⟨h1,h2⟩=>⟨_,[],h1,rfl⟩);refine jsi good [.tmp 4,.tmp 5] Tryz.func143 rfl rfl (by decide+kernel) rfl ?_;refine SemC.cutsF good (ι:=Nat×Nat×List Int×List Int) (fun i=>SDiv i.1 n i.2.1 i.2.2.1 i.2.2.2) (fun i=>DivS x y i.1 n i.2.1 i.2.2.1 i.2.2.2) 9 rfl (by decide+kernel) ?_ ?_
 case refine_2=>
  rintro⟨s,K,vL,U0⟩ h;rw[jgn];refine SemC.awp good (by decide+kernel) (t_pdivB h fun st h4 h5=> ?_);refine⟨[],fun k z hk=>(by cases hk),?_⟩;simp only[jlx,resL,resIV,ivOf,h4,h5];exact⟨trivial,trivial⟩
 simp only[zl,zC,ints];refine jp5 rfl ?_;simp only[go_sem,ints,ic,mb20,pw20,fd20];refine ja1 hcmp ?_;simp only[hd0,hn,hl1,go_sem,ints,ic,mb20,pw20,fd20];clear hcmp hcmp' hd0;generalize htt:dgt (dig y) (n-1)=t at*;refine jal [0,1,8] [] (fun j:Nat=>⟨[(0,.im (.sl ((dig x).map ic))),(1,.im (.sl ((dig y).map ic))),(8,.im (.int ((2^j:Nat):Int)))],[],[]⟩)
  (fun j=>j<=20/\t*((2^j:Nat):Int)<1048576) (fun j=>20-j) 0 ?_ ⟨zE _,by show t*1<1048576;omega⟩ ?_
 ·simp only[Nat.pow_zero,Int.natCast_one,go_sem,ints,ic,mb20,pw20,fd20]
 intro j ⟨hj,hjt⟩;have hp2:=Nat.two_pow_pos j;have hpj:((2^j:Nat):Int)<=t*((2^j:Nat):Int):=by
  have:=qF (show 1<=t by omega) (show(0:Int)<=((2^j:Nat):Int)by omega);omega
 have wt:=ja9 (n:=t*((2^j:Nat):Int)) (by omega);by_cases hsm:t*((2^j:Nat):Int)<524288
 ·have hds:decide (t*((2^j:Nat):Int)<524288)=true:=za hsm;have hj19:=pow2_lt (j:=j) (by omega);have e2:((2^j:Nat):Int)*2=((2^(j+1):Nat):Int):=by rw[Nat.pow_succ,Int.natCast_mul];rfl
  have w2:=ja9 (n:=((2^j:Nat):Int)*2) (by omega);rw[e2]at w2;simp only[hn,wn1,tn1,pn1,ze,htop,wt,hds,go_sem,ints,ic,mb20,pw20,fd20];refine jab (j+1) ?_ (by omega) ⟨by omega,?_⟩
  ·simp only[w2,e2,go_sem,ints,ic,mb20,pw20,fd20]
  ·rw[<-e2,<-qR];omega
 have hds:decide (t*((2^j:Nat):Int)<524288)=false:=zq hsm;obtain⟨lv,hv1,hVlow⟩:=hsh j hj (by omega) hjt;clear hsh;have hs1:((2^j:Nat):Int)<1048576:=by omega
 generalize hs:2^j=s at*;clear hpj hsm hjt htne htd;obtain⟨m,hm⟩:∃m,(dig x).length=m:=⟨_,rfl⟩;obtain⟨k,hk⟩:∃k,(dig (x*s)).length=k:=⟨_,rfl⟩;have okS:OkD [(s:Int)]:=OkD.cons (by omega) OkD.nil;have m1:=t_pmulO (dig x) [(s:Int)] (jc3 x) okS (by omega) (by simp);have m2:=t_pmul (dig y) [(s:Int)] (jc3 y) okS (by omega) (by simp);rw[jb1,jnb,<-Int.natCast_mul,Int.toNat_natCast]at m1 m2;have hnm:n<=m:=by rw[<-hn,<-hm];exact jdc (by omega) (zB _)
 have hmk:m<=k:=by rw[<-hm,<-hk];exact jdc (yX x hp2) (zB _)
 have hkm:k<=m+1:=by
  rw[<-hm,<-hk];have:(dig s).length<=1:=jc1 (by simpa using hs1);have:=jl2 (zB (dig x).length) this;exact this
 have hpl:(padD (m+1) (x*s)).length=m+1:=jqi (by omega);have htk:((padD (m+1) (x*s)).map ic).take k=(dig (x*s)).map ic:=by rw[<-List.map_take,<-hk,pad_take]
 obtain⟨U0,hU0⟩:∃U,U=dig (x*s)++[0]:=⟨_,rfl⟩;have hU0m:(dig (x*s)).map ic++[[.sc (.int .i64 0)]]=U0.map ic:=by rw[hU0,qW];rfl
 have lU0:U0.length=k+1:=by rw[hU0,zH,hk];rfl
 have oU0:OkD U0:=by rw[hU0];exact(jc3 _).append (OkD.cons (by omega) OkD.nil)
 have vU0:val U0=((x*s:Nat):Int):=by rw[hU0,jr6,ym,yK,jb1]
 have vU0l:val U0<1048576^k:=by
  rw[vU0];have:=jeh (jc3 (x*s));rw[jb1,hk]at this;exact this
 obtain⟨vL,hvL⟩:∃v,v=dig (y*s):=⟨_,rfl⟩;have hvv:val vL=((y*s:Nat):Int):=by rw[hvL,jb1]
 have hvo:OkD vL:=by rw[hvL];exact jc3 _
 rw[<-hvL]at lv hv1 m2;obtain⟨K,hK⟩:∃K,K=k+1:=⟨_,rfl⟩;rw[<-hK]at lU0;clear hU0 hvL;rw[hm,List.length_cons,List.length_nil,qH,hk]at m1;simp only[ints,zl,zC]at m1 m2;have hVB:(524288:Int)*1048576^(n-1)<=val vL:=by rw[hvv];exact hVlow
 have hVpos:0<val vL:=by have:=jdl (n-1);omega
 have hVlt:val vL<1048576^n:=by have:=jeh hvo;rw[lv]at this;exact this
 have hrun0:val (U0.drop (K-n))<val vL:=by
  have h2:=jd8 U0 (K-n);have h3:=jb0 (oU0.take (K-n));have h4:=jb0 (oU0.drop (K-n));have h5:(1048576:Int)^k=1048576^(K-n)*1048576^(n-1):=by rw[<-Int.pow_add];congr 1;omega
  have hp1:=jdl (K-n);have h6:val (U0.drop (K-n))<1048576^(n-1):=by
   refine Int.lt_of_mul_lt_mul_left (a:=1048576^(K-n)) ?_ (by omega);rw[<-h5];omega
  have hp3:=jdl (n-1);omega
 have lenK:decide ((K:Int)=m)=false:=zq (by omega);have c1:((k:Int)+1)*8<=140737488355328:=by omega
 have c2:(k+1)*8<=140737488355328:=by omega
 have wKn:=ja9 (n:=(K:Int)-n) (by omega);have tKn:((K:Int)-n).toNat=K-n:=by omega
 have pKn:(0:Int)<=(K:Int)-n:=by omega
 have bKn:((K:Int)-n)*8<=140737488355328:=by omega
 have wq:=ja9 (n:=((K-n:Nat):Int)-1) (by omega);have hkp:k<=(padD (m+1) (x*s)).length:=by omega
 simp only[hn,wn1,tn1,pn1,ze,htop,wt,hds,go_sem,ints,ic,mb20,pw20,fd20];refine jm4 [] (m1) (by decide) (by simp) (by simp[rnm,look]) (by repeat' (first | exact trivial | refine⟨rfl,?_⟩)) rfl rfl rfl rfl ?_ rfl;simp only[hkp,htk,hU0m,hpl,go_sem,ints,ic,mb20,pw20,fd20];refine⟨by simp,by omega,c2,?_⟩;refine ja1 m2 ?_;clear m1 m2;have eK:((k+1:Nat):Int)=(K:Int):=by rw[hK]
 simp only[hm,eK,hK.symm,lenK,lv,wKn,tKn,pKn,bKn,zW,wq,go_sem,ints,ic,mb20,pw20,fd20];refine⟨(s,K,vL,U0),⟨hp2,hs1,hn2,by show n+1<=K;omega,by show K<=50000000002;omega,lv,hvo,hvv,hv1,lU0,oU0,vU0,hrun0,hVB⟩,?_⟩;unfold SDiv;refine(St.sub_of [8,9,10,11,12] ?_ (SubR.of_eq ?_) rfl).le
 ·simp only[go_sem,ints,ic,mb20,pw20,fd20]
 ·simp only[yR,htk,hU0m,go_sem,ints,ic,mb20,pw20,fd20]
