/- A part of the proof. No further condition. -/
import Derived.Test.YtkcekimolppapaaGreatKC11
set_option linter.all false
set_option maxRecDepth 10000000
set_option maxHeartbeats 16000000
namespace Go.Proofs.YtkcekimolppapaaGreat
section
open Go.Abs
theorem pow2_ok{j:Nat}{t:Int}(hj:j<=20)(ht:1<=t)(h:t*((2^j:Nat):Int)<1048576):(t+1)*((2^j:Nat):Int)<=1048576:=by
 have h1:((2^(20-j):Nat):Int)*((2^j:Nat):Int)=1048576:=by
  rw[<-Int.natCast_mul,<-Nat.pow_add,show 20-j+j=20 by omega];rfl
 have hp:0<((2^j:Nat):Int):=by have:=Nat.two_pow_pos j;omega
 rw[<-h1]at h⊢;have h2:t<((2^(20-j):Nat):Int):=Int.lt_of_mul_lt_mul_right h (by omega);exact qA (by omega) (by omega)
theorem pow2_lt{j:Nat}(h:((2^j:Nat):Int)<524288):j<19:=by
 rcases zW j 19 with h1 | h1
 ·exact h1
 ·have:2^19<=2^j:=qU (by omega) h1;omega
theorem win_dgt{U:List Int}{m n k:Nat}(hk:k<n):dgt ((U.drop m).take n) k=dgt U (m+k):=by rw[dgt_take_lt hk,dgt_drop]
theorem jpn{U X:List Int}{i j:Nat}(hi:i<=U.length)(hj:j<i):dgt (winL U i X) j=dgt U j:=by
 unfold dgt winL;rw[zR,zL (by rw[qh];omega),qe,zm hj]
theorem winL_ok{U X:List Int}{i:Nat}(hU:OkD U)(hX:OkD X):OkD (winL U i X):=((hU.take i).append hX).append (hU.drop _)
theorem jpl{U X:List Int}{i:Nat}(hi:i+X.length<=U.length)(hz:val (U.drop (i+X.length))=0):val ((winL U i X).drop i)=val X:=by
 have hl:(U.take i).length=i:=by rw[qh];omega
 rw[winL,zR,List.drop_append_of_le_length (by omega),qd (by omega),List.nil_append,jei,hz,ya,yo]
theorem jp2{n v:Nat}(h:(dig v).length<=n):(padD n v).length=n:=by rw[padD,zu,zY];omega
theorem pad_ok(n v:Nat):OkD (padD n v):=(jbu v).append (OkD.replicate _)
theorem pad_val(n v:Nat):val (padD n v)=v:=by rw[padD,jei,jdg,ya,yo,jb0]
theorem pad_take{n v:Nat}:(padD n v).take (dig v).length=dig v:=by rw[padD,List.take_append_of_le_length (zB _),qY]
theorem t_pdiv1(x y:Nat)(hy:0<y)(lx:(dig x).length<=50000000000)(ly:(dig y).length<=50000000000)(hlt:x<y):Ctr G.P 161 [ints (dig x),ints (dig y)] (· = .tup [ints (dig (x/y)),ints (dig (x % y))]):=by
 have hcmp:=jfb x y (by omega) (by omega);have hd:cmpI (x:Int) (y:Int)= -1:=zm (by omega);rw[hd]at hcmp;have hcl:=jjw (dig x) (by omega);rw[js hlt,jx hlt,jbp];simp only[ints]at hcmp hcl;have hdd:decide ((-1:Int)<0)=true:=by decide
 refine ja5 [.tmp 4,.tmp 5] Tryz.func161 ?_;simp only[go_sem,ints,ic,mb20,pw20,fd20];refine ja1 hcmp ?_;simp only[hdd,go_sem,ints,ic,mb20,pw20,fd20];refine ja1 hcl ?_;simp only[zp,go_sem,ints,ic,mb20,pw20,fd20]
theorem t_pdiv2(x y:Nat)(hy:0<y)(lx:(dig x).length<=50000000000)(ly:(dig y).length<=50000000000)(hlt:¬x<y)(h1:(dig y).length=1):Ctr G.P 161 [ints (dig x),ints (dig y)] (· = .tup [ints (dig (x/y)),ints (dig (x % y))]):=by
 have hcmp:=jfb x y (by omega) (by omega);have hd0:decide (cmpI (x:Int) (y:Int)<0)=false:=by
  refine zw ?_;rw[cmpI,zn (by omega)];split<;>omega
 have hy1:y<1048576:=by
  have h2:=jeb (jbu y);rw[jb0,h1]at h2;omega
 have hdy:dig y=[(y:Int)]:=by
  rw[jfx (by omega),jx hy1,js hy1,jbp]
 have hsh:=t_short (dig x) y (jbu x) (by omega) (by omega);rw[jb0,<-Int.natCast_ediv,<-Int.natCast_emod,Int.toNat_natCast]at hsh;have hok:OkD [((x % y:Nat):Int)]:=OkD.cons (by have:=jr x hy;omega) OkD.nil;have htr:=jep [((x % y:Nat):Int)] hok (by simp);rw[jmk,Int.toNat_natCast]at htr;rw[hdy]at hcmp⊢;simp only[ints,zl,zp]at hcmp hsh htr;refine ja5 [.tmp 4,.tmp 5] Tryz.func161 ?_;simp only[zl,zp,go_sem,ints,ic,mb20,pw20,fd20];refine ja1 hcmp ?_;simp only[hd0,zl,zp,Int.toNat_zero,qy,go_sem,ints,ic,mb20,pw20,fd20];refine ja1 hsh ?_;simp only[go_sem,ints,ic,mb20,pw20,fd20];refine ja1 htr ?_;simp only[go_sem,ints,ic,mb20,pw20,fd20]
theorem t_pdiv(x y:Nat)(hy:0<y)(lx:(dig x).length<=50000000000)(ly:(dig y).length<=50000000000):Ctr G.P 161 [ints (dig x),ints (dig y)] (· = .tup [ints (dig (x/y)),ints (dig (x % y))]):=by
 have hcmp:=jfb x y (by omega) (by omega);by_cases hlt:x<y
 ·exact t_pdiv1 x y hy lx ly hlt
 have hd0:decide (cmpI (x:Int) (y:Int)<0)=false:=by
  refine zw ?_;rw[cmpI,zn (by omega)];split<;>omega
 by_cases h1:(dig y).length=1
 ·exact t_pdiv2 x y hy lx ly hlt h1
 obtain⟨n,hn⟩:∃n,(dig y).length=n:=⟨_,rfl⟩;have hn0:n≠0:=fun e=>by rw[e]at hn;have:=dig_nil.1 (zI hn);omega
 have hn2:2<=n:=by omega
 have hl1:decide ((n:Int)=1)=false:=zw (by omega);have wn1:=ja8 (n:=(n:Int)-1) (by omega);have tn1:((n:Int)-1).toNat=n-1:=by omega
 have pn1:(0:Int)<=(n:Int)-1:=by omega
 have htop:=jb2 (l:=dig y) (i:=n-1) (by omega);have htd:=(jbu y).dgt (n-1);have htne:dgt (dig y) (n-1)≠0:=fun e=>by
  have:=jmy y;rw[yT,hn,htop,e]at this;exact this rfl
 have hsh:∀j:Nat,j<=20->524288<=dgt (dig y) (n-1)*((2^j:Nat):Int)->dgt (dig y) (n-1)*((2^j:Nat):Int)<1048576->_:=fun j hj g1 g2=>shifted (s:=2^j) hn (by omega) g1 (pow2_ok hj (by omega) g2);have hcmp':=hcmp;simp only[ints]at hcmp;refine ja5 [.tmp 4,.tmp 5] Tryz.func161 ?_;simp only[go_sem,ints,ic,mb20,pw20,fd20];refine ja1 hcmp ?_;simp only[hd0,hn,hl1,go_sem,ints,ic,mb20,pw20,fd20];clear hcmp hcmp' hd0;generalize htt:dgt (dig y) (n-1)=t at*;refine jau [0,1,8] [] (fun j:Nat=>⟨[(0,.im (.sl ((dig x).map ic))),(1,.im (.sl ((dig y).map ic))),(8,.im (.int ((2^j:Nat):Int)))],[],[]⟩)
  (fun j=>j<=20/\t*((2^j:Nat):Int)<1048576) (fun j=>20-j) 0 ?_ ⟨zH _,by show t*1<1048576;omega⟩ ?_
 ·simp only[Nat.pow_zero,Int.natCast_one,go_sem,ints,ic,mb20,pw20,fd20]
 intro j ⟨hj,hjt⟩;have hp2:=Nat.two_pow_pos j;have hpj:((2^j:Nat):Int)<=t*((2^j:Nat):Int):=by
  have:=qA (show 1<=t by omega) (show(0:Int)<=((2^j:Nat):Int)by omega);omega
 have wt:=ja8 (n:=t*((2^j:Nat):Int)) (by omega);by_cases hsm:t*((2^j:Nat):Int)<524288
 ·have hds:decide (t*((2^j:Nat):Int)<524288)=true:=zh hsm;have hj19:=pow2_lt (j:=j) (by omega);have e2:((2^j:Nat):Int)*2=((2^(j+1):Nat):Int):=by rw[Nat.pow_succ,Int.natCast_mul];rfl
  have w2:=ja8 (n:=((2^j:Nat):Int)*2) (by omega);rw[e2]at w2;simp only[hn,wn1,tn1,pn1,zq,htop,wt,hds,go_sem,ints,ic,mb20,pw20,fd20];refine jac (j+1) ?_ (by omega) ⟨by omega,?_⟩
  ·simp only[w2,e2,go_sem,ints,ic,mb20,pw20,fd20]
  ·rw[<-e2,<-qO];omega
 have hds:decide (t*((2^j:Nat):Int)<524288)=false:=zw hsm;obtain⟨lv,hv1,hVlow⟩:=hsh j hj (by omega) hjt;clear hsh;have hs1:((2^j:Nat):Int)<1048576:=by omega
 generalize hs:2^j=s at*;clear hpj hsm hjt htne htd;obtain⟨m,hm⟩:∃m,(dig x).length=m:=⟨_,rfl⟩;obtain⟨k,hk⟩:∃k,(dig (x*s)).length=k:=⟨_,rfl⟩;have okS:OkD [(s:Int)]:=OkD.cons (by omega) OkD.nil;have m1:=t_pmulO (dig x) [(s:Int)] (jbu x) okS (by omega) (by simp);have m2:=t_pmul (dig y) [(s:Int)] (jbu y) okS (by omega) (by simp);rw[jb0,jmk,<-Int.natCast_mul,Int.toNat_natCast]at m1 m2;have hnm:n<=m:=by rw[<-hn,<-hm];exact jd2 (by omega) (zB _)
 have hmk:m<=k:=by rw[<-hm,<-hk];exact jd2 (yJ x hp2) (zB _)
 have hkm:k<=m+1:=by
  rw[<-hm,<-hk];have:(dig s).length<=1:=jbt (by simpa using hs1);have:=jkh (zB (dig x).length) this;exact this
 have hpl:(padD (m+1) (x*s)).length=m+1:=jp2 (by omega);have htk:((padD (m+1) (x*s)).map ic).take k=(dig (x*s)).map ic:=by rw[<-List.map_take,<-hk,pad_take]
 obtain⟨U0,hU0⟩:∃U,U=dig (x*s)++[0]:=⟨_,rfl⟩;have hU0m:(dig (x*s)).map ic++[[.sc (.int .i64 0)]]=U0.map ic:=by rw[hU0,qw];rfl
 have lU0:U0.length=k+1:=by rw[hU0,zu,hk];rfl
 have oU0:OkD U0:=by rw[hU0];exact(jbu _).append (OkD.cons (by omega) OkD.nil)
 have vU0:val U0=((x*s:Nat):Int):=by rw[hU0,jpq,ya,yo,jb0]
 have vU0l:val U0<1048576^k:=by
  rw[vU0];have:=jeb (jbu (x*s));rw[jb0,hk]at this;exact this
 obtain⟨vL,hvL⟩:∃v,v=dig (y*s):=⟨_,rfl⟩;have hvv:val vL=((y*s:Nat):Int):=by rw[hvL,jb0]
 have hvo:OkD vL:=by rw[hvL];exact jbu _
 rw[<-hvL]at lv hv1 m2;obtain⟨K,hK⟩:∃K,K=k+1:=⟨_,rfl⟩;rw[<-hK]at lU0;clear hU0 hvL;rw[hm,List.length_cons,List.length_nil,qE,hk]at m1;simp only[ints,zl,zp]at m1 m2;have hVB:(524288:Int)*1048576^(n-1)<=val vL:=by rw[hvv];exact hVlow
 have hVpos:0<val vL:=by have:=jdj (n-1);omega
 have hVlt:val vL<1048576^n:=by have:=jeb hvo;rw[lv]at this;exact this
 have hrun0:val (U0.drop (K-n))<val vL:=by
  have h2:=jcy U0 (K-n);have h3:=jax (oU0.take (K-n));have h4:=jax (oU0.drop (K-n));have h5:(1048576:Int)^k=1048576^(K-n)*1048576^(n-1):=by rw[<-Int.pow_add];congr 1;omega
  have hp1:=jdj (K-n);have h6:val (U0.drop (K-n))<1048576^(n-1):=by
   refine Int.lt_of_mul_lt_mul_left (a:=1048576^(K-n)) ?_ (by omega);rw[<-h5];omega
  have hp3:=jdj (n-1);omega
 have lenK:decide ((K:Int)=m)=false:=zw (by omega);have c1:((k:Int)+1)*8<=140737488355328:=by omega
 have c2:(k+1)*8<=140737488355328:=by omega
 have wKn:=ja8 (n:=(K:Int)-n) (by omega);have tKn:((K:Int)-n).toNat=K-n:=by omega
 have pKn:(0:Int)<=(K:Int)-n:=by omega
 have bKn:((K:Int)-n)*8<=140737488355328:=by omega
 have wq:=ja8 (n:=((K-n:Nat):Int)-1) (by omega);have hkp:k<=(padD (m+1) (x*s)).length:=by omega
 simp only[hn,wn1,tn1,pn1,zq,htop,wt,hds,go_sem,ints,ic,mb20,pw20,fd20];refine jld [] (m1) (by decide) (by simp) (by simp[rnm,look]) (by repeat' (first | exact trivial | refine⟨rfl,?_⟩)) rfl rfl rfl rfl ?_ rfl;simp only[hkp,htk,hU0m,hpl,go_sem,ints,ic,mb20,pw20,fd20];refine⟨by simp,by omega,c2,?_⟩;refine ja1 m2 ?_;clear m1 m2;have eK:((k+1:Nat):Int)=(K:Int):=by rw[hK]
 simp only[hm,eK,hK.symm,lenK,lv,wKn,tKn,pKn,bKn,zY,wq,go_sem,ints,ic,mb20,pw20,fd20];refine jau [8,9,10,11,12,13] [75,56] (fun g:Nat×List Int×List Int=>⟨[(8,.im (.int s)),(9,.gsl 56 3 1 K),(10,.im (.sl (vL.map ic))),(11,.im (.int n)),(12,.gsl 75 3 1 (K-n)),(13,.im (.int ((g.1:Int)-1)))],
   [(75,1,g.2.1.map ic),(56,1,g.2.2.map ic)],[]⟩)
  (fun g=>g.1<=K-n/\g.2.1.length=K-n/\OkD g.2.1/\g.2.2.length=K/\OkD g.2.2/\(∀i,i<g.1->dgt g.2.2 i=dgt U0 i)/\val (g.2.2.drop g.1)<val vL/\val (U0.drop g.1)=val (g.2.1.drop g.1)*val vL+val (g.2.2.drop g.1))
  (fun g=>g.1) (K-n,List.replicate (K-n) 0,U0) ?_
  ⟨zB _,zY,OkD.replicate _,lU0,oU0,fun _ _=>rfl,hrun0,by
   dsimp only;rw[qd (l:=List.replicate (K-n) 0) (by rw[zY];exact zB _),show val []=0 from rfl,vg,jc]⟩ ?_
 ·simp only[y8,wq,htk,hU0m,go_sem,ints,ic,mb20,pw20,fd20]
 clear htk hU0m hpl hkp c1 c2 wq wt hds;intro⟨m',q,U⟩ ⟨hm',lq,oq,lU,oU,hlow,hR,hinv⟩;dsimp only at hm' lq oq lU oU hlow hR hinv;rcases m' with _ | i
 ·as_aux_lemma=>
   have hg:decide ((0:Int)<=((0:Nat):Int)-1)=false:=by decide
   rw[zV,zV,zV,vU0]at hinv;rw[zV]at hR;obtain⟨e1,e2⟩:=jq1 hinv (jax oU) hR;rw[hvv,<-Int.natCast_ediv,Nat.mul_div_mul_right _ _ hp2]at e1;rw[hvv,<-Int.natCast_emod,Nat.mul_mod_mul_right]at e2;have t1:=jep U oU (by omega);rw[e2,Int.toNat_natCast]at t1;have t2:=t_short (dig (x % y*s)) s (jbu _) (by omega) (by
    have:(dig (x % y*s)).length<=K:=by
     refine jbt ?_;have:=jeb oU;rw[e2,lU]at this;exact this
    omega)
   rw[jb0,<-Int.natCast_ediv,Nat.mul_div_cancel _ hp2,Int.toNat_natCast]at t2;have t3:=jep q oq (by omega);rw[e1,Int.toNat_natCast]at t3;have k1:K<=U.length:=by omega
   have k2:(U.map ic).take K=U.map ic:=zG (by rw[za];omega);have k3:K-n<=q.length:=by omega
   have k4:(q.map ic).take (K-n)=q.map ic:=zG (by rw[za];omega);simp only[ints]at t1 t2 t3;simp only[hg,k1,k2,go_sem,ints,ic,mb20,pw20,fd20];refine ja1 t1 ?_;simp only[go_sem,ints,ic,mb20,pw20,fd20];refine ja1 t2 ?_;simp only[k3,k4,go_sem,ints,ic,mb20,pw20,fd20];refine ja1 t3 ?_;simp only[go_sem,ints,ic,mb20,pw20,fd20]
 have e1:((i+1:Nat):Int)-1=i:=by omega
 have hg:decide ((0:Int)<=(i:Int))=true:=zh (by omega);have hin:i+n<K:=by omega
 obtain⟨W,hW⟩:∃W,W=(U.drop i).take (n+1):=⟨_,rfl⟩;have lW:W.length=n+1:=by rw[hW,qh,yP];omega
 have oW:OkD W:=by rw[hW];exact(oU.drop i).take _
 have wW:winL U i W=U:=by rw[hW];exact winL_self (by omega)
 have dW:∀k,k<=n->dgt W k=dgt U (i+k):=fun k hk'=>by rw[hW];exact win_dgt (by omega)
 have hvd:=jcn U i;have hUi:=oU.dgt i;have hbig:val (U.drop i)<1048576^(n+1):=by
  have hpn:(1048576:Int)^(n+1)=1048576^n*1048576:=jd1 n;have:=jax (oU.drop (i+1));omega
 have vW:val W=val (U.drop i):=by rw[hW];exact jif (oU.drop i) hbig
 have hz:val (U.drop (i+W.length))=0:=by
  have:=jeu (oU.drop i) hbig;rw[vC]at this;rw[lW];exact this
 have hWV:val W<1048576*val vL:=by omega
 obtain⟨Vl,hV,hVl0,hVl1⟩:=top_two hvo hn2 lv;obtain⟨Wl,hWW,hWl0,hWl1⟩:=top_three oW hn2 lW;rw[dW n (zB _),dW (n-1) (by omega),dW (n-2) (by omega)]at hWW;have x1:=jb2 (l:=U) (i:=i+n) (by omega);have x2:=jb2 (l:=U) (i:=i+(n-1)) (by omega);have x3:=jb2 (l:=U) (i:=i+(n-2)) (by omega);have y1:=jb2 (l:=vL) (i:=n-1) (by omega);have y2:=jb2 (l:=vL) (i:=n-2) (by omega);have g1:=oU.dgt (i+n);have g2:=oU.dgt (i+(n-1));have g3:=oU.dgt (i+(n-2));have gv1:=hvo.dgt (n-1);have gv2:=hvo.dgt (n-2);have hDpos:=jdj (n-2);generalize (1048576:Int)^(n-2)=D at*;generalize dgt U (i+n)=w1 at*;generalize dgt U (i+(n-1))=w2 at*;generalize dgt U (i+(n-2))=w3 at*;generalize dgt vL (n-1)=v1 at*;generalize dgt vL (n-2)=v2 at*;have s1:=ja8 (n:=(i:Int)+n) (by omega);have s2:=ja8 (n:=(i:Int)+n-1) (by omega);have s3:=ja8 (n:=(i:Int)+n-2) (by omega);have s4:=ja8 (n:=(n:Int)-2) (by omega);have n1:((i:Int)+n).toNat=i+n:=by omega
 have n2:((i:Int)+n-1).toNat=i+(n-1):=by omega
 have n3:((i:Int)+n-2).toNat=i+(n-2):=by omega
 have n4:((n:Int)-2).toNat=n-2:=by omega
 have p1:(0:Int)<=(i:Int)+n:=by omega
 have p2:(0:Int)<=(i:Int)+n-1:=by omega
 have p3:(0:Int)<=(i:Int)+n-2:=by omega
 have p4:(0:Int)<=(n:Int)-2:=by omega
 have b1:(i:Int)+n<K:=by omega
 have b2:(i:Int)+n-1<K:=by omega
 have b3:(i:Int)+n-2<K:=by omega
 have u1:=ja8 (n:=w1*1048576) (by omega);have u2:=or20 w1 w2 (by omega) g2;generalize htop2:w1*1048576+w2=top at*;have ht0:0<=top/\top<1099511627776:=by omega
 have u3:IntKind.i64.wrap (top.tdiv v1)=top/v1:=by
  rw[vE ht0.1];have:=jI ht0.1 (by omega:0<=v1);have:=Int.ediv_le_self v1 ht0.1;exact ja8 (by omega)
 have u4:top.tmod v1=top % v1:=vD ht0.1;have v10:¬v1=0:=by omega
 have hdm0:top/v1*v1+top % v1=top:=by have:=qP top v1;rw[yk]at this;omega
 have hm0:=jH top v10;have hml:=jk top (by omega:0<v1);have hq0:=jI ht0.1 (by omega:0<=v1);simp only[e1,hg,go_sem,ints,ic,mb20,pw20,fd20];refine jab 16 ?_;simp only[e1,s1,s2,n1,n2,p1,p2,b1,b2,zq,x1,x2,u1,u2,go_sem,ints,ic,mb20,pw20,fd20];refine jab 16 ?_;simp only[wn1,tn1,pn1,zq,y1,v10,u3,u4,go_sem,ints,ic,mb20,pw20,fd20];refine jau [8,9,10,11,12,13,15,16] [75,56] (fun g:Int×Int=>⟨[(8,.im (.int s)),(9,.gsl 56 3 1 K),(10,.im (.sl (vL.map ic))),(11,.im (.int n)),(12,.gsl 75 3 1 (K-n)),(13,.im (.int i)),(15,.im (.int g.1)),(16,.im (.int g.2))],
   [(75,1,q.map ic),(56,1,U.map ic)],[]⟩)
  (fun g=>g.1*v1+g.2=top/\0<=g.2/\0<=g.1/\val W<(g.1+1)*val vL) (fun g=>g.1.toNat) (top/v1,top % v1) ?_
  ⟨hdm0,hm0,hq0,knuth_first hDpos hV hVl0 gv2.1 hWW hWl1 g3.2 hdm0 hml hq0⟩ ?_
 ·simp only[go_sem,ints,ic,mb20,pw20,fd20]
 intro⟨g,r⟩ ⟨hgt,hr0,hg0,hWg⟩;dsimp only at hgt hr0 hg0 hWg;have hgl:g<=2097152:=by
  have:g*524288<=g*v1:=qk (by omega) hg0;omega
 have hgv1:0<=g*v1:=qS hg0 (by omega);have hgv2:0<=g*v2/\g*v2<=2097152*1048575:=⟨qS hg0 gv2.1,jO hgl (by omega) gv2.1 (by omega)⟩;have r1:=ja8 (n:=g-1) (by omega);have r2:=ja8 (n:=r+v1) (by omega);have r3:=ja8 (n:=g*v2) (by omega);have s5:=ja8 (n:=(i:Int)+n+1) (by omega);have n5:((i:Int)+n+1-i).toNat=n+1:=by omega
 have b5:(i:Int)<=(i:Int)+n+1:=by omega
 have b6:(i:Int)+n+1<=K:=by omega
 have b7:(i:Int)<((K-n:Nat):Int):=by omega
 have b8:i+(n+1)<=U.length:=by omega
 have xq:=jb2 (l:=q) (i:=i) (by omega);have s6:=ja8 (n:=(i:Int)-1) (by omega);have down:val W<g*val vL->1<=g->(g-1)*v1+(r+v1)=top/\0<=r+v1/\0<=g-1/\val W<(g-1+1)*val vL:=fun h1 h2=>
  ⟨by rw[jC,yG];omega,by omega,by omega,by rw[Int.sub_add_cancel];exact h1⟩
 have next:∀P:Prop,P->P:=fun _ h=>h;by_cases hgB:1048576<=g
 ·as_aux_lemma=>
   have d1:decide (1048576<=g)=true:=zh hgB;have hd:=down (by
    have:1048576*val vL<=g*val vL:=qA hgB (by omega);omega) (by omega)
   simp only[go_sem,ints,ic,mb20,pw20,fd20];refine jab 26 ?_;simp only[d1,wn1,tn1,pn1,zq,y1,r1,r2,go_sem,ints,ic,mb20,pw20,fd20];refine jac (g-1,r+v1) ?_ ?_ hd
   ·simp only[go_sem,ints,ic,mb20,pw20,fd20]
   ·show(g-1).toNat<g.toNat;omega
 have d1:decide (1048576<=g)=false:=zw hgB;by_cases hrB:r<1048576
 case pos=>
  have d2:decide (r<1048576)=true:=zh hrB;have r4:=ja8 (n:=r*1048576) (by omega);have r5:=or20 r w3 (by omega) g3;by_cases hgt2:r*1048576+w3<g*v2
  ·as_aux_lemma=>
    have d3:decide (r*1048576+w3<g*v2)=true:=zh hgt2;have hg1:1<=g:=by
     rcases yE g 1 with h | h
     ·have:g=0:=by omega
      subst this;rw[vg]at hgt2;omega
     ·exact h
    have hd:=down (knuth_down hDpos hV hVl0 hWW hWl1 hgt hg0 hgt2) hg1;simp only[go_sem,ints,ic,mb20,pw20,fd20];refine jab 26 ?_;simp only[d1,d2,d3,s1,s3,n3,n4,p3,p4,b3,s4,zq,x3,y2,r3,r4,r5,wn1,tn1,pn1,y1,r1,r2,go_sem,ints,ic,mb20,pw20,fd20];refine jac (g-1,r+v1) ?_ ?_ hd
    ·simp only[go_sem,ints,ic,mb20,pw20,fd20]
    ·show(g-1).toNat<g.toNat;omega
  ·as_aux_lemma=>
    have d3:decide (r*1048576+w3<g*v2)=false:=zw hgt2;have hexit:=fun h1=>jly hDpos hV hVl1 hWW hWl0 hgt h1 (by omega) (by omega) gv2 g3.1 (.inr (by omega));simp only[go_sem,ints,ic,mb20,pw20,fd20];refine jab 26 ?_;simp only[d1,d2,d3,s1,s3,n3,n4,p3,p4,b3,s4,zq,x3,y2,r3,r4,r5,s5,n5,b5,b6,go_sem,ints,ic,mb20,pw20,fd20];have hq:0<=val W-g*val vL\/0<=val W-(g-1)*val vL:=by
     rcases yE g 1 with h | h
     ·have h0:g=0:=by omega
      left;rw[h0,vg,jd];exact jax oW
     ·right;have:=hexit h;omega
    have hset:=jps U W vL i n g oW hvo lW lv (by omega) (by omega) ⟨hg0,by omega⟩ hq;obtain⟨hse1,hse2⟩:=jnx hVpos hWg hq;change jg9 (val W) (val vL) g=val W/val vL at hse1;change val W-jg9 (val W) (val vL) g*val vL=val W % val vL at hse2;rw[wW,hse2,hse1]at hset;rw[hse1]at hse2;have hQ0:=jI (jax oW) (by omega:0<=val vL);have hQ1:val W/val vL<1048576:=j2 hVpos hWV;have hm0':=jH (val W) (by omega:val vL≠0);have hm1':=jk (val W) hVpos;have hos:=jk8 (lo:=val W/val vL) (by omega:i<q.length) hinv;have hlowi:=hlow i (by omega);rw[<-hlowi]at hos;have hrest:dgt U i+1048576*val (U.drop (i+1))-val W/val vL*val vL=val W % val vL:=by omega
    rw[hrest]at hos;obtain⟨Rm,hRm⟩:∃Rm:Nat,(Rm:Int)=val W % val vL:=⟨(val W % val vL).toNat,by omega⟩;rw[<-hRm]at hset hos hm0' hm1';rw[Int.toNat_natCast]at hset;have lRm:(dig Rm).length<=n+1:=by
     have:(dig Rm).length<=n:=jbt (by omega);omega
    have lP:=jp2 lRm;have hvU:val ((winL U i (padD (n+1) Rm)).drop i)=Rm:=by
     rw[jpl (by omega) (by rw[lP,<-lW];exact hz),pad_val]
    generalize val W/val vL=Q at*;have hsetq:(q.map ic).set i [.sc (.int .i64 Q)]=(q.set i Q).map ic:=by rw[qM];rfl
    simp only[ints]at hset;simp only[b8,go_sem,ints,ic,mb20,pw20,fd20];refine jld [(900,56)] (hset) (by decide) (by simp) (by simp[rnm,look]) (by repeat' (first | exact trivial | refine⟨rfl,?_⟩)) rfl rfl rfl rfl ?_ rfl;simp only[b7,zq,xq,hsetq,go_sem,ints,ic,mb20,pw20,fd20];refine jac (i,q.set i Q,winL U i (padD (n+1) Rm)) ?_ ?_ ⟨by show i<=K-n;omega,by show(q.set i Q).length=K-n;rw[qf];exact lq,oq.set ⟨hQ0,hQ1⟩,?_,winL_ok oU (pad_ok _ _),?_,?_,?_⟩
    ·simp only[s6,hsetq,go_sem,ints,ic,mb20,pw20,fd20]
    ·show i<i+1;omega
    ·show(winL U i _).length=K;rw[jpo (by omega)];exact lU
    ·intro j hj;dsimp only at hj⊢;rw[jpn (by omega) hj];exact hlow j (by omega)
    ·dsimp only;rw[hvU];exact hm1'
    ·dsimp only;rw[hvU];exact hos
 case neg=>
  as_aux_lemma=>
   have d2:decide (r<1048576)=false:=zw hrB;have hexit:=fun h1=>jly hDpos hV hVl1 hWW hWl0 hgt h1 (by omega) (by omega) gv2 g3.1 (.inl (by omega));simp only[go_sem,ints,ic,mb20,pw20,fd20];refine jab 26 ?_;simp only[d1,d2,s1,s5,n5,b5,b6,go_sem,ints,ic,mb20,pw20,fd20];have hq:0<=val W-g*val vL\/0<=val W-(g-1)*val vL:=by
    rcases yE g 1 with h | h
    ·have h0:g=0:=by omega
     left;rw[h0,vg,jd];exact jax oW
    ·right;have:=hexit h;omega
   have hset:=jps U W vL i n g oW hvo lW lv (by omega) (by omega) ⟨hg0,by omega⟩ hq;obtain⟨hse1,hse2⟩:=jnx hVpos hWg hq;change jg9 (val W) (val vL) g=val W/val vL at hse1;change val W-jg9 (val W) (val vL) g*val vL=val W % val vL at hse2;rw[wW,hse2,hse1]at hset;rw[hse1]at hse2;have hQ0:=jI (jax oW) (by omega:0<=val vL);have hQ1:val W/val vL<1048576:=j2 hVpos hWV;have hm0':=jH (val W) (by omega:val vL≠0);have hm1':=jk (val W) hVpos;have hos:=jk8 (lo:=val W/val vL) (by omega:i<q.length) hinv;have hlowi:=hlow i (by omega);rw[<-hlowi]at hos;have hrest:dgt U i+1048576*val (U.drop (i+1))-val W/val vL*val vL=val W % val vL:=by omega
   rw[hrest]at hos;obtain⟨Rm,hRm⟩:∃Rm:Nat,(Rm:Int)=val W % val vL:=⟨(val W % val vL).toNat,by omega⟩;rw[<-hRm]at hset hos hm0' hm1';rw[Int.toNat_natCast]at hset;have lRm:(dig Rm).length<=n+1:=by
    have:(dig Rm).length<=n:=jbt (by omega);omega
   have lP:=jp2 lRm;have hvU:val ((winL U i (padD (n+1) Rm)).drop i)=Rm:=by
    rw[jpl (by omega) (by rw[lP,<-lW];exact hz),pad_val]
   generalize val W/val vL=Q at*;have hsetq:(q.map ic).set i [.sc (.int .i64 Q)]=(q.set i Q).map ic:=by rw[qM];rfl
   simp only[ints]at hset;simp only[b8,go_sem,ints,ic,mb20,pw20,fd20];refine jld [(900,56)] (hset) (by decide) (by simp) (by simp[rnm,look]) (by repeat' (first | exact trivial | refine⟨rfl,?_⟩)) rfl rfl rfl rfl ?_ rfl;simp only[b7,zq,xq,hsetq,go_sem,ints,ic,mb20,pw20,fd20];refine jac (i,q.set i Q,winL U i (padD (n+1) Rm)) ?_ ?_ ⟨by show i<=K-n;omega,by show(q.set i Q).length=K-n;rw[qf];exact lq,oq.set ⟨hQ0,hQ1⟩,?_,winL_ok oU (pad_ok _ _),?_,?_,?_⟩
   ·simp only[s6,hsetq,go_sem,ints,ic,mb20,pw20,fd20]
   ·show i<i+1;omega
   ·show(winL U i _).length=K;rw[jpo (by omega)];exact lU
   ·intro j hj;dsimp only at hj⊢;rw[jpn (by omega) hj];exact hlow j (by omega)
   ·dsimp only;rw[hvU];exact hm1'
   ·dsimp only;rw[hvU];exact hos
