/- A part of the proof. No further condition. -/
import Derived.Test.YtjcjcpebocbonaaGreatKY14
set_option linter.all false
set_option maxRecDepth 10000000
set_option maxHeartbeats 16000000
namespace Go.Proofs.YtjcjcpebocbonaaGreat
section
set_option maxRecDepth 1000000
open Go.Abs
structure DivS(x y s n K:Nat)(vL U0:List Int):Prop where
 hp2:0<s
 hs1:(s:Int)<1048576
 hn2:2<=n
 hnK:n+1<=K
 hKb:K<=50000000002
 lv:vL.length=n
 hvo:OkD vL
 hvv:val vL=((y*s:Nat):Int)
 hv1:524288<=dgt vL (n-1)
 lU0:U0.length=K
 oU0:OkD U0
 vU0:val U0=((x*s:Nat):Int)
 hrun0:val (U0.drop (K-n))<val vL
 hVB:(524288:Int)*1048576^(n-1)<=val vL
def SDivH(X s n K:Nat)(vL U0:List Int):St:=⟨[(8,.im (.int s)),(9,.im (.ref X 3 1 K)),(10,.im (.sl (vL.map ic))),(11,.im (.int n)),(12,.gsl 75 3 1 (K-n))],[(75,1,(List.replicate (K-n) (0:Int)).map ic),(hp X,1,U0.map ic)],[]⟩
theorem t_pdivBH{X x y s n K:Nat}{vL U0:List Int}(h:DivS x y s n K vL U0){Q:Exit->St->Prop}(n0:∀st,st.get 4= .im (.sl ((dig (x/y)).map ic))->st.get 5= .im (.sl ((dig (x % y)).map ic))->Q .ret st):
  awp (GH [] [162]) (tailN 9 (jd2 Tryz.f94)) Q (SDivH X s n K vL U0):=by
 obtain⟨hp2,hs1,hn2,hnK,hKb,lv,hvo,hvv,hv1,lU0,oU0,vU0,hrun0,hVB⟩:=h;have h7:=ja8 ((n:Int)-1);have h8:((n:Int)-1).toNat=n-1:=by omega
 have h9:(0:Int)<=(n:Int)-1:=by omega
 have a6:0<val vL:=by have:=jda (n-1);omega
 have o1:val vL<1048576^n:=by have:=jd8 hvo;rw[lv]at this;exact this
 have wq:=ja8 (((K-n:Nat):Int)-1);have e6:=fun(d:Nat) (h:d<100000)=>hp_ne (n:=d) (b:=X) h;have l1:∀q:Nat,q<100000->(q !=hp X)=true:=fun q hq=>by simp only[qh,ne_eq];exact hp_ne hq
 unfold SDivH;refine jr2 rfl ?_;simp only[zw,zR,yx,wq,go_sem,ints,ic,mb20,pw20,fd20];refine jar [8,9,10,11,12,13] (fun g:Nat×List Int×List Int=>⟨[(8,.im (.int s)),(9,.im (.ref X 3 1 K)),(10,.im (.sl (vL.map ic))),(11,.im (.int n)),(12,.gsl 75 3 1 (K-n)),(13,.im (.int ((g.1:Int)-1)))],
   [(75,1,g.2.1.map ic),(hp X,1,g.2.2.map ic)],[]⟩)
  (fun g=>g.1<=K-n/\g.2.1.length=K-n/\OkD g.2.1/\g.2.2.length=K/\OkD g.2.2/\(∀i,i<g.1->dgt g.2.2 i=dgt U0 i)/\val (g.2.2.drop g.1)<val vL/\val (U0.drop g.1)=val (g.2.1.drop g.1)*val vL+val (g.2.2.drop g.1))
  (fun g=>g.1) (K-n,List.replicate (K-n) 0,U0) ?_ (SubR.of_eq (by simp only[yx];rfl)) rfl
  ⟨zu _,zR,OkD.replicate _,lU0,oU0,fun _ _=>rfl,hrun0,by
   dsimp only;rw[zY (l:=List.replicate (K-n) 0) (by rw[zR];exact zu _),show val []=0 from rfl,wx,yW]⟩ ?_
 ·simp only[yx,wq,go_sem,ints,ic,mb20,pw20,fd20]
 clear wq hnK;intro⟨m',q,U⟩ ⟨l7,lq,oq,lU,oU,c3,hR,hinv⟩;dsimp only at l7 lq oq lU oU c3 hR hinv;rcases m' with _ | i
 ·have hg:decide ((0:Int)<=((0:Nat):Int)-1)=false:=by decide
  rw[yH,yH,yH,vU0]at hinv;rw[yH]at hR;obtain⟨e1,e2⟩:=jo8 hinv (jam oU) hR;rw[hvv,<-Int.natCast_ediv,Nat.mul_div_mul_right _ _ hp2]at e1;rw[hvv,<-Int.natCast_emod,Nat.mul_mod_mul_right]at e2;have t1:=jft U oU (by omega);rw[e2,Int.toNat_natCast]at t1;have t2:=t_short (dig (x % y*s)) s (jbd _) (by omega) (by
   have:(dig (x % y*s)).length<=K:=by
    refine jb2 ?_;have:=jd8 oU;rw[e2,lU]at this;exact this
   omega)
  rw[jaq,<-Int.natCast_ediv,Nat.mul_div_cancel _ hp2,Int.toNat_natCast]at t2;have t3:=jft q oq (by omega);rw[e1,Int.toNat_natCast]at t3;have k1:K<=U.length:=by omega
  have k2:(U.map ic).take K=U.map ic:=zZ (by rw[zw];omega);have k3:K-n<=q.length:=by omega
  have k4:(q.map ic).take (K-n)=q.map ic:=zZ (by rw[zw];omega);simp only[ints]at t1 t2 t3;simp only[hg,k1,k2,go_sem,ints,ic,mb20,pw20,fd20];refine ja0 t1 ?_;simp only[k1,k2,go_sem,ints,ic,mb20,pw20,fd20];refine ja0 t2 ?_;simp only[k1,k2,k3,k4,l1 75 (by decide),go_sem,ints,ic,mb20,pw20,fd20];refine ja0 t3 ?_;simp only[k1,k2,k3,k4,l1 75 (by decide),go_sem,ints,ic,mb20,pw20,fd20];exact n0 _ rfl rfl
 have e1:((i+1:Nat):Int)-1=i:=by omega
 have hg:decide ((0:Int)<=(i:Int))=true:=dTo;have o6:i+n<K:=by omega
 obtain⟨W,hW⟩:∃W,W=(U.drop i).take (n+1):=⟨_,rfl⟩;have lW:W.length=n+1:=by rw[hW,qb,ji];omega
 have oW:OkD W:=by rw[hW];exact(oU.drop i).take _
 have wW:winL U i W=U:=by rw[hW];exact winL_self (by omega)
 have dW:∀k,k<=n->dgt W k=dgt U (i+k):=fun k o5=>by rw[hW];exact win_dgt (by omega)
 have o2:=jcx U i;have o7:=oU.dgt i;have e9:val (U.drop i)<1048576^(n+1):=by
  have o3:(1048576:Int)^(n+1)=1048576^n*1048576:=jcg n;have:=jam (oU.drop (i+1));omega
 have vW:val W=val (U.drop i):=by rw[hW];exact jg0 (oU.drop i) e9
 have hz:val (U.drop (i+W.length))=0:=by
  have:=jfh (oU.drop i) e9;rw[vG]at this;rw[lW];exact this
 have l2:val W<1048576*val vL:=by omega
 obtain⟨Vl,hV,h6,h5⟩:=top_two hvo hn2 lv;obtain⟨Wl,e4,h4,h3⟩:=top_three oW hn2 lW;rw[dW n (zu _),dW (n-1) (by omega),dW (n-2) (by omega)]at e4;have x1:=jaz (l:=U) (i:=i+n) (by omega);have x2:=jaz (l:=U) (i:=i+(n-1)) (by omega);have x3:=jaz (l:=U) (i:=i+(n-2)) (by omega);have y1:=jaz (l:=vL) (i:=n-1) (by omega);have y2:=jaz (l:=vL) (i:=n-2) (by omega);have g1:=oU.dgt (i+n);have g2:=oU.dgt (i+(n-1));have g3:=oU.dgt (i+(n-2));have o8:=hvo.dgt (n-1);have e5:=hvo.dgt (n-2);have b9:=jda (n-2);generalize (1048576:Int)^(n-2)=D at*;generalize dgt U (i+n)=w1 at*;generalize dgt U (i+(n-1))=w2 at*;generalize dgt U (i+(n-2))=w3 at*;generalize dgt vL (n-1)=v1 at*;generalize dgt vL (n-2)=v2 at*;have s1:=ja8 ((i:Int)+n);have s2:=ja8 ((i:Int)+n-1);have s3:=ja8 ((i:Int)+n-2);have s4:=ja8 ((n:Int)-2);have n1:((i:Int)+n).toNat=i+n:=by omega
 have n2:((i:Int)+n-1).toNat=i+(n-1):=by omega
 have n3:((i:Int)+n-2).toNat=i+(n-2):=by omega
 have n4:((n:Int)-2).toNat=n-2:=by omega
 have p1:(0:Int)<=(i:Int)+n:=by omega
 have p2:(0:Int)<=(i:Int)+n-1:=by omega
 have p3:(0:Int)<=(i:Int)+n-2:=by omega
 have p4:(0:Int)<=(n:Int)-2:=by omega
 have b1:(i:Int)+n<K:=by omega
 have b2:(i:Int)+n-1<K:=by omega
 have b3:(i:Int)+n-2<K:=by omega
 have u1:=ja8 (w1*1048576);have u2:=or20 w1 w2 (by omega) g2;generalize l3:w1*1048576+w2=top at*;have e0:0<=top/\top<1099511627776:=by omega
 have u3:IntKind.i64.wrap (top.tdiv v1)=top/v1:=by
  rw[yI e0.1];have:=jN e0.1 (by omega:0<=v1);have:=Int.ediv_le_self v1 e0.1;exact jdf (by omega)
 have u4:top.tmod v1=top % v1:=y8 e0.1;have v10:¬v1=0:=by omega
 have e8:top/v1*v1+top % v1=top:=by have:=qU top v1;rw[qX]at this;omega
 have l6:=j8 top v10;have l5:=jQ top (by omega:0<v1);have l0:=jN e0.1 (by omega:0<=v1);simp only[e1,hg,go_sem,ints,ic,mb20,pw20,fd20];refine jaf 16 ?_;simp only[e1,s1,s2,n1,n2,p1,p2,b1,b2,zq,x1,x2,u1,u2,go_sem,ints,ic,mb20,pw20,fd20];refine jaf 16 ?_;simp only[h7,h8,h9,zq,y1,v10,u3,u4,go_sem,ints,ic,mb20,pw20,fd20];refine jar [8,9,10,11,12,13,15,16] (fun g:Int×Int=>⟨[(8,.im (.int s)),(9,.im (.ref X 3 1 K)),(10,.im (.sl (vL.map ic))),(11,.im (.int n)),(12,.gsl 75 3 1 (K-n)),(13,.im (.int i)),(15,.im (.int g.1)),(16,.im (.int g.2))],
   [(75,1,q.map ic),(hp X,1,U.map ic)],[]⟩)
  (fun g=>g.1*v1+g.2=top/\0<=g.2/\0<=g.1/\val W<(g.1+1)*val vL) (fun g=>g.1.toNat) (top/v1,top % v1) ?_ ja5 rfl
  ⟨e8,l6,l0,knuth_first b9 hV h6 e5.1 e4 h3 g3.2 e8 l5 l0⟩ ?_
 ·simp only[go_sem,ints,ic,mb20,pw20,fd20]
 intro⟨g,r⟩ ⟨e7,l4,c6,k6⟩;dsimp only at e7 l4 c6 k6;have l8:g<=2097152:=by
  have:g*524288<=g*v1:=qz (by omega) c6;omega
 have o0:0<=g*v1:=qM c6 (by omega);have n9:0<=g*v2/\g*v2<=2097152*1048575:=⟨qM c6 e5.1,va l8 (by omega) e5.1 (by omega)⟩;have r1:=ja8 (g-1);have r2:=ja8 (r+v1);have r3:=ja8 (g*v2);have s5:=ja8 ((i:Int)+n+1);have n5:((i:Int)+n+1-i).toNat=n+1:=by omega
 have b5:(i:Int)<=(i:Int)+n+1:=by omega
 have b6:(i:Int)+n+1<=K:=by omega
 have b7:(i:Int)<((K-n:Nat):Int):=by omega
 have b8:i+(n+1)<=U.length:=by omega
 have xq:=jaz (l:=q) (i:=i) (by omega);have s6:=ja8 ((i:Int)-1);have down:val W<g*val vL->1<=g->(g-1)*v1+(r+v1)=top/\0<=r+v1/\0<=g-1/\val W<(g-1+1)*val vL:=fun h1 h2=>
  ⟨by rw[jU,yF];omega,by omega,by omega,by rw[Int.sub_add_cancel];exact h1⟩
 have next:∀P:Prop,P->P:=fun _ h=>h;by_cases k5:1048576<=g
 ·focus
   have d1:decide (1048576<=g)=true:=zp k5;have hd:=down (by
    have:1048576*val vL<=g*val vL:=qf k5 (by omega);omega) (by omega)
   simp only[go_sem,ints,ic,mb20,pw20,fd20];refine jaf 26 ?_;simp only[d1,h7,h8,h9,zq,y1,r1,r2,go_sem,ints,ic,mb20,pw20,fd20];refine jac (g-1,r+v1) ?_ ja5 rfl ?_ hd
   ·simp only[go_sem,ints,ic,mb20,pw20,fd20]
   ·show(g-1).toNat<g.toNat;omega
 have d1:decide (1048576<=g)=false:=zh k5;by_cases k9:r<1048576
 case pos=>
  have d2:decide (r<1048576)=true:=zp k9;have r4:=ja8 (r*1048576);have r5:=or20 r w3 (by omega) g3;by_cases c8:r*1048576+w3<g*v2
  ·focus
    have d3:decide (r*1048576+w3<g*v2)=true:=zp c8;have l9:1<=g:=by
     rcases yB g 1 with h | h
     ·have:g=0:=by omega
      subst this;rw[wx]at c8;omega
     ·exact h
    have hd:=down (knuth_down b9 hV h6 e4 h3 e7 c6 c8) l9;simp only[go_sem,ints,ic,mb20,pw20,fd20];refine jaf 26 ?_;simp only[d1,d2,d3,s1,s3,n3,n4,p3,p4,b3,s4,zq,x3,y2,r3,r4,r5,h7,h8,h9,y1,r1,r2,go_sem,ints,ic,mb20,pw20,fd20];refine jac (g-1,r+v1) ?_ ja5 rfl ?_ hd
    ·simp only[go_sem,ints,ic,mb20,pw20,fd20]
    ·show(g-1).toNat<g.toNat;omega
  ·focus
    have d3:decide (r*1048576+w3<g*v2)=false:=zh c8;have c7:=fun h1=>jn7 b9 hV h5 e4 h4 e7 h1 (by omega) (by omega) e5 g3.1 (.inr (by omega));simp only[go_sem,ints,ic,mb20,pw20,fd20];refine jaf 26 ?_;simp only[d1,d2,d3,s1,s3,n3,n4,p3,p4,b3,s4,zq,x3,y2,r3,r4,r5,s5,n5,b5,b6,go_sem,ints,ic,mb20,pw20,fd20];have hq:0<=val W-g*val vL\/0<=val W-(g-1)*val vL:=by
     rcases yB g 1 with h | h
     ·have h0:g=0:=by omega
      left;rw[h0,wx,jG];exact jam oW
     ·right;have:=c7 h;omega
    have a1:=jph X U W vL i n g oW hvo lW lv (by omega) (by omega) ⟨c6,by omega⟩ hq;obtain⟨b0,a8⟩:=jps a6 k6 hq;change jgz (val W) (val vL) g=val W/val vL at b0;change val W-jgz (val W) (val vL) g*val vL=val W % val vL at a8;rw[wW,a8,b0]at a1;rw[b0]at a8;have k8:=jN (jam oW) (by omega:0<=val vL);have k7:val W/val vL<1048576:=jY a6 l2;have e3:=j8 (val W) (by omega:val vL≠0);have c0:=jQ (val W) a6;have b4:=jip (lo:=val W/val vL) (by omega:i<q.length) hinv;have c5:=c3 i (by omega);rw[<-c5]at b4;have c4:dgt U i+1048576*val (U.drop (i+1))-val W/val vL*val vL=val W % val vL:=by omega
    rw[c4]at b4;obtain⟨Rm,hRm⟩:∃Rm:Nat,(Rm:Int)=val W % val vL:=⟨(val W % val vL).toNat,by omega⟩;rw[<-hRm]at a1 b4 e3 c0;rw[Int.toNat_natCast]at a1;have k0:(dig Rm).length<=n+1:=by
     have:(dig Rm).length<=n:=jb2 (by omega);omega
    have lP:=jo7 k0;have c9:val ((winL U i (padD (n+1) Rm)).drop i)=Rm:=by
     rw[jrt (by omega) (by rw[lP,<-lW];exact hz),pad_val]
    generalize val W/val vL=Q at*;have a7:(q.map ic).set i [.sc (.int .i64 Q)]=(q.set i Q).map ic:=by rw[qm];rfl
    simp only[ints]at a1;refine jaj a1 (by decide) rfl (jao jb6) (SubR_in (by rw[ja1 _ _ (e6 75 (by decide)).symm,ja2]) jc0) ?_;rintro _ _ ⟨rfl,rfl⟩ _;refine⟨[(75,1,q.map ic),_],Behind_pre [_] (fun p hp=>by rw[zF.1 hp];exact ja1 _ _ (e6 75 (by decide))),?_⟩;simp only[b7,zq,xq,a7,go_sem,ints,ic,mb20,pw20,fd20];refine jac (i,q.set i Q,winL U i (padD (n+1) Rm)) ?_ (SubR.of_eq ?_) rfl ?_ ⟨by show i<=K-n;omega,by show(q.set i Q).length=K-n;rw[qd];exact lq,oq.set ⟨k8,k7⟩,?_,winL_ok oU (pad_ok _ _),?_,?_,?_⟩
    ·simp only[s6,a7,go_sem,ints,ic,mb20,pw20,fd20]
    ·rfl
    ·show i<i+1;omega
    ·show(winL U i _).length=K;rw[jrw (by omega)];exact lU
    ·intro j hj;dsimp only at hj⊢;rw[jrv (by omega) hj];exact c3 j (by omega)
    ·dsimp only;rw[c9];exact c0
    ·dsimp only;rw[c9];exact b4
 case neg=>
  focus
   have d2:decide (r<1048576)=false:=zh k9;have c7:=fun h1=>jn7 b9 hV h5 e4 h4 e7 h1 (by omega) (by omega) e5 g3.1 (.inl (by omega));simp only[go_sem,ints,ic,mb20,pw20,fd20];refine jaf 26 ?_;simp only[d1,d2,s1,s5,n5,b5,b6,go_sem,ints,ic,mb20,pw20,fd20];have hq:0<=val W-g*val vL\/0<=val W-(g-1)*val vL:=by
    rcases yB g 1 with h | h
    ·have h0:g=0:=by omega
     left;rw[h0,wx,jG];exact jam oW
    ·right;have:=c7 h;omega
   have a1:=jph X U W vL i n g oW hvo lW lv (by omega) (by omega) ⟨c6,by omega⟩ hq;obtain⟨b0,a8⟩:=jps a6 k6 hq;change jgz (val W) (val vL) g=val W/val vL at b0;change val W-jgz (val W) (val vL) g*val vL=val W % val vL at a8;rw[wW,a8,b0]at a1;rw[b0]at a8;have k8:=jN (jam oW) (by omega:0<=val vL);have k7:val W/val vL<1048576:=jY a6 l2;have e3:=j8 (val W) (by omega:val vL≠0);have c0:=jQ (val W) a6;have b4:=jip (lo:=val W/val vL) (by omega:i<q.length) hinv;have c5:=c3 i (by omega);rw[<-c5]at b4;have c4:dgt U i+1048576*val (U.drop (i+1))-val W/val vL*val vL=val W % val vL:=by omega
   rw[c4]at b4;obtain⟨Rm,hRm⟩:∃Rm:Nat,(Rm:Int)=val W % val vL:=⟨(val W % val vL).toNat,by omega⟩;rw[<-hRm]at a1 b4 e3 c0;rw[Int.toNat_natCast]at a1;have k0:(dig Rm).length<=n+1:=by
    have:(dig Rm).length<=n:=jb2 (by omega);omega
   have lP:=jo7 k0;have c9:val ((winL U i (padD (n+1) Rm)).drop i)=Rm:=by
    rw[jrt (by omega) (by rw[lP,<-lW];exact hz),pad_val]
   generalize val W/val vL=Q at*;have a7:(q.map ic).set i [.sc (.int .i64 Q)]=(q.set i Q).map ic:=by rw[qm];rfl
   simp only[ints]at a1;refine jaj a1 (by decide) rfl (jao jb6) (SubR_in (by rw[ja1 _ _ (e6 75 (by decide)).symm,ja2]) jc0) ?_;rintro _ _ ⟨rfl,rfl⟩ _;refine⟨[(75,1,q.map ic),_],Behind_pre [_] (fun p hp=>by rw[zF.1 hp];exact ja1 _ _ (e6 75 (by decide))),?_⟩;simp only[b7,zq,xq,a7,go_sem,ints,ic,mb20,pw20,fd20];refine jac (i,q.set i Q,winL U i (padD (n+1) Rm)) ?_ (SubR.of_eq ?_) rfl ?_ ⟨by show i<=K-n;omega,by show(q.set i Q).length=K-n;rw[qd];exact lq,oq.set ⟨k8,k7⟩,?_,winL_ok oU (pad_ok _ _),?_,?_,?_⟩
   ·simp only[s6,a7,go_sem,ints,ic,mb20,pw20,fd20]
   ·rfl
   ·show i<i+1;omega
   ·show(winL U i _).length=K;rw[jrw (by omega)];exact lU
   ·intro j hj;dsimp only at hj⊢;rw[jrv (by omega) hj];exact c3 j (by omega)
   ·dsimp only;rw[c9];exact c0
   ·dsimp only;rw[c9];exact b4
