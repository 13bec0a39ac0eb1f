/- A part of the proof. No further condition. -/
import Derived.Test.YthahgoopboilkaaGreatKE12
set_option linter.all false
set_option maxRecDepth 10000000
set_option maxHeartbeats 16000000
namespace Go.Proofs.YthahgoopboilkaaGreat
section
open Go.Abs
structure DivS(x y s n K:Nat)(vL U0:List Int):Prop where
 hp2:0<s
 hs1:(s:Int)<1048576
 hn2:2<=n
 hnK:n+1<=K
 hKb:K<=50000000002
 lv:vL.length=n
 hvo:OkD vL
 hvv:val vL=((y*s:Nat):Int)
 hv1:524288<=dgt vL (n-1)
 lU0:U0.length=K
 oU0:OkD U0
 vU0:val U0=((x*s:Nat):Int)
 hrun0:val (U0.drop (K-n))<val vL
 hVB:(524288:Int)*1048576^(n-1)<=val vL
def SDiv(s n K:Nat)(vL U0:List Int):St:=⟨[(8,.im (.int s)),(9,.gsl 56 3 1 K),(10,.im (.sl (vL.map ic))),(11,.im (.int n)),(12,.gsl 75 3 1 (K-n))],[(75,1,(List.replicate (K-n) (0:Int)).map ic),(56,1,U0.map ic)],[]⟩
theorem t_pdivB{x y s n K:Nat}{vL U0:List Int}(h:DivS x y s n K vL U0){Q:Exit->St->Prop}(hQr:∀st,st.get 4= .im (.sl ((dig (x/y)).map ic))->st.get 5= .im (.sl ((dig (x % y)).map ic))->Q .ret st):
  awp G (tailN 9 (jbm Tryz.f143)) Q (SDiv s n K vL U0):=by
 obtain⟨hp2,hs1,hn2,hnK,hKb,lv,hvo,hvv,hv1,lU0,oU0,vU0,hrun0,hVB⟩:=h;have wn1:=ja9 (n:=(n:Int)-1) (by omega);have tn1:((n:Int)-1).toNat=n-1:=by omega
 have pn1:(0:Int)<=(n:Int)-1:=by omega
 have hVpos:0<val vL:=by have:=jdl (n-1);omega
 have hVlt:val vL<1048576^n:=by have:=jeh hvo;rw[lv]at this;exact this
 have wq:=ja9 (n:=((K-n:Nat):Int)-1) (by omega);unfold SDiv;refine tail_go rfl ?_;simp only[zw,zW,yR,wq,go_sem,ints,ic,mb20,pw20,fd20];refine jal [8,9,10,11,12,13] [75,56] (fun g:Nat×List Int×List Int=>⟨[(8,.im (.int s)),(9,.gsl 56 3 1 K),(10,.im (.sl (vL.map ic))),(11,.im (.int n)),(12,.gsl 75 3 1 (K-n)),(13,.im (.int ((g.1:Int)-1)))],
   [(75,1,g.2.1.map ic),(56,1,g.2.2.map ic)],[]⟩)
  (fun g=>g.1<=K-n/\g.2.1.length=K-n/\OkD g.2.1/\g.2.2.length=K/\OkD g.2.2/\(∀i,i<g.1->dgt g.2.2 i=dgt U0 i)/\val (g.2.2.drop g.1)<val vL/\val (U0.drop g.1)=val (g.2.1.drop g.1)*val vL+val (g.2.2.drop g.1))
  (fun g=>g.1) (K-n,List.replicate (K-n) 0,U0) ?_
  ⟨zB _,zW,OkD.replicate _,lU0,oU0,fun _ _=>rfl,hrun0,by
   dsimp only;rw[qw (l:=List.replicate (K-n) 0) (by rw[zW];exact zB _),show val []=0 from rfl,vF,jo]⟩ ?_
 ·simp only[yR,wq,go_sem,ints,ic,mb20,pw20,fd20]
 clear wq hnK;intro⟨m',q,U⟩ ⟨hm',lq,oq,lU,oU,hlow,hR,hinv⟩;dsimp only at hm' lq oq lU oU hlow hR hinv;rcases m' with _ | i
 ·as_aux_lemma=>
   have hg:decide ((0:Int)<=((0:Nat):Int)-1)=false:=by decide
   rw[zX,zX,zX,vU0]at hinv;rw[zX]at hR;obtain⟨e1,e2⟩:=jri hinv (jb0 oU) hR;rw[hvv,<-Int.natCast_ediv,Nat.mul_div_mul_right _ _ hp2]at e1;rw[hvv,<-Int.natCast_emod,Nat.mul_mod_mul_right]at e2;have t1:=jf4 U oU (by omega);rw[e2,Int.toNat_natCast]at t1;have t2:=t_short (dig (x % y*s)) s (jc3 _) (by omega) (by
    have:(dig (x % y*s)).length<=K:=by
     refine jc1 ?_;have:=jeh oU;rw[e2,lU]at this;exact this
    omega)
   rw[jb1,<-Int.natCast_ediv,Nat.mul_div_cancel _ hp2,Int.toNat_natCast]at t2;have t3:=jf4 q oq (by omega);rw[e1,Int.toNat_natCast]at t3;have k1:K<=U.length:=by omega
   have k2:(U.map ic).take K=U.map ic:=zt (by rw[zw];omega);have k3:K-n<=q.length:=by omega
   have k4:(q.map ic).take (K-n)=q.map ic:=zt (by rw[zw];omega);simp only[ints]at t1 t2 t3;simp only[hg,k1,k2,go_sem,ints,ic,mb20,pw20,fd20];refine ja1 t1 ?_;simp only[go_sem,ints,ic,mb20,pw20,fd20];refine ja1 t2 ?_;simp only[k3,k4,go_sem,ints,ic,mb20,pw20,fd20];refine ja1 t3 ?_;simp only[go_sem,ints,ic,mb20,pw20,fd20];exact hQr _ rfl rfl
 have e1:((i+1:Nat):Int)-1=i:=by omega
 have hg:decide ((0:Int)<=(i:Int))=true:=za (by omega);have hin:i+n<K:=by omega
 obtain⟨W,hW⟩:∃W,W=(U.drop i).take (n+1):=⟨_,rfl⟩;have lW:W.length=n+1:=by rw[hW,qi,y9];omega
 have oW:OkD W:=by rw[hW];exact(oU.drop i).take _
 have wW:winL U i W=U:=by rw[hW];exact winL_self (by omega)
 have dW:∀k,k<=n->dgt W k=dgt U (i+k):=fun k hk'=>by rw[hW];exact win_dgt (by omega)
 have hvd:=jcv U i;have hUi:=oU.dgt i;have hbig:val (U.drop i)<1048576^(n+1):=by
  have hpn:(1048576:Int)^(n+1)=1048576^n*1048576:=jdb n;have:=jb0 (oU.drop (i+1));omega
 have vW:val W=val (U.drop i):=by rw[hW];exact jiz (oU.drop i) hbig
 have hz:val (U.drop (i+W.length))=0:=by
  have:=jfb (oU.drop i) hbig;rw[vd]at this;rw[lW];exact this
 have hWV:val W<1048576*val vL:=by omega
 obtain⟨Vl,hV,hVl0,hVl1⟩:=top_two hvo hn2 lv;obtain⟨Wl,hWW,hWl0,hWl1⟩:=top_three oW hn2 lW;rw[dW n (zB _),dW (n-1) (by omega),dW (n-2) (by omega)]at hWW;have x1:=jb2 (l:=U) (i:=i+n) (by omega);have x2:=jb2 (l:=U) (i:=i+(n-1)) (by omega);have x3:=jb2 (l:=U) (i:=i+(n-2)) (by omega);have y1:=jb2 (l:=vL) (i:=n-1) (by omega);have y2:=jb2 (l:=vL) (i:=n-2) (by omega);have g1:=oU.dgt (i+n);have g2:=oU.dgt (i+(n-1));have g3:=oU.dgt (i+(n-2));have gv1:=hvo.dgt (n-1);have gv2:=hvo.dgt (n-2);have hDpos:=jdl (n-2);generalize (1048576:Int)^(n-2)=D at*;generalize dgt U (i+n)=w1 at*;generalize dgt U (i+(n-1))=w2 at*;generalize dgt U (i+(n-2))=w3 at*;generalize dgt vL (n-1)=v1 at*;generalize dgt vL (n-2)=v2 at*;have s1:=ja9 (n:=(i:Int)+n) (by omega);have s2:=ja9 (n:=(i:Int)+n-1) (by omega);have s3:=ja9 (n:=(i:Int)+n-2) (by omega);have s4:=ja9 (n:=(n:Int)-2) (by omega);have n1:((i:Int)+n).toNat=i+n:=by omega
 have n2:((i:Int)+n-1).toNat=i+(n-1):=by omega
 have n3:((i:Int)+n-2).toNat=i+(n-2):=by omega
 have n4:((n:Int)-2).toNat=n-2:=by omega
 have p1:(0:Int)<=(i:Int)+n:=by omega
 have p2:(0:Int)<=(i:Int)+n-1:=by omega
 have p3:(0:Int)<=(i:Int)+n-2:=by omega
 have p4:(0:Int)<=(n:Int)-2:=by omega
 have b1:(i:Int)+n<K:=by omega
 have b2:(i:Int)+n-1<K:=by omega
 have b3:(i:Int)+n-2<K:=by omega
 have u1:=ja9 (n:=w1*1048576) (by omega);have u2:=or20 w1 w2 (by omega) g2;generalize htop2:w1*1048576+w2=top at*;have ht0:0<=top/\top<1099511627776:=by omega
 have u3:IntKind.i64.wrap (top.tdiv v1)=top/v1:=by
  rw[v7 ht0.1];have:=jS ht0.1 (by omega:0<=v1);have:=Int.ediv_le_self v1 ht0.1;exact ja9 (by omega)
 have u4:top.tmod v1=top % v1:=v6 ht0.1;have v10:¬v1=0:=by omega
 have hdm0:top/v1*v1+top % v1=top:=by have:=qU top v1;rw[yE]at this;omega
 have hm0:=jR top v10;have hml:=jA top (by omega:0<v1);have hq0:=jS ht0.1 (by omega:0<=v1);simp only[e1,hg,go_sem,ints,ic,mb20,pw20,fd20];refine jac 16 ?_;simp only[e1,s1,s2,n1,n2,p1,p2,b1,b2,ze,x1,x2,u1,u2,go_sem,ints,ic,mb20,pw20,fd20];refine jac 16 ?_;simp only[wn1,tn1,pn1,ze,y1,v10,u3,u4,go_sem,ints,ic,mb20,pw20,fd20];refine jal [8,9,10,11,12,13,15,16] [75,56] (fun g:Int×Int=>⟨[(8,.im (.int s)),(9,.gsl 56 3 1 K),(10,.im (.sl (vL.map ic))),(11,.im (.int n)),(12,.gsl 75 3 1 (K-n)),(13,.im (.int i)),(15,.im (.int g.1)),(16,.im (.int g.2))],
   [(75,1,q.map ic),(56,1,U.map ic)],[]⟩)
  (fun g=>g.1*v1+g.2=top/\0<=g.2/\0<=g.1/\val W<(g.1+1)*val vL) (fun g=>g.1.toNat) (top/v1,top % v1) ?_
  ⟨hdm0,hm0,hq0,knuth_first hDpos hV hVl0 gv2.1 hWW hWl1 g3.2 hdm0 hml hq0⟩ ?_
 ·simp only[go_sem,ints,ic,mb20,pw20,fd20]
 intro⟨g,r⟩ ⟨hgt,hr0,hg0,hWg⟩;dsimp only at hgt hr0 hg0 hWg;have hgl:g<=2097152:=by
  have:g*524288<=g*v1:=qm (by omega) hg0;omega
 have hgv1:0<=g*v1:=qZ hg0 (by omega);have hgv2:0<=g*v2/\g*v2<=2097152*1048575:=⟨qZ hg0 gv2.1,jY hgl (by omega) gv2.1 (by omega)⟩;have r1:=ja9 (n:=g-1) (by omega);have r2:=ja9 (n:=r+v1) (by omega);have r3:=ja9 (n:=g*v2) (by omega);have s5:=ja9 (n:=(i:Int)+n+1) (by omega);have n5:((i:Int)+n+1-i).toNat=n+1:=by omega
 have b5:(i:Int)<=(i:Int)+n+1:=by omega
 have b6:(i:Int)+n+1<=K:=by omega
 have b7:(i:Int)<((K-n:Nat):Int):=by omega
 have b8:i+(n+1)<=U.length:=by omega
 have xq:=jb2 (l:=q) (i:=i) (by omega);have s6:=ja9 (n:=(i:Int)-1) (by omega);have down:val W<g*val vL->1<=g->(g-1)*v1+(r+v1)=top/\0<=r+v1/\0<=g-1/\val W<(g-1+1)*val vL:=fun h1 h2=>
  ⟨by rw[jN,yU];omega,by omega,by omega,by rw[Int.sub_add_cancel];exact h1⟩
 have next:∀P:Prop,P->P:=fun _ h=>h;by_cases hgB:1048576<=g
 ·as_aux_lemma=>
   have d1:decide (1048576<=g)=true:=za hgB;have hd:=down (by
    have:1048576*val vL<=g*val vL:=qF hgB (by omega);omega) (by omega)
   simp only[go_sem,ints,ic,mb20,pw20,fd20];refine jac 26 ?_;simp only[d1,wn1,tn1,pn1,ze,y1,r1,r2,go_sem,ints,ic,mb20,pw20,fd20];refine jab (g-1,r+v1) ?_ ?_ hd
   ·simp only[go_sem,ints,ic,mb20,pw20,fd20]
   ·show(g-1).toNat<g.toNat;omega
 have d1:decide (1048576<=g)=false:=zq hgB;by_cases hrB:r<1048576
 case pos=>
  have d2:decide (r<1048576)=true:=za hrB;have r4:=ja9 (n:=r*1048576) (by omega);have r5:=or20 r w3 (by omega) g3;by_cases hgt2:r*1048576+w3<g*v2
  ·as_aux_lemma=>
    have d3:decide (r*1048576+w3<g*v2)=true:=za hgt2;have hg1:1<=g:=by
     rcases yS g 1 with h | h
     ·have:g=0:=by omega
      subst this;rw[vF]at hgt2;omega
     ·exact h
    have hd:=down (knuth_down hDpos hV hVl0 hWW hWl1 hgt hg0 hgt2) hg1;simp only[go_sem,ints,ic,mb20,pw20,fd20];refine jac 26 ?_;simp only[d1,d2,d3,s1,s3,n3,n4,p3,p4,b3,s4,ze,x3,y2,r3,r4,r5,wn1,tn1,pn1,y1,r1,r2,go_sem,ints,ic,mb20,pw20,fd20];refine jab (g-1,r+v1) ?_ ?_ hd
    ·simp only[go_sem,ints,ic,mb20,pw20,fd20]
    ·show(g-1).toNat<g.toNat;omega
  ·as_aux_lemma=>
    have d3:decide (r*1048576+w3<g*v2)=false:=zq hgt2;have hexit:=fun h1=>jmr hDpos hV hVl1 hWW hWl0 hgt h1 (by omega) (by omega) gv2 g3.1 (.inr (by omega));simp only[go_sem,ints,ic,mb20,pw20,fd20];refine jac 26 ?_;simp only[d1,d2,d3,s1,s3,n3,n4,p3,p4,b3,s4,ze,x3,y2,r3,r4,r5,s5,n5,b5,b6,go_sem,ints,ic,mb20,pw20,fd20];have hq:0<=val W-g*val vL\/0<=val W-(g-1)*val vL:=by
     rcases yS g 1 with h | h
     ·have h0:g=0:=by omega
      left;rw[h0,vF,jp];exact jb0 oW
     ·right;have:=hexit h;omega
    have hset:=jr8 U W vL i n g oW hvo lW lv (by omega) (by omega) ⟨hg0,by omega⟩ hq;obtain⟨hse1,hse2⟩:=jp4 hVpos hWg hq;change jgq (val W) (val vL) g=val W/val vL at hse1;change val W-jgq (val W) (val vL) g*val vL=val W % val vL at hse2;rw[wW,hse2,hse1]at hset;rw[hse1]at hse2;have hQ0:=jS (jb0 oW) (by omega:0<=val vL);have hQ1:val W/val vL<1048576:=vb hVpos hWV;have hm0':=jR (val W) (by omega:val vL≠0);have hm1':=jA (val W) hVpos;have hos:=jku (lo:=val W/val vL) (by omega:i<q.length) hinv;have hlowi:=hlow i (by omega);rw[<-hlowi]at hos;have hrest:dgt U i+1048576*val (U.drop (i+1))-val W/val vL*val vL=val W % val vL:=by omega
    rw[hrest]at hos;obtain⟨Rm,hRm⟩:∃Rm:Nat,(Rm:Int)=val W % val vL:=⟨(val W % val vL).toNat,by omega⟩;rw[<-hRm]at hset hos hm0' hm1';rw[Int.toNat_natCast]at hset;have lRm:(dig Rm).length<=n+1:=by
     have:(dig Rm).length<=n:=jc1 (by omega);omega
    have lP:=jqi lRm;have hvU:val ((winL U i (padD (n+1) Rm)).drop i)=Rm:=by
     rw[jqz (by omega) (by rw[lP,<-lW];exact hz),pad_val]
    generalize val W/val vL=Q at*;have hsetq:(q.map ic).set i [.sc (.int .i64 Q)]=(q.set i Q).map ic:=by rw[qP];rfl
    simp only[ints]at hset;simp only[b8,go_sem,ints,ic,mb20,pw20,fd20];refine jm4 [(900,56)] (hset) (by decide) (by simp) (by simp[rnm,look]) (by repeat' (first | exact trivial | refine⟨rfl,?_⟩)) rfl rfl rfl rfl ?_ rfl;simp only[b7,ze,xq,hsetq,go_sem,ints,ic,mb20,pw20,fd20];refine jab (i,q.set i Q,winL U i (padD (n+1) Rm)) ?_ ?_ ⟨by show i<=K-n;omega,by show(q.set i Q).length=K-n;rw[qf];exact lq,oq.set ⟨hQ0,hQ1⟩,?_,winL_ok oU (pad_ok _ _),?_,?_,?_⟩
    ·simp only[s6,hsetq,go_sem,ints,ic,mb20,pw20,fd20]
    ·show i<i+1;omega
    ·show(winL U i _).length=K;rw[jr2 (by omega)];exact lU
    ·intro j hj;dsimp only at hj⊢;rw[jr1 (by omega) hj];exact hlow j (by omega)
    ·dsimp only;rw[hvU];exact hm1'
    ·dsimp only;rw[hvU];exact hos
 case neg=>
  as_aux_lemma=>
   have d2:decide (r<1048576)=false:=zq hrB;have hexit:=fun h1=>jmr hDpos hV hVl1 hWW hWl0 hgt h1 (by omega) (by omega) gv2 g3.1 (.inl (by omega));simp only[go_sem,ints,ic,mb20,pw20,fd20];refine jac 26 ?_;simp only[d1,d2,s1,s5,n5,b5,b6,go_sem,ints,ic,mb20,pw20,fd20];have hq:0<=val W-g*val vL\/0<=val W-(g-1)*val vL:=by
    rcases yS g 1 with h | h
    ·have h0:g=0:=by omega
     left;rw[h0,vF,jp];exact jb0 oW
    ·right;have:=hexit h;omega
   have hset:=jr8 U W vL i n g oW hvo lW lv (by omega) (by omega) ⟨hg0,by omega⟩ hq;obtain⟨hse1,hse2⟩:=jp4 hVpos hWg hq;change jgq (val W) (val vL) g=val W/val vL at hse1;change val W-jgq (val W) (val vL) g*val vL=val W % val vL at hse2;rw[wW,hse2,hse1]at hset;rw[hse1]at hse2;have hQ0:=jS (jb0 oW) (by omega:0<=val vL);have hQ1:val W/val vL<1048576:=vb hVpos hWV;have hm0':=jR (val W) (by omega:val vL≠0);have hm1':=jA (val W) hVpos;have hos:=jku (lo:=val W/val vL) (by omega:i<q.length) hinv;have hlowi:=hlow i (by omega);rw[<-hlowi]at hos;have hrest:dgt U i+1048576*val (U.drop (i+1))-val W/val vL*val vL=val W % val vL:=by omega
   rw[hrest]at hos;obtain⟨Rm,hRm⟩:∃Rm:Nat,(Rm:Int)=val W % val vL:=⟨(val W % val vL).toNat,by omega⟩;rw[<-hRm]at hset hos hm0' hm1';rw[Int.toNat_natCast]at hset;have lRm:(dig Rm).length<=n+1:=by
    have:(dig Rm).length<=n:=jc1 (by omega);omega
   have lP:=jqi lRm;have hvU:val ((winL U i (padD (n+1) Rm)).drop i)=Rm:=by
    rw[jqz (by omega) (by rw[lP,<-lW];exact hz),pad_val]
   generalize val W/val vL=Q at*;have hsetq:(q.map ic).set i [.sc (.int .i64 Q)]=(q.set i Q).map ic:=by rw[qP];rfl
   simp only[ints]at hset;simp only[b8,go_sem,ints,ic,mb20,pw20,fd20];refine jm4 [(900,56)] (hset) (by decide) (by simp) (by simp[rnm,look]) (by repeat' (first | exact trivial | refine⟨rfl,?_⟩)) rfl rfl rfl rfl ?_ rfl;simp only[b7,ze,xq,hsetq,go_sem,ints,ic,mb20,pw20,fd20];refine jab (i,q.set i Q,winL U i (padD (n+1) Rm)) ?_ ?_ ⟨by show i<=K-n;omega,by show(q.set i Q).length=K-n;rw[qf];exact lq,oq.set ⟨hQ0,hQ1⟩,?_,winL_ok oU (pad_ok _ _),?_,?_,?_⟩
   ·simp only[s6,hsetq,go_sem,ints,ic,mb20,pw20,fd20]
   ·show i<i+1;omega
   ·show(winL U i _).length=K;rw[jr2 (by omega)];exact lU
   ·intro j hj;dsimp only at hj⊢;rw[jr1 (by omega) hj];exact hlow j (by omega)
   ·dsimp only;rw[hvU];exact hm1'
   ·dsimp only;rw[hvU];exact hos
