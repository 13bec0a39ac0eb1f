/- A part of the proof. No further condition. -/
import Derived.Test.YtjcjcpebocbonaaGreatKZ26
set_option linter.all false
set_option maxRecDepth 10000000
set_option maxHeartbeats 16000000
namespace Go.Proofs.YtjcjcpebocbonaaGreat
section
set_option maxRecDepth 1000000
open Go.Abs
open Go.LP (Rw RT tsum)
attribute [local go_sem] ints ic big frac fc Evid.c Evid.iv Place.c Move.c Cert.c Recall.c Purity.c
theorem jkw{e:Evid}{M mv:Nat}{x:Move}:(jd5 e M mv x).length<=2:=by
 unfold jd5;split
 ·exact zG _
 ·split<;>simp
theorem jl7{e:Evid}{M:Nat}:∀i,(rowsU e M i).length<=i*(M+2+2*e.purs.length)
 | 0=>zG _
 | i+1=>by
  have ih:=jl7 (e:=e) (M:=M) i;rw[rowsU,jo];split
  ·rename_i x _;have h1:(moveR e M i x).length<=M+2+2*e.purs.length:=by
    unfold moveR;rw[zB,zB];have h2:(if binF e x=true then []else jeu M e.moves i x M).length<=M:=by
     split
     ·exact zG _
     ·rw[jg1];exact zu _
    have h3:(jd5 e M i x).length<=2:=by
     unfold jd5;split
     ·exact zG _
     ·split<;>simp
    have h4:=job (M:=M) (mv:=i) e.purs;omega
   rw[zB];omega
  ·omega
section
variable{e:Evid}{M:Nat}
theorem e_made(hc:jbb e=0)(hM:e.mats=(M:Int))(c8:e.moves.length<=10):
  CtrH G.P 117 [.im e.iv] [] (fun r L'=>∃(nm:MN) (os:List (List IV)),r= .loc (hp nm.d) 10 0 0/\HasM L' nm e (rowsE e) os):=by
 obtain⟨b6,c9,_⟩:=jay hc;obtain⟨l1,l2,l3,l4,l5,l6,l7,l8⟩:=jes b6;have c3:=jme hc;have b5:∀p∈e.purs,0<=p.least/\p.least<=1000/\0<=p.most/\p.most<=1000:=fun p hp=>by
  have:=purF_iff.1 (ji0 hc p hp);omega
 have c6:e.mats.toNat=M:=by omega
 have c0:rowsE e=rowsU e M e.moves.length:=by unfold rowsE;rw[c6]
 refine jap [8] [] [.tmp 2] Tryz.func117 ?_;simp only[go_sem];refine jgu (fun d hd=> ?_);clear hd;simp only[go_sem];have b7:HasM [(hp d,10,[e.c++[.emp,.emp]])] ⟨d,0,0⟩ e (rowsU e M 0) []:=⟨jao jb5,fun h=>absurd rfl h,fun h=>absurd rfl h,fun h=>absurd rfl h,rfl,(fun c hc=>by cases hc),(fun i w c h1 h2=>by simp at h2),ja2 _ _ _,fun h=>absurd rfl h,fun h=>absurd rfl h⟩;refine jar [1,3,10,11,12] (fun g:(Nat×MN×List (List IV))×Abs.Rows=>⟨[(1,.loc 1 8 0 0),(3,.loc (hp d) 10 0 0),(10,.im (.sl (e.moves.map Move.c))),(11,.im (.int e.moves.length)),(12,.im (.int g.1.1))],(1,8,[e.c])::g.2,[]⟩)
  (fun g=>g.1.1<=e.moves.length/\g.1.2.1.d=d/\HasM g.2 g.1.2.1 e (rowsU e M g.1.1) g.1.2.2) (fun g=>e.moves.length-g.1.1) ((0,_,_),_) ?_ ?_ rfl ⟨zG _,rfl,b7⟩ ?_
 ·simp only[Int.natCast_zero,go_sem]
 ·show SubR ((1,8,[e.c])::[(hp d,10,[e.c++[.emp,.emp]])]) [(hp d,10,[e.c++[.emp,.emp]]),(1,8,[e.c])];refine jc2 ?_ (jbi _ jba);rw[jd1,ja2]
 clear b7;rintro⟨⟨i,b9,b8⟩,R⟩ ⟨hi,b1,hR⟩;dsimp only at hi b1 hR;have bR:=hR.blk;have F1:=bB bR;rcases zT i e.moves.length with hlt | hlt
 ·have hd:decide ((i:Int)<e.moves.length)=true:=dTo;have h1:=ja8 ((i:Int)+1);obtain⟨x,hx⟩:=jcf (l:=e.moves) (i:=i) (by omega);obtain⟨⟨f1,f2⟩,_⟩:=c3 x (zk hx);obtain⟨pl,hpl⟩:∃pl,e.places[x.fr.toNat]? =some pl:=⟨_,zw (by omega)⟩;have a6:rowsU e M (i+1)=rowsU e M i++moveR e M i x:=by rw[rowsU,hx]
  have hlen:=jl7 (e:=e) (M:=M) i;have c4:(rowsU e M i).length<=4300:=by
   have h2:i*(M+2+2*e.purs.length)<=10*428:=yl (by omega) (by omega);omega
  have a7:binF e x=decide (pl.kind=0):=by unfold binF;rw[hpl];rfl
  rcases hk:decide (pl.kind=0)with _ | _
  ·simp only[hd,hx,f1,f2,hpl,hk,zq,za,F1,go_sem];have k1:=e_stock hR hM i x hx (by omega) (by omega) (by omega) (by omega) (a7.trans hk);rw[b1]at k1;refine jaj k1 (by decide) (by simp only[zt,zF,jb3];rfl) bR (ja6 (by decide) bR (ja6 (by decide) bR (SubR.refl _))) ?_;rintro _ L1 ⟨rfl,nm2,os2,hn2,hM2⟩ _;refine⟨(5,6,[x.c])::(1,8,[e.c])::L1,jbh [_,_] (jd7 bR (by simp)),?_⟩;have b0:=hM2.blk;have c7:=bB b0;simp only[c7,go_sem];have k2:=jt7 hM2 hM i x hx (by omega) (by omega) (by omega) (by rw[zB,jg1];omega) (by omega) (by omega) (by omega);rw[hn2]at k2;refine jaj k2 (by decide) (by simp only[zt,zF,jb3];rfl) b0 (ja6 (by decide) b0 (ja6 (by decide) b0 (SubR.refl _))) ?_;rintro _ L2 ⟨rfl,nm3,os3,hn3,hM3⟩ _;refine⟨(5,6,[x.c])::(1,8,[e.c])::L2,jbh [_,_] (jd7 b0 (by simp)),?_⟩;have a1:=hM3.blk;have b4:=bB a1;simp only[b4,go_sem];have k3:=e_pur hM3 hM i x hx (by omega) (by omega) (by rw[zB,zB,jg1];have:=jkw (e:=e) (M:=M) (mv:=i) (x:=x);omega) (by omega) b5;rw[hn3]at k3;refine jaj k3 (by decide) (by simp only[zt,zF,jb3];rfl) a1 (ja6 (by decide) a1 (ja6 (by decide) a1 (SubR.refl _))) ?_;rintro _ L3 ⟨rfl,nm4,os4,hn4,hM4⟩ _;refine⟨(5,6,[x.c])::(1,8,[e.c])::L3,jbh [_,_] (jd7 a1 (by simp)),?_⟩;have a8:=hM4.blk;have b3:=bB a8
   simp only[b3,go_sem];have b2:moveR e M i x=jeu M e.moves i x M++jd5 e M i x++purR M i e.purs:=by unfold moveR;rw[a7,hk,zl (by decide)]
   rw[b2]at a6;refine jac ((i+1,nm4,os4),L3) ?_ (jaw (by dsimp only;rw[ja1 _ _ (by decide)];exact jax a8 (by decide)) ja5) rfl (by show e.moves.length-(i+1)<e.moves.length-i;omega) ⟨hlt,hn4,by dsimp only;rw[a6,<-qe,<-qe];exact hM4⟩;simp only[h1,Int.natCast_add,go_sem]
  ·simp only[hd,hx,f1,f2,hpl,hk,zq,za,F1,go_sem];have k2:=jt7 hR hM i x hx (by omega) (by omega) (by omega) (by omega) (by omega) (by omega) (by omega);rw[b1]at k2;refine jaj k2 (by decide) (by simp only[zt,zF,jb3];rfl) bR (ja6 (by decide) bR (ja6 (by decide) bR (SubR.refl _))) ?_;rintro _ L2 ⟨rfl,nm3,os3,hn3,hM3⟩ _;refine⟨(5,6,[x.c])::(1,8,[e.c])::L2,jbh [_,_] (jd7 bR (by simp)),?_⟩;have a1:=hM3.blk;have b4:=bB a1;simp only[b4,go_sem];have k3:=e_pur hM3 hM i x hx (by omega) (by omega) (by rw[zB];have:=jkw (e:=e) (M:=M) (mv:=i) (x:=x);omega) (by omega) b5;rw[hn3]at k3;refine jaj k3 (by decide) (by simp only[zt,zF,jb3];rfl) a1 (ja6 (by decide) a1 (ja6 (by decide) a1 (SubR.refl _))) ?_;rintro _ L3 ⟨rfl,nm4,os4,hn4,hM4⟩ _;refine⟨(5,6,[x.c])::(1,8,[e.c])::L3,jbh [_,_] (jd7 a1 (by simp)),?_⟩;have a8:=hM4.blk;have b3:=bB a8;simp only[b3,go_sem];have b2:moveR e M i x=jd5 e M i x++purR M i e.purs:=by unfold moveR;rw[a7,hk,zh rfl,List.nil_append]
   rw[b2]at a6;refine jac ((i+1,nm4,os4),L3) ?_ (jaw (by dsimp only;rw[ja1 _ _ (by decide)];exact jax a8 (by decide)) ja5) rfl (by show e.moves.length-(i+1)<e.moves.length-i;omega) ⟨hlt,hn4,by dsimp only;rw[a6,<-qe];exact hM4⟩;simp only[h1,Int.natCast_add,go_sem]
 have hd:decide ((i:Int)<e.moves.length)=false:=dFo;have c5:i=e.moves.length:=by omega
 subst c5;simp only[hd,go_sem];refine jb1 R bR (ja6 (by decide) bR (SubR.refl _)) ?_;simp only[go_sem];refine⟨b9,b8,by rw[b1],?_⟩;rw[c0];exact hR
def sysIV(e:Evid):IV:=if jbb e=0 then .tup [.agg [.int ((e.moves.length*e.mats.toNat:Nat):Int),.sl ((rowsE e).map rwC)],.int 0]else .tup [.agg [.int 0,.sl []],.int (jbb e)]
theorem e_System(b2:jbb e=0->e.moves.length<=10):Ctr G.P 89 [e.iv] (· =sysIV e):=by
 have a8:=c21 e;unfold sysIV;by_cases hc:jbb e=0
 ·obtain⟨b1,b6,_⟩:=jay hc;obtain⟨l1,l2,l3,l4,l5,l6,l7,l8⟩:=jes b1;obtain⟨M,hM⟩:∃M:Nat,e.mats=(M:Int):=⟨e.mats.toNat,by omega⟩;have b3:e.mats.toNat=M:=by omega
  have a7:=b2 hc;have km:=e_made hc hM a7;rw[zh hc,b3];rw[hc]at a8;have b5:e.moves.length*M<=10*6:=yl a7 (by omega);have w1:IntKind.i64.wrap ((e.moves.length:Int)*e.mats)=((e.moves.length*M:Nat):Int):=by
   rw[hM,<-Int.natCast_mul];exact jdi (by omega)
  refine jgo (φ:=fun r L'=>∃(y:IV) (bs:List Nat),r= .im y/\frzL bs y L'= .tup [.agg [.int ((e.moves.length*M:Nat):Int),.sl ((rowsE e).map rwC)],.int 0]) ?_ (fun r L' ⟨y,bs,h1,h2⟩=>⟨y,bs,h1,h2⟩);simp only[zt,zF];refine jap [] [] [.cell 2 159,.tmp 3] Tryz.func89 ?_;simp only[go_sem];refine ja0 a8 ?_;simp only[go_sem];refine jku [false,false,false,false,false,false,false,true,true,true,true] [(1,8,[e.c])] (by decide+kernel) (by decide+kernel) ?_ ?_
  ·exact jaw rfl ja5
  simp only[w1,za,go_sem];refine je8 km (by decide) (by simp only[zt,zF,qr];rfl) jb5 jba ?_;rintro _ L1 ⟨nm,os,rfl,hH⟩ _;refine⟨(2,2,[[.int 0,.emp]])::(1,8,[e.c])::L1,Behind_pre1 (pre:=[_,_]),?_⟩;have b4:=hH.blk;have F1:=bB b4;have n2:∀k,(2 !=hp k)=true:=fun k=>by simp only[qh,ne_eq];exact hp_ne (by decide)
  have n1:∀k,(1 !=hp k)=true:=fun k=>by simp only[qh,ne_eq];exact hp_ne (by decide)
  have a6:=hH.hd;have a1:SubR [(1,8,[e.c])] ((2,2,[[.int 0,.emp]])::(1,8,[e.c])::L1):=jaw rfl (jb0 (ja2 _ _ _));unfold Evid.c at a6 a1;have bn:∀k,¬(2=hp k)/\¬(1=hp k):=fun k=>⟨hp_ne (by decide),hp_ne (by decide)⟩;rcases yM (rowsE e).length with h0 | h0
  ·rw[h0,jbc,jbc]at a6;rw[qY.1 h0];simp only[a6,F1,n1,n2,go_sem];refine⟨a1,a1,a1,a1,?_⟩;refine jbm ?_;simp only[go_sem];refine⟨_,[nm.d],rfl,?_⟩;rw[jdr (s:=10) (by rw[jas,jae,jae];exact a6),jfl];simp only[frz3,frz2,frz1,zt,zF]
  ·have b0:=hH.hr (by omega);rw[jal (by omega),jal (by omega)]at a6;simp only[a6,b0,F1,n1,n2,go_sem];refine⟨a1,a1,a1,a1,?_⟩;refine jbm ?_;simp only[go_sem];refine⟨_,[nm.r],rfl,?_⟩;rw[jdr (s:=6) (by rw[jas,jae,jae];exact b0),jfl];have e1:(List.take (rowsE e).length ((rowsE e).map rwC))=(rowsE e).map rwC:=zY (by rw[za];exact zu _);simp only[frz3,frz2,frz1,zt,zF,za,zu,vq,qA,e1]
 ·rw[zl hc];generalize jbb e=k at*;have hk:decide (k=0)=false:=ze hc;refine ja4 [.cell 2 159,.tmp 3] Tryz.func89 ?_;unfold Evid.iv Evid.c at*;simp only[go_sem];refine ja0 a8 ?_;simp only[hk,go_sem]
end
end
section
set_option maxRecDepth 1000000
open Go.Abs
open Go.LP (Dic Eqv SameV Rule Final Own Free)
attribute [local go_sem] ints ic big frac fc
theorem nneg{a:Rat}(h:¬a<0):0<=a:=by grind
theorem npos{a:Rat}(h:¬0<a):a<=0:=by grind
section
variable{L:Abs.Rows}{nm:DN}{N:Nat}{D:Dic}{src:Nat->Int×Bool}
theorem x_search_main(h:HasD L nm N D src)(hD:D.Ok)(l1:D.m≠0)(l0:D.n≠0)(hm:D.m<=100000)(hn:D.n<=100000)(K:Nat)(hK:K<=1000000)(hv:∀k,(Own D k\/Free D k)->k<K)
  (sm:∀E:Dic,E.Ok->Eqv D E->SameV D E->E.m=D.m->E.n=D.n->SmD E):
  CtrH G.P 140 [.im (.pr nm.d 6 0 0)] L (fun x L'=>∃(E:Dic) (row k6:Int),x= .im (.tup [.int row,.int k6])/\HasD L' nm N E src/\(∃T,LP.Reach D T E)/\Final E row k6):=by
 have hb:=h.blk;have F1:=bB hb;refine jap [] [] [.tmp 2,.tmp 3] Tryz.func140 ?_;simp only[F1,go_sem];refine jjz 1 ?_;simp only[F1,go_sem];refine jar [1] (fun g:(Nat×Dic)×Abs.Rows=>⟨[(1,.im (.ip [.pr nm.d 6 0 0] 0))],g.2,[]⟩)
  (fun g=>LP.Reach D g.1.1 g.1.2/\HasD g.2 nm N g.1.2 src) (fun g=>2^K-g.1.1) ((0,D),L) ?_ ?_ rfl ⟨.zero hD,h⟩ ?_
 ·simp only[go_sem]
 ·exact ja5
 clear F1 hb h;rintro⟨⟨T,E⟩,M⟩ ⟨hR,H⟩;dsimp only at hR H;obtain⟨hE,hq,h7,k9,k8⟩:=hR.facts;have hT:=hR.bound hv;have e8:=sm E hE hq h7 k9 k8;have b4:E.m≠0:=by omega
 have b9:E.n≠0:=by omega
 have F2:=bB H.blk;have ho:∀i,i<E.m->E.own i<=1000000:=fun i hi=>by have:=hv _ ((h7 _).2 (.inl ⟨i,hi,rfl⟩));omega
 have hf:∀i,i<E.n->E.free i<=1000000:=fun i hi=>by have:=hv _ ((h7 _).2 (.inr ⟨i,hi,rfl⟩));omega
 have c0:=H.hd;have c1:=H.ho b4;have c2:=H.hf b9;rw[jal b4,jal b4,jal b9,jal b4]at c0;have k1:=jge M nm.o E.m E.own (fun i=>decide (E.v i<0)) 174 [.ip [.pr nm.d 6 0 0] 0] (by decide) H.blk H.ho (by omega) ho (fun i hi=>x_c1 H hi);have k2:=jge M nm.f E.n E.free (fun j=>decide (0<E.g j)) 175 [.ip [.pr nm.d 6 0 0] 0] (by decide) H.blk H.hf (by omega) hf (fun i hi=>x_c2 H hi);rw[jal b4]at k1;rw[jal b9]at k2;have lr:=jdq E.own (fun i=>decide (E.v i<0)) E.m;have ls:=jdq E.free (fun j=>decide (0<E.g j)) E.n;have k5:=jd4 (vars:=E.own) (ch:=fun i=>decide (E.v i<0)) (k:=E.m);have k0:=jd4 (vars:=E.free) (ch:=fun j=>decide (0<E.g j)) (k:=E.n);have k7:=jdk (vars:=E.own) (ch:=fun i=>decide (E.v i<0)) (k:=E.m);have h9:=jdk (vars:=E.free) (ch:=fun j=>decide (0<E.g j)) (k:=E.n);generalize jbv E.own (fun i=>decide (E.v i<0)) E.m=r0 at*;generalize jbv E.free (fun j=>decide (0<E.g j)) E.n=s0 at*;simp only[c0,c1,c2,F2,go_sem];refine jaj k1 (by decide) rfl H.blk ja5 ?_;rintro _ _ ⟨rfl,rfl⟩ _;refine⟨_,jb9,?_⟩;simp only[c0,c1,c2,F2,go_sem];refine jaj k2 (by decide) rfl H.blk (ja6 (by decide) H.blk ja5) ?_;rintro _ L' ⟨rfl,rfl⟩ _;refine⟨(4,1,[[.int r0]])::L',Behind_pre [_] (by intro p hp;rw[zE.1 hp];exact jax H.blk (by dsimp only;decide)),?_⟩;by_cases e9:r0<0
 ·have b5:decide (r0<0)=true:=zp e9;by_cases c4:s0<0
  ·have b0:decide (s0<0)=true:=zp c4;simp only[b5,b0,c0,c1,c2,F2,go_sem];refine jb1 L' H.blk (ja6 (by decide) H.blk (ja6 (by decide) H.blk ja5)) ?_;simp only[go_sem];exact⟨E,-1,-1,rfl,H,⟨T,hR⟩,.best (fun i hi=>nneg (zJ (k5 e9 i hi))) fun j hj=>npos (zJ (k0 c4 j hj))⟩
  ·have b0:decide (s0<0)=false:=ze c4;have c8:decide (0<=r0)=false:=dFo;obtain⟨s,rfl⟩:∃s:Nat,s0=s:=⟨s0.toNat,by omega⟩;obtain⟨e0,c9⟩:=h9 (by omega);rw[Int.toNat_natCast]at e0 c9;have a6:s<E.n:=by omega
   have e2:0<E.g s:=zI e0;have e1:∀j,j<E.n->0<E.g j->E.free s<=E.free j:=fun j hj hg=>c9 j hj (zp hg);have e3:∀i,i<E.m->E.v i<0->E.free s<E.own i:=fun i hi hv=>by have:=zJ (k5 e9 i hi);exact absurd hv this
   simp only[b5,b0,c0,c1,c2,F2,go_sem];refine jaf 24 ?_;simp only[b5,b0,c8,c0,c1,c2,F2,go_sem];have k3:=jge L' nm.o E.m E.own (fun i=>decide (0<E.a i s)) 177 [.ip [.pr nm.d 6 0 0] 0,.ip [.int (s:Int)] 0] (by decide) H.blk H.ho (by omega) ho (fun i hi=>x_c4 H a6 hi);rw[jal b4]at k3;have la:=jdq E.own (fun i=>decide (0<E.a i s)) E.m;have lb:=jd4 (vars:=E.own) (ch:=fun i=>decide (0<E.a i s)) (k:=E.m);have lc:=jdk (vars:=E.own) (ch:=fun i=>decide (0<E.a i s)) (k:=E.m);generalize jbv E.own (fun i=>decide (0<E.a i s)) E.m=r1 at*;refine jaj k3 (by decide) rfl H.blk (ja6 (by decide) H.blk ja5) ?_;rintro _ L1 ⟨rfl,rfl⟩ _;refine⟨(4,1,[[.int r0]])::L1,Behind_pre [_] (by intro p hp;rw[zE.1 hp];exact jax H.blk (by dsimp only;decide)),?_⟩;by_cases hs1:r1<0
   ·have a8:decide (r1<0)=true:=zp hs1;simp only[a8,c0,c1,c2,F2,go_sem];refine jaf 3 ?_;simp only[a8,c0,c1,c2,F2,go_sem];refine jb1 L1 H.blk (ja6 (by decide) H.blk ja5) ?_;simp only[go_sem];exact⟨E,-1,s,rfl,H,⟨T,hR⟩,.free s a6 e2 e1 e3 fun i hi=>npos (zJ (lb hs1 i hi))⟩
   ·have a8:decide (r1<0)=false:=ze hs1;obtain⟨r,rfl⟩:∃r:Nat,r1=r:=⟨r1.toNat,by omega⟩;obtain⟨b2,b1⟩:=lc (by omega);rw[Int.toNat_natCast]at b2 b1;have a7:r<E.m:=by omega
    have c3:0<E.a r s:=zI b2;have a1:Rule E r s:=⟨a7,a6,.inr ⟨e2,e1,e3,c3,fun i hi ha=>b1 i hi (zp ha)⟩⟩;have b6:=hR.step a1;obtain⟨c6,c5,b3,b8,b7⟩:=b6.facts;have k4:=jho H a7 a6 a1.ne (by omega) (by omega) e8 (sm _ c6 c5 b3 b8 b7);simp only[a8,c0,c1,c2,F2,go_sem];refine jaj k4 (by decide) rfl H.blk (ja6 (by decide) H.blk ja5) ?_;rintro _ L2 ⟨rfl,H2⟩ _;refine⟨L2,jb9,?_⟩;have F3:=bF H2.blk;simp only[F3,go_sem];refine jac ((T+1,E.pivot r s),L2) ?_ ja5 rfl ?_ ⟨b6,H2⟩
    ·simp only[go_sem]
    ·show 2^K-(T+1)<2^K-T;omega
 ·have b5:decide (r0<0)=false:=ze e9;have c8:decide (0<=r0)=true:=dTo;obtain⟨r,rfl⟩:∃r:Nat,r0=r:=⟨r0.toNat,by omega⟩;obtain⟨e0,c9⟩:=k7 (by omega);rw[Int.toNat_natCast]at e0 c9;have a7:r<E.m:=by omega
  have e5:(r:Int)<E.m:=by omega
  have e7:(0:Int)<=r:=by omega
  have e4:E.v r<0:=zI e0;have c7:∀i,i<E.m->E.v i<0->E.own r<=E.own i:=fun i hi hv=>c9 i hi (zp hv);have og:=oget (o:=E.own) a7;by_cases c4:s0<0
  ·have b0:decide (s0<0)=true:=zp c4;have e6:∀j,j<E.n->0<E.g j->E.own r<E.free j:=fun j hj hg=>absurd hg (zJ (k0 c4 j hj));simp only[b5,b0,c0,c1,c2,F2,go_sem];refine jaf 24 ?_;simp only[b5,b0,c8,c0,c1,c2,F2,go_sem];have k3:=jge L' nm.f E.n E.free (fun j=>decide (E.a r j<0)) 176 [.ip [.pr nm.d 6 0 0] 0,.ip [.int (r:Int)] 0] (by decide) H.blk H.hf (by omega) hf (fun j hj=>x_c3 H a7 hj);rw[jal b9]at k3;have la:=jdq E.free (fun j=>decide (E.a r j<0)) E.n;have lb:=jd4 (vars:=E.free) (ch:=fun j=>decide (E.a r j<0)) (k:=E.n);have lc:=jdk (vars:=E.free) (ch:=fun j=>decide (E.a r j<0)) (k:=E.n);generalize jbv E.free (fun j=>decide (E.a r j<0)) E.n=s1 at*;refine jaj k3 (by decide) rfl H.blk (ja6 (by decide) H.blk ja5) ?_;rintro _ L1 ⟨rfl,rfl⟩ _;refine⟨(5,1,[[.int s0]])::L1,Behind_pre [_] (by intro p hp;rw[zE.1 hp];exact jax H.blk (by dsimp only;decide)),?_⟩;by_cases hs1:s1<0
   ·have a8:decide (s1<0)=true:=zp hs1;simp only[a8,c0,c1,c2,F2,go_sem];refine jb1 L1 H.blk (ja6 (by decide) H.blk ja5) ?_;simp only[go_sem];exact⟨E,r,-1,rfl,H,⟨T,hR⟩,.none r a7 e4 c7 e6 fun j hj=>nneg (zJ (lb hs1 j hj))⟩
   ·have a8:decide (s1<0)=false:=ze hs1;obtain⟨s,rfl⟩:∃s:Nat,s1=s:=⟨s1.toNat,by omega⟩;obtain⟨b2,b1⟩:=lc (by omega);rw[Int.toNat_natCast]at b2 b1;have a6:s<E.n:=by omega
    have c3:E.a r s<0:=zI b2;have a1:Rule E r s:=⟨a7,a6,.inl ⟨e4,c7,e6,c3,fun j hj ha=>b1 j hj (zp ha)⟩⟩;have b6:=hR.step a1;obtain⟨c6,c5,b3,b8,b7⟩:=b6.facts;have k4:=jho H a7 a6 a1.ne (by omega) (by omega) e8 (sm _ c6 c5 b3 b8 b7);simp only[a8,c0,c1,c2,F2,go_sem];refine jaj k4 (by decide) rfl H.blk (ja6 (by decide) H.blk ja5) ?_;rintro _ L2 ⟨rfl,H2⟩ _;refine⟨L2,jb9,?_⟩;have F3:=bF H2.blk;simp only[F3,go_sem];refine jac ((T+1,E.pivot r s),L2) ?_ ja5 rfl ?_ ⟨b6,H2⟩
    ·simp only[go_sem]
    ·show 2^K-(T+1)<2^K-T;omega
  ·have b0:decide (s0<0)=false:=ze c4;obtain⟨s,rfl⟩:∃s:Nat,s0=s:=⟨s0.toNat,by omega⟩;obtain⟨h8,h6⟩:=h9 (by omega);rw[Int.toNat_natCast]at h8 h6;have a6:s<E.n:=by omega
   have h4:(s:Int)<E.n:=by omega
   have h5:(0:Int)<=s:=by omega
   have fg:=oget (o:=E.free) a6;by_cases l2:E.own r<E.free s
   ·have h0:decide ((E.own r:Int)<E.free s)=true:=dTo;have e6:∀j,j<E.n->0<E.g j->E.own r<E.free j:=fun j hj hg=>by have:=h6 j hj (zp hg);omega
    simp only[b5,b0,c0,c1,c2,F2,go_sem];refine jaf 24 ?_;simp only[b5,b0,c8,h0,c0,c1,c2,og,fg,e5,e7,h4,h5,jad,Int.toNat_natCast,F2,go_sem];obtain⟨s0,hs0e⟩:∃s0:Int,s0=s:=⟨_,rfl⟩;rw[<-hs0e];have k3:=jge L' nm.f E.n E.free (fun j=>decide (E.a r j<0)) 176 [.ip [.pr nm.d 6 0 0] 0,.ip [.int (r:Int)] 0] (by decide) H.blk H.hf (by omega) hf (fun j hj=>x_c3 H a7 hj);rw[jal b9]at k3;have la:=jdq E.free (fun j=>decide (E.a r j<0)) E.n;have lb:=jd4 (vars:=E.free) (ch:=fun j=>decide (E.a r j<0)) (k:=E.n);have lc:=jdk (vars:=E.free) (ch:=fun j=>decide (E.a r j<0)) (k:=E.n);generalize jbv E.free (fun j=>decide (E.a r j<0)) E.n=s1 at*;refine jaj k3 (by decide) rfl H.blk (ja6 (by decide) H.blk ja5) ?_;rintro _ L1 ⟨rfl,rfl⟩ _;refine⟨(5,1,[[.int s0]])::L1,Behind_pre [_] (by intro p hp;rw[zE.1 hp];exact jax H.blk (by dsimp only;decide)),?_⟩;by_cases hs1:s1<0
    ·have a8:decide (s1<0)=true:=zp hs1;simp only[a8,c0,c1,c2,F2,go_sem];refine jb1 L1 H.blk (ja6 (by decide) H.blk ja5) ?_;simp only[go_sem];exact⟨E,r,-1,rfl,H,⟨T,hR⟩,.none r a7 e4 c7 e6 fun j hj=>nneg (zJ (lb hs1 j hj))⟩
    ·have a8:decide (s1<0)=false:=ze hs1;obtain⟨s,rfl⟩:∃s:Nat,s1=s:=⟨s1.toNat,by omega⟩;obtain⟨b2,b1⟩:=lc (by omega);rw[Int.toNat_natCast]at b2 b1;have a6:s<E.n:=by omega
     have c3:E.a r s<0:=zI b2;have a1:Rule E r s:=⟨a7,a6,.inl ⟨e4,c7,e6,c3,fun j hj ha=>b1 j hj (zp ha)⟩⟩;have b6:=hR.step a1;obtain⟨c6,c5,b3,b8,b7⟩:=b6.facts;have k4:=jho H a7 a6 a1.ne (by omega) (by omega) e8 (sm _ c6 c5 b3 b8 b7);simp only[a8,c0,c1,c2,F2,go_sem];refine jaj k4 (by decide) rfl H.blk (ja6 (by decide) H.blk ja5) ?_;rintro _ L2 ⟨rfl,H2⟩ _;refine⟨L2,jb9,?_⟩;have F3:=bF H2.blk;simp only[F3,go_sem];refine jac ((T+1,E.pivot r s),L2) ?_ ja5 rfl ?_ ⟨b6,H2⟩
     ·simp only[go_sem]
     ·show 2^K-(T+1)<2^K-T;omega
   ·have h0:decide ((E.own r:Int)<E.free s)=false:=dFo;have e2:0<E.g s:=zI h8;have e1:∀j,j<E.n->0<E.g j->E.free s<=E.free j:=fun j hj hg=>h6 j hj (zp hg);have e3:∀i,i<E.m->E.v i<0->E.free s<E.own i:=fun i hi hv=>by
     have h1:=c7 i hi hv;have h2:=hE.apart i s hi a6;have h3:=hE.apart r s a7 a6;omega
    simp only[b5,b0,c0,c1,c2,F2,go_sem];refine jaf 24 ?_;simp only[b5,b0,c8,h0,c0,c1,c2,og,fg,e5,e7,h4,h5,jad,Int.toNat_natCast,F2,go_sem];obtain⟨r0,hr0e⟩:∃r0:Int,r0=r:=⟨_,rfl⟩;rw[<-hr0e];clear a7 e5 e4 c7 og e7 b5 c8 h0 hr0e;have k3:=jge L' nm.o E.m E.own (fun i=>decide (0<E.a i s)) 177 [.ip [.pr nm.d 6 0 0] 0,.ip [.int (s:Int)] 0] (by decide) H.blk H.ho (by omega) ho (fun i hi=>x_c4 H a6 hi);rw[jal b4]at k3;have la:=jdq E.own (fun i=>decide (0<E.a i s)) E.m;have lb:=jd4 (vars:=E.own) (ch:=fun i=>decide (0<E.a i s)) (k:=E.m);have lc:=jdk (vars:=E.own) (ch:=fun i=>decide (0<E.a i s)) (k:=E.m);generalize jbv E.own (fun i=>decide (0<E.a i s)) E.m=r1 at*;refine jaj k3 (by decide) rfl H.blk (ja6 (by decide) H.blk ja5) ?_;rintro _ L1 ⟨rfl,rfl⟩ _;refine⟨(4,1,[[.int r0]])::L1,Behind_pre [_] (by intro p hp;rw[zE.1 hp];exact jax H.blk (by dsimp only;decide)),?_⟩;by_cases hs1:r1<0
    ·have a8:decide (r1<0)=true:=zp hs1;simp only[a8,c0,c1,c2,F2,go_sem];refine jaf 3 ?_;simp only[a8,c0,c1,c2,F2,go_sem];refine jb1 L1 H.blk (ja6 (by decide) H.blk ja5) ?_;simp only[go_sem];exact⟨E,-1,s,rfl,H,⟨T,hR⟩,.free s a6 e2 e1 e3 fun i hi=>npos (zJ (lb hs1 i hi))⟩
    ·have a8:decide (r1<0)=false:=ze hs1;obtain⟨r,rfl⟩:∃r:Nat,r1=r:=⟨r1.toNat,by omega⟩;obtain⟨b2,b1⟩:=lc (by omega);rw[Int.toNat_natCast]at b2 b1;have a7:r<E.m:=by omega
     have c3:0<E.a r s:=zI b2;have a1:Rule E r s:=⟨a7,a6,.inr ⟨e2,e1,e3,c3,fun i hi ha=>b1 i hi (zp ha)⟩⟩;have b6:=hR.step a1;obtain⟨c6,c5,b3,b8,b7⟩:=b6.facts;have k4:=jho H a7 a6 a1.ne (by omega) (by omega) e8 (sm _ c6 c5 b3 b8 b7);simp only[a8,c0,c1,c2,F2,go_sem];refine jaj k4 (by decide) rfl H.blk (ja6 (by decide) H.blk ja5) ?_;rintro _ L2 ⟨rfl,H2⟩ _;refine⟨L2,jb9,?_⟩;have F3:=bF H2.blk;simp only[F3,go_sem];refine jac ((T+1,E.pivot r s),L2) ?_ ja5 rfl ?_ ⟨b6,H2⟩
     ·simp only[go_sem]
     ·show 2^K-(T+1)<2^K-T;omega
end
end
section
set_option maxRecDepth 1000000
open Go.Abs
open Go.LP (Dic Eqv SameV Rule Final Own Free)
attribute [local go_sem] ints ic big frac fc
section
variable{L:Abs.Rows}{nm:DN}{N:Nat}{D:Dic}{src:Nat->Int×Bool}
theorem x_search_empty(h:HasD L nm N D src)(hD:D.Ok)(b4:D.m=0)(hn:D.n<=100000)(K:Nat)(hK:K<=1000000)(hv:∀k,(Own D k\/Free D k)->k<K):
  CtrH G.P 140 [.im (.pr nm.d 6 0 0)] L (fun x L'=>∃(E:Dic) (row a8:Int),x= .im (.tup [.int row,.int a8])/\HasD L' nm N E src/\(∃T,LP.Reach D T E)/\Final E row a8):=by
 have hb:=h.blk;have F1:=bB hb;have hf:∀i,i<D.n->D.free i<=1000000:=fun i hi=>by have:=hv _ (.inr ⟨i,hi,rfl⟩);omega
 have c0:=h.hd;rw[b4,jbc,jbc,jbc]at c0;have k1:=jge L nm.o 0 D.own (fun i=>decide (D.v i<0)) 174 [.ip [.pr nm.d 6 0 0] 0] (by decide) hb (fun h=>absurd rfl h) (by omega) (fun i hi=>absurd hi (by omega)) (fun i hi=>absurd hi (by omega));have k2:=jge L nm.f D.n D.free (fun j=>decide (0<D.g j)) 175 [.ip [.pr nm.d 6 0 0] 0] (by decide) hb h.hf (by omega) hf (fun i hi=>x_c2 h hi);rw[jbc]at k1;rcases yM D.n with hn0 | hn0
 ·rw[hn0,jbc]at c0 k2;refine jap [] [] [.tmp 2,.tmp 3] Tryz.func140 ?_;simp only[F1,go_sem];refine jjz 1 ?_;simp only[F1,go_sem];refine jar [1] (fun g:Unit=>⟨[(1,.im (.ip [.pr nm.d 6 0 0] 0))],L,[]⟩) (fun g=>True) (fun g=>0) () ?_ ja5 rfl trivial ?_
  ·simp only[go_sem]
  intro _ _;simp only[c0,F1,go_sem];refine jcw k1 (by decide) rfl hb ja5 ?_;rintro _ _ ⟨rfl,rfl⟩ _;refine⟨_,jb9,?_⟩;simp only[c0,jbv,F1,go_sem];refine jcw k2 (by decide) rfl h.blk ?_ ?_
  ·simp only[F1,go_sem];exact ja6 (by decide) h.blk ja5
  rintro _ L' ⟨rfl,rfl⟩ _;refine⟨(4,1,[[.int (-1)]])::L',?_,?_⟩
  ·simp only[F1,go_sem];exact Behind_pre [(4,1,[[.int (-1)]])] (by intro p hp;rw[zE.1 hp];exact jax h.blk (by dsimp only;decide))
  simp only[c0,jbv,F1,go_sem];refine jb1 L' h.blk (ja6 (by decide) h.blk (ja6 (by decide) h.blk ja5)) ?_;simp only[go_sem];exact⟨D,-1,-1,rfl,h,⟨0,.zero hD⟩,.best (fun i hi=>absurd hi (by omega)) fun j hj=>absurd hj (by omega)⟩
 ·rw[jal (by omega)]at c0 k2;have ls:=jdq D.free (fun j=>decide (0<D.g j)) D.n;have b2:=jd4 (vars:=D.free) (ch:=fun j=>decide (0<D.g j)) (k:=D.n);have b1:=jdk (vars:=D.free) (ch:=fun j=>decide (0<D.g j)) (k:=D.n);generalize jbv D.free (fun j=>decide (0<D.g j)) D.n=s0 at*;refine jap [] [] [.tmp 2,.tmp 3] Tryz.func140 ?_;simp only[F1,go_sem];refine jjz 1 ?_;simp only[F1,go_sem];refine jar [1] (fun g:Unit=>⟨[(1,.im (.ip [.pr nm.d 6 0 0] 0))],L,[]⟩) (fun g=>True) (fun g=>0) () ?_ ja5 rfl trivial ?_
  ·simp only[go_sem]
  intro _ _;simp only[c0,F1,go_sem];refine jcw k1 (by decide) rfl hb ja5 ?_;rintro _ _ ⟨rfl,rfl⟩ _;refine⟨_,jb9,?_⟩;simp only[c0,jbv,F1,go_sem];refine jaj k2 (by decide) rfl h.blk (ja6 (by decide) h.blk ja5) ?_;rintro _ L' ⟨rfl,rfl⟩ _;refine⟨(4,1,[[.int (-1)]])::L',Behind_pre [_] (by intro p hp;rw[zE.1 hp];exact jax h.blk (by dsimp only;decide)),?_⟩;by_cases a6:s0<0
  ·have a1:decide (s0<0)=true:=zp a6;simp only[c0,a1,jbv,F1,go_sem];refine jb1 L' h.blk (ja6 (by decide) h.blk (ja6 (by decide) h.blk ja5)) ?_;simp only[go_sem];exact⟨D,-1,-1,rfl,h,⟨0,.zero hD⟩,.best (fun i hi=>absurd hi (by omega)) fun j hj=>npos (zJ (b2 a6 j hj))⟩
  ·have a1:decide (s0<0)=false:=ze a6;obtain⟨s,rfl⟩:∃s:Nat,s0=s:=⟨s0.toNat,by omega⟩;obtain⟨a7,b0⟩:=b1 (by omega);rw[Int.toNat_natCast]at a7;have b3:s<D.n:=by omega
   have k3:=jge L' nm.o 0 D.own (fun i=>decide (0<D.a i s)) 177 [.ip [.pr nm.d 6 0 0] 0,.ip [.int (s:Int)] 0] (by decide) h.blk (fun h=>absurd rfl h) (by omega) (fun i hi=>absurd hi (by omega)) (fun i hi=>absurd hi (by omega));rw[jbc]at k3;simp only[c0,a1,jbv,F1,go_sem];refine jaf 24 ?_;simp only[c0,a1,jbv,F1,go_sem];refine jcw k3 (by decide) rfl h.blk ?_ ?_
   ·simp only[F1,go_sem];exact ja6 (by decide) h.blk ja5
   rintro _ L1 ⟨rfl,rfl⟩ _;refine⟨(4,1,[[.int (-1)]])::L1,?_,?_⟩
   ·simp only[F1,go_sem];exact Behind_pre [(4,1,[[.int (-1)]])] (by intro p hp;rw[zE.1 hp];exact jax h.blk (by dsimp only;decide))
   simp only[c0,a1,jbv,F1,go_sem];refine jaf 3 ?_;simp only[c0,a1,jbv,F1,go_sem];refine jb1 L1 h.blk (ja6 (by decide) h.blk ja5) ?_;simp only[go_sem];exact⟨D,-1,s,rfl,h,⟨0,.zero hD⟩,.free s b3 (zI a7) (fun j hj hg=>b0 j hj (zp hg)) (fun i hi=>absurd hi (by omega)) fun i hi=>absurd hi (by omega)⟩
theorem x_search(h:HasD L nm N D src)(hD:D.Ok)(a6:D.m≠0->D.n≠0)(hm:D.m<=100000)(hn:D.n<=100000)(K:Nat)(hK:K<=1000000)(hv:∀k,(Own D k\/Free D k)->k<K)
  (sm:∀E:Dic,E.Ok->Eqv D E->SameV D E->E.m=D.m->E.n=D.n->SmD E):
  CtrH G.P 140 [.loc (hp nm.d) 6 0 0] L (fun x L'=>∃(E:Dic) (row a1:Int),x= .im (.tup [.int row,.int a1])/\HasD L' nm N E src/\(∃T,LP.Reach D T E)/\Final E row a1):=by
 refine CtrH.loc ?_;by_cases h0:D.m=0
 ·exact x_search_empty h hD h0 hn K hK hv
 ·exact x_search_main h hD h0 (a6 h0) hm hn K hK hv sm
