/- A part of the proof. No further condition. -/
import Derived.Test.YtkcekimolppapaaGreatKS25
set_option linter.all false
set_option maxRecDepth 10000000
set_option maxHeartbeats 16000000
namespace Go.Proofs.YtkcekimolppapaaGreat
section
open Go.Abs
theorem jbi{e:Evid}(h:jax e=0):(pairs e).all fitP=true/\1<=e.mats/\0<=e.houses/\0<=e.scales/\e.places.all (ji0 e)=true/\jcc e 0 e.moves=0/\saidF e=true:=by
 unfold jax at h;split at h
 ·cases h
 ·split at h
  ·cases h
  ·split at h
   ·cases h
   ·split at h
    ·cases h
    ·split at h
     ·cases h
     ·split at h
      ·rename_i h6;exact absurd h h6
      ·split at h
       ·rename_i h1 h2 h3 h4 h5 h6 h7;simp at h1 h2 h3 h4 h5 h6;exact⟨by simpa using h1,by omega,by omega,by omega,by simpa using h5,h6,h7⟩
       ·cases h
theorem jow{e:Evid}:∀{ms:List Move} {d:Int},jcc e d ms=0->∀m∈ms,moveF e m=true
 | [],_,_,m,hm=>by cases hm
 | x::r,d,h,m,hm=>by
  rw[jcc]at h;split at h
  ·cases h
  ·split at h
   ·cases h
   ·split at h
    ·cases h
    ·rename_i h3;rcases zP.1 hm with rfl | hm
     ·simpa using h3
     ·exact jow h m hm
theorem ji9{e:Evid}(h:jax e=0):∀x∈e.moves,(0<=x.fr/\x.fr<(e.places.length:Int))/\(0<=x.to/\x.to<(e.places.length:Int)):=by
 intro x hx;have:=jow (jbi h).2.2.2.2.2.1 x hx;simp only[moveF,zD,joi]at this;exact⟨this.1.1.1.1.1.1.1,this.1.1.1.1.1.1.2⟩
theorem purF_iff{e:Evid}{p:Purity}:purF e p=true↔(0<=p.move/\p.move<(e.moves.length:Int))/\(0<=p.mat/\p.mat<e.mats)/\0<=p.least/\p.least<=p.most/\p.most<=1000:=by
 simp only[purF,zD,joi,jw,ql];omega
theorem jhw{e:Evid}(h:jax e=0):∀p∈e.purs,purF e p=true:=by
 have:=(jbi h).2.2.2.2.2.2;simp only[saidF,zD,List.all_eq_true]at this;exact this.2
theorem jm4{e:Evid}(h:jax e=0):∀p∈e.purs,(0<=p.mat/\p.mat<e.mats)/\(-9223372036854775808<=p.least/\p.least<=9223372036854775807)/\(-9223372036854775808<=p.most/\p.most<=9223372036854775807):=by
 intro p hp;have:=purF_iff.1 (jhw h p hp);omega
end
section
open Go.Abs
open Go.LP (Rw RT tsum)
attribute [local go_sem] ints ic big frac fc Evid.c Evid.iv Place.c Move.c Cert.c Recall.c Purity.c
theorem jkn{e:Evid}{M mv:Nat}{x:Move}:(jbp e M mv x).length<=2:=by
 unfold jbp;split
 ·exact zH _
 ·split<;>simp
theorem jl2{e:Evid}{M:Nat}:∀i,(rowsU e M i).length<=i*(M+2+2*e.purs.length)
 | 0=>zH _
 | i+1=>by
  have ih:=jl2 (e:=e) (M:=M) i;rw[rowsU,jH];split
  ·rename_i x _;have h1:(moveR e M i x).length<=M+2+2*e.purs.length:=by
    unfold moveR;rw[zG,zG];have h2:(if binF e x=true then []else jcd M e.moves i x M).length<=M:=by
     split
     ·exact zH _
     ·rw[jf8];exact zt _
    have h3:(jbp e M i x).length<=2:=by
     unfold jbp;split
     ·exact zH _
     ·split<;>simp
    have h4:=jo2 (M:=M) (mv:=i) e.purs;omega
   rw[zG];omega
  ·omega
section
variable{e:Evid}{M:Nat}
theorem e_made(hc:jax e=0)(hM:e.mats=(M:Int))(hml:e.moves.length<=10):
  CtrH G.P 53 [.im e.iv] [] (fun r L'=>∃(nm:MN) (os:List (List IV)),r= .loc (hp nm.d) 10 0 0/\HasM L' nm e (rowsE e) os):=by
 obtain⟨hfit,hm1,_⟩:=jbi hc;obtain⟨l1,l2,l3,l4,l5,l6,l7,l8⟩:=jgr hfit;have hmv:=ji9 hc;have hpu:∀p∈e.purs,0<=p.least/\p.least<=1000/\0<=p.most/\p.most<=1000:=fun p hp=>by
  have:=purF_iff.1 (jhw hc p hp);omega
 have hMe:e.mats.toNat=M:=by omega
 have hrE:rowsE e=rowsU e M e.moves.length:=by unfold rowsE;rw[hMe]
 refine jao [8] [] [.tmp 2] Tryz.func53 ?_;simp only[go_sem];refine je5 (fun d hd=> ?_);clear hd;simp only[go_sem];have hM0:HasM [(hp d,10,[e.c++[.emp,.emp]])] ⟨d,0,0⟩ e (rowsU e M 0) []:=⟨jad jaq,fun h=>absurd rfl h,fun h=>absurd rfl h,fun h=>absurd rfl h,rfl,(fun c hc=>by cases hc),(fun i w c h1 h2=>by simp at h2),ja2 _ _ _,fun h=>absurd rfl h,fun h=>absurd rfl h⟩;refine jap [1,3,10,11,12] (fun g:(Nat×MN×List (List IV))×Abs.Rows=>⟨[(1,.loc 1 8 0 0),(3,.loc (hp d) 10 0 0),(10,.im (.sl (e.moves.map Move.c))),(11,.im (.int e.moves.length)),(12,.im (.int g.1.1))],(1,8,[e.c])::g.2,[]⟩)
  (fun g=>g.1.1<=e.moves.length/\g.1.2.1.d=d/\HasM g.2 g.1.2.1 e (rowsU e M g.1.1) g.1.2.2) (fun g=>e.moves.length-g.1.1) ((0,_,_),_) ?_ ?_ rfl ⟨zH _,rfl,hM0⟩ ?_
 ·simp only[Int.natCast_zero,go_sem]
 ·show SubR ((1,8,[e.c])::[(hp d,10,[e.c++[.emp,.emp]])]) [(hp d,10,[e.c++[.emp,.emp]]),(1,8,[e.c])];refine jb9 ?_ (jay _ jac);rw[ja0 _ _ (hp_ne (by decide)),ja2]
 clear hM0;rintro⟨⟨i,nm1,os1⟩,R⟩ ⟨hi,hnd,hR⟩;dsimp only at hi hnd hR;have bR:=hR.blk;have F1:=bF bR;have K1:=bK bR;have G1:=bN bR;rcases zU i e.moves.length with hlt | hlt
 ·have hd:decide ((i:Int)<e.moves.length)=true:=zh (by omega);have h1:=ja7 (n:=(i:Int)+1) (by omega);obtain⟨x,hx⟩:=jbf (l:=e.moves) (i:=i) (by omega);obtain⟨⟨f1,f2⟩,_⟩:=hmv x (zk hx);obtain⟨pl,hpl⟩:∃pl,e.places[x.fr.toNat]? =some pl:=⟨_,ze (by omega)⟩;have hsucc:rowsU e M (i+1)=rowsU e M i++moveR e M i x:=by rw[rowsU,hx]
  have hlen:=jl2 (e:=e) (M:=M) i;have hlen2:(rowsU e M i).length<=4300:=by
   have h2:i*(M+2+2*e.purs.length)<=10*428:=yK (by omega) (by omega);omega
  have hbin:binF e x=decide (pl.kind=0):=by unfold binF;rw[hpl];rfl
  rcases hk:decide (pl.kind=0)with _ | _
  ·simp only[hd,hx,f1,f2,hpl,hk,za,zq,F1,K1,G1,go_sem];have k1:=e_stock hR hM i x hx (by omega) (by omega) (by omega) (by omega) (hbin.trans hk);rw[hnd]at k1;refine jai k1 (by decide) (by simp only[zB,zF,jb1];rfl) bR (ja3 (by decide) bR (ja3 (by decide) bR (SubR.refl _))) ?_;rintro _ L1 ⟨rfl,nm2,os2,hn2,hM2⟩ _;refine⟨(5,6,[x.c])::(1,8,[e.c])::L1,jat [_,_] (jbl bR (by simp)),?_⟩;have bL1:=hM2.blk;have F1x:=bF bL1;have G1x:=bN bL1;have K1x:=bK bL1;simp only[F1x,G1x,K1x,go_sem];have k2:=jtc hM2 hM i x hx (by omega) (by omega) (by omega) (by rw[zG,jf8];omega) (by omega) (by omega) (by omega);rw[hn2]at k2;refine jai k2 (by decide) (by simp only[zB,zF,jb1];rfl) bL1 (ja3 (by decide) bL1 (ja3 (by decide) bL1 (SubR.refl _))) ?_;rintro _ L2 ⟨rfl,nm3,os3,hn3,hM3⟩ _;refine⟨(5,6,[x.c])::(1,8,[e.c])::L2,jat [_,_] (jbl bL1 (by simp)),?_⟩;have bL2:=hM3.blk;have F2x:=bF bL2;have G2x:=bN bL2;have K2x:=bK bL2;simp only[F2x,G2x,K2x,go_sem];have k3:=e_pur hM3 hM i x hx (by omega) (by omega) (by rw[zG,zG,jf8];have:=jkn (e:=e) (M:=M) (mv:=i) (x:=x);omega) (by omega) hpu;rw[hn3]at k3;refine jai k3 (by decide) (by simp only[zB,zF,jb1];rfl) bL2 (ja3 (by decide) bL2 (ja3 (by decide) bL2 (SubR.refl _))) ?_
   rintro _ L3 ⟨rfl,nm4,os4,hn4,hM4⟩ _;refine⟨(5,6,[x.c])::(1,8,[e.c])::L3,jat [_,_] (jbl bL2 (by simp)),?_⟩;have bL3:=hM4.blk;have F3x:=bF bL3;have G3x:=bN bL3;have K3x:=bK bL3;simp only[F3x,G3x,K3x,go_sem];have hmr:moveR e M i x=jcd M e.moves i x M++jbp e M i x++purR M i e.purs:=by unfold moveR;rw[hbin,hk,zn (by decide)]
   rw[hmr]at hsucc;refine ja6 ((i+1,nm4,os4),L3) ?_ (jav (by dsimp only;rw[ja0 _ _ (by decide)];exact jb2 bL3 (by decide)) (SubR.of_eq rfl)) rfl (by show e.moves.length-(i+1)<e.moves.length-i;omega) ⟨hlt,hn4,by dsimp only;rw[hsucc,<-zS,<-zS];exact hM4⟩;simp only[h1,Int.natCast_add,go_sem]
  ·simp only[hd,hx,f1,f2,hpl,hk,za,zq,F1,K1,G1,go_sem];have k2:=jtc hR hM i x hx (by omega) (by omega) (by omega) (by omega) (by omega) (by omega) (by omega);rw[hnd]at k2;refine jai k2 (by decide) (by simp only[zB,zF,jb1];rfl) bR (ja3 (by decide) bR (ja3 (by decide) bR (SubR.refl _))) ?_;rintro _ L2 ⟨rfl,nm3,os3,hn3,hM3⟩ _;refine⟨(5,6,[x.c])::(1,8,[e.c])::L2,jat [_,_] (jbl bR (by simp)),?_⟩;have bL2:=hM3.blk;have F2x:=bF bL2;have G2x:=bN bL2;have K2x:=bK bL2;simp only[F2x,G2x,K2x,go_sem];have k3:=e_pur hM3 hM i x hx (by omega) (by omega) (by rw[zG];have:=jkn (e:=e) (M:=M) (mv:=i) (x:=x);omega) (by omega) hpu;rw[hn3]at k3;refine jai k3 (by decide) (by simp only[zB,zF,jb1];rfl) bL2 (ja3 (by decide) bL2 (ja3 (by decide) bL2 (SubR.refl _))) ?_;rintro _ L3 ⟨rfl,nm4,os4,hn4,hM4⟩ _;refine⟨(5,6,[x.c])::(1,8,[e.c])::L3,jat [_,_] (jbl bL2 (by simp)),?_⟩;have bL3:=hM4.blk;have F3x:=bF bL3;have G3x:=bN bL3;have K3x:=bK bL3;simp only[F3x,G3x,K3x,go_sem];have hmr:moveR e M i x=jbp e M i x++purR M i e.purs:=by unfold moveR;rw[hbin,hk,zm rfl,List.nil_append]
   rw[hmr]at hsucc;refine ja6 ((i+1,nm4,os4),L3) ?_ (jav (by dsimp only;rw[ja0 _ _ (by decide)];exact jb2 bL3 (by decide)) (SubR.of_eq rfl)) rfl (by show e.moves.length-(i+1)<e.moves.length-i;omega) ⟨hlt,hn4,by dsimp only;rw[hsucc,<-zS];exact hM4⟩;simp only[h1,Int.natCast_add,go_sem]
 have hd:decide ((i:Int)<e.moves.length)=false:=zw (by omega);have hiM:i=e.moves.length:=by omega
 subst hiM;simp only[hd,go_sem];refine jb7 R bR (ja3 (by decide) bR (SubR.refl _)) ?_;simp only[go_sem];refine⟨nm1,os1,by rw[hnd],?_⟩;rw[hrE];exact hR
def sysIV(e:Evid):IV:=if jax e=0 then .tup [.agg [.int ((e.moves.length*e.mats.toNat:Nat):Int),.sl ((rowsE e).map rwC)],.int 0]else .tup [.agg [.int 0,.sl []],.int (jax e)]
theorem jon(hml:jax e=0->e.moves.length<=10):Ctr G.P 13 [e.iv] (· =sysIV e):=by
 have hck:=c21 e;unfold sysIV;by_cases hc:jax e=0
 ·obtain⟨hfit,hm1,_⟩:=jbi hc;obtain⟨l1,l2,l3,l4,l5,l6,l7,l8⟩:=jgr hfit;obtain⟨M,hM⟩:∃M:Nat,e.mats=(M:Int):=⟨e.mats.toNat,by omega⟩;have hMe:e.mats.toNat=M:=by omega
  have hml':=hml hc;have km:=e_made hc hM hml';rw[zm hc,hMe];rw[hc]at hck;have hpr:e.moves.length*M<=10*6:=yK hml' (by omega);have w1:IntKind.i64.wrap ((e.moves.length:Int)*e.mats)=((e.moves.length*M:Nat):Int):=by
   rw[hM,<-Int.natCast_mul];exact ja7 (by omega)
  refine jf5 (φ:=fun r L'=>∃(y:IV) (bs:List Nat),r= .im y/\frzL bs y L'= .tup [.agg [.int ((e.moves.length*M:Nat):Int),.sl ((rowsE e).map rwC)],.int 0]) ?_ (fun r L' ⟨y,bs,h1,h2⟩=>⟨y,bs,h1,h2⟩);simp only[zB,zF];refine jao [] [] [.cell 2 46,.tmp 3] Tryz.func13 ?_;simp only[go_sem];refine ja1 hck ?_;simp only[go_sem];refine jkl [false,false,false,false,false,false,false,true,true,true,true] [(1,8,[e.c])] (by decide+kernel) (by decide+kernel) ?_ ?_
  ·exact jav rfl (SubR.of_eq rfl)
  simp only[w1,zq,go_sem];refine jbc km (by decide) (by simp only[zB,zF,zX];rfl) jaq jac ?_;rintro _ L1 ⟨nm,os,rfl,hH⟩ _;refine⟨(2,2,[[.int 0,.emp]])::(1,8,[e.c])::L1,jmg (pre:=[_,_]),?_⟩;have bL1:=hH.blk;have F1:=bF bL1;have K1:=bK bL1;have G1:=bN bL1;have n2:∀k,(2 !=hp k)=true:=fun k=>by simp only[z7,ne_eq];exact hp_ne (by decide)
  have n1:∀k,(1 !=hp k)=true:=fun k=>by simp only[z7,ne_eq];exact hp_ne (by decide)
  have hd0:=hH.hd;have hsub:SubR [(1,8,[e.c])] ((2,2,[[.int 0,.emp]])::(1,8,[e.c])::L1):=jav rfl (jaz (ja2 _ _ _));unfold Evid.c at hd0 hsub;have bn:∀k,¬(2=hp k)/\¬(1=hp k):=fun k=>⟨hp_ne (by decide),hp_ne (by decide)⟩;rcases ye (rowsE e).length with h0 | h0
  ·rw[h0,jb8,jb8]at hd0;rw[qM.1 h0];simp only[hd0,F1,K1,G1,n1,n2,go_sem];refine⟨hsub,hsub,hsub,hsub,?_⟩;refine jbh ?_;simp only[go_sem];refine⟨_,[nm.d],rfl,?_⟩;rw[jd9 (s:=10) (by rw[jb0,ja0 _ _ (hp_ne (by decide)).symm,ja0 _ _ (hp_ne (by decide)).symm];exact hd0),jf3];simp only[frz3,frz2,frz1,zB,zF]
  ·have hr0:=hH.hr (by omega);rw[jak (by omega),jak (by omega)]at hd0;simp only[hd0,hr0,F1,K1,G1,n1,n2,go_sem];refine⟨hsub,hsub,hsub,hsub,?_⟩;refine jbh ?_;simp only[go_sem];refine⟨_,[nm.r],rfl,?_⟩;rw[jd9 (s:=6) (by rw[jb0,ja0 _ _ (hp_ne (by decide)).symm,ja0 _ _ (hp_ne (by decide)).symm];exact hr0),jf3];have e1:(List.take (rowsE e).length ((rowsE e).map rwC))=(rowsE e).map rwC:=zu (by rw[zq];exact zt _);simp only[frz3,frz2,frz1,zB,zF,zq,zt,jk,qm,e1]
 ·rw[zn hc];generalize jax e=k at*;have hk:decide (k=0)=false:=zw hc;refine ja5 [.cell 2 46,.tmp 3] Tryz.func13 ?_;unfold Evid.iv Evid.c at*;simp only[go_sem];refine ja1 hck ?_;simp only[hk,go_sem]
end
end
section
open Go.Abs
open Go.LP (Dic Eqv SameV Rule Final Own Free)
attribute [local go_sem] ints ic big frac fc
theorem nneg{a:Rat}(h:¬a<0):0<=a:=by grind
theorem npos{a:Rat}(h:¬0<a):a<=0:=by grind
section
variable{L:Abs.Rows}{nm:DN}{N:Nat}{D:Dic}{src:Nat->Int×Bool}
theorem x_search_main(h:HasD L nm N D src)(hD:D.Ok)(hm0:D.m≠0)(hn0:D.n≠0)(hm:D.m<=100000)(hn:D.n<=100000)(K:Nat)(hK:K<=1000000)(hv:∀k,(Own D k\/Free D k)->k<K)
  (sm:∀E:Dic,E.Ok->Eqv D E->SameV D E->E.m=D.m->E.n=D.n->SmD E):
  CtrH G.P 111 [.im (.pr nm.d 6 0 0)] L (fun x L'=>∃(E:Dic) (row col:Int),x= .im (.tup [.int row,.int col])/\HasD L' nm N E src/\(∃T,LP.Reach D T E)/\Final E row col):=by
 have hb:=h.blk;have F1:=bF hb;have K1:=bK hb;have G1:=bN hb;refine jao [] [] [.tmp 2,.tmp 3] Tryz.func111 ?_;simp only[F1,K1,G1,go_sem];refine jjq 1 ?_;simp only[F1,K1,G1,go_sem];refine jap [1] (fun g:(Nat×Dic)×Abs.Rows=>⟨[(1,.im (.ip [.pr nm.d 6 0 0] 0))],g.2,[]⟩)
  (fun g=>LP.Reach D g.1.1 g.1.2/\HasD g.2 nm N g.1.2 src) (fun g=>2^K-g.1.1) ((0,D),L) ?_ ?_ rfl ⟨.zero hD,h⟩ ?_
 ·simp only[go_sem]
 ·exact SubR.of_eq rfl
 clear F1 K1 G1 hb h;rintro⟨⟨T,E⟩,M⟩ ⟨hR,H⟩;dsimp only at hR H;obtain⟨hE,hq,hsv,hEm,hEn⟩:=hR.facts;have hT:=hR.bound hv;have smE:=sm E hE hq hsv hEm hEn;have hm0':E.m≠0:=by omega
 have hn0':E.n≠0:=by omega
 have F2:=bF H.blk;have K2:=bK H.blk;have G2:=bN H.blk;have ho:∀i,i<E.m->E.own i<=1000000:=fun i hi=>by have:=hv _ ((hsv _).2 (.inl ⟨i,hi,rfl⟩));omega
 have hf:∀i,i<E.n->E.free i<=1000000:=fun i hi=>by have:=hv _ ((hsv _).2 (.inr ⟨i,hi,rfl⟩));omega
 have c0:=H.hd;have c1:=H.ho hm0';have c2:=H.hf hn0';rw[jak hm0',jak hm0',jak hn0',jak hm0']at c0;have k1:=jgg M nm.o E.m E.own (fun i=>decide (E.v i<0)) 155 [.ip [.pr nm.d 6 0 0] 0] (by decide) H.blk H.ho (by omega) ho (fun i hi=>x_c1 H hi);have k2:=jgg M nm.f E.n E.free (fun j=>decide (0<E.g j)) 156 [.ip [.pr nm.d 6 0 0] 0] (by decide) H.blk H.hf (by omega) hf (fun i hi=>x_c2 H hi);rw[jak hm0']at k1;rw[jak hn0']at k2;have lr:=jdq E.own (fun i=>decide (E.v i<0)) E.m;have ls:=jdq E.free (fun j=>decide (0<E.g j)) E.n;have lr1:=jda (vars:=E.own) (ch:=fun i=>decide (E.v i<0)) (k:=E.m);have ls1:=jda (vars:=E.free) (ch:=fun j=>decide (0<E.g j)) (k:=E.n);have lr2:=jdm (vars:=E.own) (ch:=fun i=>decide (E.v i<0)) (k:=E.m);have ls2:=jdm (vars:=E.free) (ch:=fun j=>decide (0<E.g j)) (k:=E.n);generalize jbx E.own (fun i=>decide (E.v i<0)) E.m=r0 at*;generalize jbx E.free (fun j=>decide (0<E.g j)) E.n=s0 at*;simp only[c0,c1,c2,F2,K2,G2,go_sem];refine jai k1 (by decide) rfl H.blk (SubR.of_eq rfl) ?_;rintro _ _ ⟨rfl,rfl⟩ _;refine⟨_,jba,?_⟩;simp only[c0,c1,c2,F2,K2,G2,go_sem];refine jai k2 (by decide) rfl H.blk (ja3 (by decide) H.blk (SubR.of_eq rfl)) ?_;rintro _ L' ⟨rfl,rfl⟩ _;refine⟨(4,1,[[.int r0]])::L',Behind_pre [_] (by intro p hp;rw[zC.1 hp];exact jb2 H.blk (by dsimp only;decide)),?_⟩;by_cases hr0:r0<0
 ·have hd1:decide (r0<0)=true:=zh hr0;by_cases hs0:s0<0
  ·have hd2:decide (s0<0)=true:=zh hs0;simp only[hd1,hd2,c0,c1,c2,F2,K2,G2,go_sem];refine jb7 L' H.blk (ja3 (by decide) H.blk (ja3 (by decide) H.blk (SubR.of_eq rfl))) ?_;simp only[go_sem];exact⟨E,-1,-1,rfl,H,⟨T,hR⟩,.best (fun i hi=>nneg (zN (lr1 hr0 i hi))) fun j hj=>npos (zN (ls1 hs0 j hj))⟩
  ·have hd2:decide (s0<0)=false:=zw hs0;have hd3:decide (0<=r0)=false:=zw (by omega);obtain⟨s,rfl⟩:∃s:Nat,s0=s:=⟨s0.toNat,by omega⟩;obtain⟨lx1,lx2⟩:=ls2 (by omega);rw[Int.toNat_natCast]at lx1 lx2;have hsn:s<E.n:=by omega
   have hsg:0<E.g s:=zJ lx1;have hsl:∀j,j<E.n->0<E.g j->E.free s<=E.free j:=fun j hj hg=>lx2 j hj (zh hg);have hsf:∀i,i<E.m->E.v i<0->E.free s<E.own i:=fun i hi hv=>by have:=zN (lr1 hr0 i hi);exact absurd hv this
   simp only[hd1,hd2,c0,c1,c2,F2,K2,G2,go_sem];refine jae 24 ?_;simp only[hd1,hd2,hd3,c0,c1,c2,F2,K2,G2,go_sem];have k3:=jgg L' nm.o E.m E.own (fun i=>decide (0<E.a i s)) 158 [.ip [.pr nm.d 6 0 0] 0,.ip [.int (s:Int)] 0] (by decide) H.blk H.ho (by omega) ho (fun i hi=>x_c4 H hsn hi);rw[jak hm0']at k3;have la:=jdq E.own (fun i=>decide (0<E.a i s)) E.m;have lb:=jda (vars:=E.own) (ch:=fun i=>decide (0<E.a i s)) (k:=E.m);have lc:=jdm (vars:=E.own) (ch:=fun i=>decide (0<E.a i s)) (k:=E.m);generalize jbx E.own (fun i=>decide (0<E.a i s)) E.m=r1 at*;refine jai k3 (by decide) rfl H.blk (ja3 (by decide) H.blk (SubR.of_eq rfl)) ?_;rintro _ L1 ⟨rfl,rfl⟩ _;refine⟨(4,1,[[.int r0]])::L1,Behind_pre [_] (by intro p hp;rw[zC.1 hp];exact jb2 H.blk (by dsimp only;decide)),?_⟩;by_cases hs1:r1<0
   ·have hd5:decide (r1<0)=true:=zh hs1;simp only[hd5,c0,c1,c2,F2,K2,G2,go_sem];refine jae 3 ?_;simp only[hd5,c0,c1,c2,F2,K2,G2,go_sem];refine jb7 L1 H.blk (ja3 (by decide) H.blk (SubR.of_eq rfl)) ?_;simp only[go_sem];exact⟨E,-1,s,rfl,H,⟨T,hR⟩,.free s hsn hsg hsl hsf fun i hi=>npos (zN (lb hs1 i hi))⟩
   ·have hd5:decide (r1<0)=false:=zw hs1;obtain⟨r,rfl⟩:∃r:Nat,r1=r:=⟨r1.toNat,by omega⟩;obtain⟨lc1,lc2⟩:=lc (by omega);rw[Int.toNat_natCast]at lc1 lc2;have hrm:r<E.m:=by omega
    have hsa:0<E.a r s:=zJ lc1;have hrule:Rule E r s:=⟨hrm,hsn,.inr ⟨hsg,hsl,hsf,hsa,fun i hi ha=>lc2 i hi (zh ha)⟩⟩;have hR':=hR.step hrule;obtain⟨hE',hq',hsv',hEm',hEn'⟩:=hR'.facts;have k4:=jhm H hrm hsn hrule.ne (by omega) (by omega) smE (sm _ hE' hq' hsv' hEm' hEn');simp only[hd5,c0,c1,c2,F2,K2,G2,go_sem];refine jai k4 (by decide) rfl H.blk (ja3 (by decide) H.blk (SubR.of_eq rfl)) ?_;rintro _ L2 ⟨rfl,H2⟩ _;refine⟨L2,jba,?_⟩;have F3:=bF H2.blk;simp only[F3,go_sem];refine ja6 ((T+1,E.pivot r s),L2) ?_ (SubR.of_eq rfl) rfl ?_ ⟨hR',H2⟩
    ·simp only[go_sem]
    ·show 2^K-(T+1)<2^K-T;omega
 ·have hd1:decide (r0<0)=false:=zw hr0;have hd3:decide (0<=r0)=true:=zh (by omega);obtain⟨r,rfl⟩:∃r:Nat,r0=r:=⟨r0.toNat,by omega⟩;obtain⟨lx1,lx2⟩:=lr2 (by omega);rw[Int.toNat_natCast]at lx1 lx2;have hrm:r<E.m:=by omega
  have hrm':(r:Int)<E.m:=by omega
  have hr00:(0:Int)<=r:=by omega
  have hrv:E.v r<0:=zJ lx1;have hrl:∀i,i<E.m->E.v i<0->E.own r<=E.own i:=fun i hi hv=>lx2 i hi (zh hv);have og:=oget (o:=E.own) hrm;by_cases hs0:s0<0
  ·have hd2:decide (s0<0)=true:=zh hs0;have hrf:∀j,j<E.n->0<E.g j->E.own r<E.free j:=fun j hj hg=>absurd hg (zN (ls1 hs0 j hj));simp only[hd1,hd2,c0,c1,c2,F2,K2,G2,go_sem];refine jae 24 ?_;simp only[hd1,hd2,hd3,c0,c1,c2,F2,K2,G2,go_sem];have k3:=jgg L' nm.f E.n E.free (fun j=>decide (E.a r j<0)) 157 [.ip [.pr nm.d 6 0 0] 0,.ip [.int (r:Int)] 0] (by decide) H.blk H.hf (by omega) hf (fun j hj=>x_c3 H hrm hj);rw[jak hn0']at k3;have la:=jdq E.free (fun j=>decide (E.a r j<0)) E.n;have lb:=jda (vars:=E.free) (ch:=fun j=>decide (E.a r j<0)) (k:=E.n);have lc:=jdm (vars:=E.free) (ch:=fun j=>decide (E.a r j<0)) (k:=E.n);generalize jbx E.free (fun j=>decide (E.a r j<0)) E.n=s1 at*;refine jai k3 (by decide) rfl H.blk (ja3 (by decide) H.blk (SubR.of_eq rfl)) ?_;rintro _ L1 ⟨rfl,rfl⟩ _;refine⟨(5,1,[[.int s0]])::L1,Behind_pre [_] (by intro p hp;rw[zC.1 hp];exact jb2 H.blk (by dsimp only;decide)),?_⟩;by_cases hs1:s1<0
   ·have hd5:decide (s1<0)=true:=zh hs1;simp only[hd5,c0,c1,c2,F2,K2,G2,go_sem];refine jb7 L1 H.blk (ja3 (by decide) H.blk (SubR.of_eq rfl)) ?_;simp only[go_sem];exact⟨E,r,-1,rfl,H,⟨T,hR⟩,.none r hrm hrv hrl hrf fun j hj=>nneg (zN (lb hs1 j hj))⟩
   ·have hd5:decide (s1<0)=false:=zw hs1;obtain⟨s,rfl⟩:∃s:Nat,s1=s:=⟨s1.toNat,by omega⟩;obtain⟨lc1,lc2⟩:=lc (by omega);rw[Int.toNat_natCast]at lc1 lc2;have hsn:s<E.n:=by omega
    have hsa:E.a r s<0:=zJ lc1;have hrule:Rule E r s:=⟨hrm,hsn,.inl ⟨hrv,hrl,hrf,hsa,fun j hj ha=>lc2 j hj (zh ha)⟩⟩;have hR':=hR.step hrule;obtain⟨hE',hq',hsv',hEm',hEn'⟩:=hR'.facts;have k4:=jhm H hrm hsn hrule.ne (by omega) (by omega) smE (sm _ hE' hq' hsv' hEm' hEn');simp only[hd5,c0,c1,c2,F2,K2,G2,go_sem];refine jai k4 (by decide) rfl H.blk (ja3 (by decide) H.blk (SubR.of_eq rfl)) ?_;rintro _ L2 ⟨rfl,H2⟩ _;refine⟨L2,jba,?_⟩;have F3:=bF H2.blk;simp only[F3,go_sem];refine ja6 ((T+1,E.pivot r s),L2) ?_ (SubR.of_eq rfl) rfl ?_ ⟨hR',H2⟩
    ·simp only[go_sem]
    ·show 2^K-(T+1)<2^K-T;omega
  ·have hd2:decide (s0<0)=false:=zw hs0;obtain⟨s,rfl⟩:∃s:Nat,s0=s:=⟨s0.toNat,by omega⟩;obtain⟨ly1,ly2⟩:=ls2 (by omega);rw[Int.toNat_natCast]at ly1 ly2;have hsn:s<E.n:=by omega
   have hsn':(s:Int)<E.n:=by omega
   have hs00:(0:Int)<=s:=by omega
   have fg:=oget (o:=E.free) hsn;by_cases hlt:E.own r<E.free s
   ·have hd4:decide ((E.own r:Int)<E.free s)=true:=zh (by omega);have hrf:∀j,j<E.n->0<E.g j->E.own r<E.free j:=fun j hj hg=>by have:=ly2 j hj (zh hg);omega
    simp only[hd1,hd2,c0,c1,c2,F2,K2,G2,go_sem];refine jae 24 ?_;simp only[hd1,hd2,hd3,hd4,c0,c1,c2,og,fg,hrm',hr00,hsn',hs00,jaa,Int.toNat_natCast,F2,K2,G2,go_sem];obtain⟨s0,hs0e⟩:∃s0:Int,s0=s:=⟨_,rfl⟩;rw[<-hs0e];have k3:=jgg L' nm.f E.n E.free (fun j=>decide (E.a r j<0)) 157 [.ip [.pr nm.d 6 0 0] 0,.ip [.int (r:Int)] 0] (by decide) H.blk H.hf (by omega) hf (fun j hj=>x_c3 H hrm hj);rw[jak hn0']at k3;have la:=jdq E.free (fun j=>decide (E.a r j<0)) E.n;have lb:=jda (vars:=E.free) (ch:=fun j=>decide (E.a r j<0)) (k:=E.n);have lc:=jdm (vars:=E.free) (ch:=fun j=>decide (E.a r j<0)) (k:=E.n);generalize jbx E.free (fun j=>decide (E.a r j<0)) E.n=s1 at*;refine jai k3 (by decide) rfl H.blk (ja3 (by decide) H.blk (SubR.of_eq rfl)) ?_;rintro _ L1 ⟨rfl,rfl⟩ _;refine⟨(5,1,[[.int s0]])::L1,Behind_pre [_] (by intro p hp;rw[zC.1 hp];exact jb2 H.blk (by dsimp only;decide)),?_⟩;by_cases hs1:s1<0
    ·have hd5:decide (s1<0)=true:=zh hs1;simp only[hd5,c0,c1,c2,F2,K2,G2,go_sem];refine jb7 L1 H.blk (ja3 (by decide) H.blk (SubR.of_eq rfl)) ?_;simp only[go_sem];exact⟨E,r,-1,rfl,H,⟨T,hR⟩,.none r hrm hrv hrl hrf fun j hj=>nneg (zN (lb hs1 j hj))⟩
    ·have hd5:decide (s1<0)=false:=zw hs1;obtain⟨s,rfl⟩:∃s:Nat,s1=s:=⟨s1.toNat,by omega⟩;obtain⟨lc1,lc2⟩:=lc (by omega);rw[Int.toNat_natCast]at lc1 lc2;have hsn:s<E.n:=by omega
     have hsa:E.a r s<0:=zJ lc1;have hrule:Rule E r s:=⟨hrm,hsn,.inl ⟨hrv,hrl,hrf,hsa,fun j hj ha=>lc2 j hj (zh ha)⟩⟩;have hR':=hR.step hrule;obtain⟨hE',hq',hsv',hEm',hEn'⟩:=hR'.facts;have k4:=jhm H hrm hsn hrule.ne (by omega) (by omega) smE (sm _ hE' hq' hsv' hEm' hEn');simp only[hd5,c0,c1,c2,F2,K2,G2,go_sem];refine jai k4 (by decide) rfl H.blk (ja3 (by decide) H.blk (SubR.of_eq rfl)) ?_;rintro _ L2 ⟨rfl,H2⟩ _;refine⟨L2,jba,?_⟩;have F3:=bF H2.blk;simp only[F3,go_sem];refine ja6 ((T+1,E.pivot r s),L2) ?_ (SubR.of_eq rfl) rfl ?_ ⟨hR',H2⟩
     ·simp only[go_sem]
     ·show 2^K-(T+1)<2^K-T;omega
   ·have hd4:decide ((E.own r:Int)<E.free s)=false:=zw (by omega);have hsg:0<E.g s:=zJ ly1;have hsl:∀j,j<E.n->0<E.g j->E.free s<=E.free j:=fun j hj hg=>ly2 j hj (zh hg);have hsf:∀i,i<E.m->E.v i<0->E.free s<E.own i:=fun i hi hv=>by
     have h1:=hrl i hi hv;have h2:=hE.apart i s hi hsn;have h3:=hE.apart r s hrm hsn;omega
    simp only[hd1,hd2,c0,c1,c2,F2,K2,G2,go_sem];refine jae 24 ?_;simp only[hd1,hd2,hd3,hd4,c0,c1,c2,og,fg,hrm',hr00,hsn',hs00,jaa,Int.toNat_natCast,F2,K2,G2,go_sem];obtain⟨r0,hr0e⟩:∃r0:Int,r0=r:=⟨_,rfl⟩;rw[<-hr0e];clear hrm hrm' hrv hrl og hr00 hd1 hd3 hd4 hr0e;have k3:=jgg L' nm.o E.m E.own (fun i=>decide (0<E.a i s)) 158 [.ip [.pr nm.d 6 0 0] 0,.ip [.int (s:Int)] 0] (by decide) H.blk H.ho (by omega) ho (fun i hi=>x_c4 H hsn hi);rw[jak hm0']at k3;have la:=jdq E.own (fun i=>decide (0<E.a i s)) E.m;have lb:=jda (vars:=E.own) (ch:=fun i=>decide (0<E.a i s)) (k:=E.m);have lc:=jdm (vars:=E.own) (ch:=fun i=>decide (0<E.a i s)) (k:=E.m);generalize jbx E.own (fun i=>decide (0<E.a i s)) E.m=r1 at*;refine jai k3 (by decide) rfl H.blk (ja3 (by decide) H.blk (SubR.of_eq rfl)) ?_;rintro _ L1 ⟨rfl,rfl⟩ _;refine⟨(4,1,[[.int r0]])::L1,Behind_pre [_] (by intro p hp;rw[zC.1 hp];exact jb2 H.blk (by dsimp only;decide)),?_⟩;by_cases hs1:r1<0
    ·have hd5:decide (r1<0)=true:=zh hs1;simp only[hd5,c0,c1,c2,F2,K2,G2,go_sem];refine jae 3 ?_;simp only[hd5,c0,c1,c2,F2,K2,G2,go_sem];refine jb7 L1 H.blk (ja3 (by decide) H.blk (SubR.of_eq rfl)) ?_;simp only[go_sem];exact⟨E,-1,s,rfl,H,⟨T,hR⟩,.free s hsn hsg hsl hsf fun i hi=>npos (zN (lb hs1 i hi))⟩
    ·have hd5:decide (r1<0)=false:=zw hs1;obtain⟨r,rfl⟩:∃r:Nat,r1=r:=⟨r1.toNat,by omega⟩;obtain⟨lc1,lc2⟩:=lc (by omega);rw[Int.toNat_natCast]at lc1 lc2;have hrm:r<E.m:=by omega
     have hsa:0<E.a r s:=zJ lc1;have hrule:Rule E r s:=⟨hrm,hsn,.inr ⟨hsg,hsl,hsf,hsa,fun i hi ha=>lc2 i hi (zh ha)⟩⟩;have hR':=hR.step hrule;obtain⟨hE',hq',hsv',hEm',hEn'⟩:=hR'.facts;have k4:=jhm H hrm hsn hrule.ne (by omega) (by omega) smE (sm _ hE' hq' hsv' hEm' hEn');simp only[hd5,c0,c1,c2,F2,K2,G2,go_sem];refine jai k4 (by decide) rfl H.blk (ja3 (by decide) H.blk (SubR.of_eq rfl)) ?_;rintro _ L2 ⟨rfl,H2⟩ _;refine⟨L2,jba,?_⟩;have F3:=bF H2.blk;simp only[F3,go_sem];refine ja6 ((T+1,E.pivot r s),L2) ?_ (SubR.of_eq rfl) rfl ?_ ⟨hR',H2⟩
     ·simp only[go_sem]
     ·show 2^K-(T+1)<2^K-T;omega
end
end
section
open Go.Abs
open Go.LP (Dic Eqv SameV Rule Final Own Free)
attribute [local go_sem] ints ic big frac fc
section
variable{L:Abs.Rows}{nm:DN}{N:Nat}{D:Dic}{src:Nat->Int×Bool}
theorem x_search_empty(h:HasD L nm N D src)(hD:D.Ok)(hm0:D.m=0)(hn:D.n<=100000)(K:Nat)(hK:K<=1000000)(hv:∀k,(Own D k\/Free D k)->k<K):
  CtrH G.P 111 [.im (.pr nm.d 6 0 0)] L (fun x L'=>∃(E:Dic) (row col:Int),x= .im (.tup [.int row,.int col])/\HasD L' nm N E src/\(∃T,LP.Reach D T E)/\Final E row col):=by
 have hb:=h.blk;have F1:=bF hb;have K1:=bK hb;have G1:=bN hb;have hf:∀i,i<D.n->D.free i<=1000000:=fun i hi=>by have:=hv _ (.inr ⟨i,hi,rfl⟩);omega
 have c0:=h.hd;rw[hm0,jb8,jb8,jb8]at c0;have k1:=jgg L nm.o 0 D.own (fun i=>decide (D.v i<0)) 155 [.ip [.pr nm.d 6 0 0] 0] (by decide) hb (fun h=>absurd rfl h) (by omega) (fun i hi=>absurd hi (by omega)) (fun i hi=>absurd hi (by omega));have k2:=jgg L nm.f D.n D.free (fun j=>decide (0<D.g j)) 156 [.ip [.pr nm.d 6 0 0] 0] (by decide) hb h.hf (by omega) hf (fun i hi=>x_c2 h hi);rw[jb8]at k1;rcases ye D.n with hn0 | hn0
 ·rw[hn0,jb8]at c0 k2;refine jao [] [] [.tmp 2,.tmp 3] Tryz.func111 ?_;simp only[F1,K1,G1,go_sem];refine jjq 1 ?_;simp only[F1,K1,G1,go_sem];refine jap [1] (fun g:Unit=>⟨[(1,.im (.ip [.pr nm.d 6 0 0] 0))],L,[]⟩) (fun g=>True) (fun g=>0) () ?_ (SubR.of_eq rfl) rfl trivial ?_
  ·simp only[go_sem]
  intro _ _;simp only[c0,F1,K1,G1,go_sem];refine jcz k1 (by decide) rfl hb (SubR.of_eq rfl) ?_;rintro _ _ ⟨rfl,rfl⟩ _;refine⟨_,jba,?_⟩;simp only[c0,jbx,F1,K1,G1,go_sem];refine jcz k2 (by decide) rfl h.blk ?_ ?_
  ·simp only[F1,K1,G1,go_sem];exact ja3 (by decide) h.blk (SubR.of_eq rfl)
  rintro _ L' ⟨rfl,rfl⟩ _;refine⟨(4,1,[[.int (-1)]])::L',?_,?_⟩
  ·simp only[F1,K1,G1,go_sem];exact Behind_pre [(4,1,[[.int (-1)]])] (by intro p hp;rw[zC.1 hp];exact jb2 h.blk (by dsimp only;decide))
  simp only[c0,jbx,F1,K1,G1,go_sem];refine jb7 L' h.blk (ja3 (by decide) h.blk (ja3 (by decide) h.blk (SubR.of_eq rfl))) ?_;simp only[go_sem];exact⟨D,-1,-1,rfl,h,⟨0,.zero hD⟩,.best (fun i hi=>absurd hi (by omega)) fun j hj=>absurd hj (by omega)⟩
 ·rw[jak (by omega)]at c0 k2;have ls:=jdq D.free (fun j=>decide (0<D.g j)) D.n;have ls1:=jda (vars:=D.free) (ch:=fun j=>decide (0<D.g j)) (k:=D.n);have ls2:=jdm (vars:=D.free) (ch:=fun j=>decide (0<D.g j)) (k:=D.n);generalize jbx D.free (fun j=>decide (0<D.g j)) D.n=s0 at*;refine jao [] [] [.tmp 2,.tmp 3] Tryz.func111 ?_;simp only[F1,K1,G1,go_sem];refine jjq 1 ?_;simp only[F1,K1,G1,go_sem];refine jap [1] (fun g:Unit=>⟨[(1,.im (.ip [.pr nm.d 6 0 0] 0))],L,[]⟩) (fun g=>True) (fun g=>0) () ?_ (SubR.of_eq rfl) rfl trivial ?_
  ·simp only[go_sem]
  intro _ _;simp only[c0,F1,K1,G1,go_sem];refine jcz k1 (by decide) rfl hb (SubR.of_eq rfl) ?_;rintro _ _ ⟨rfl,rfl⟩ _;refine⟨_,jba,?_⟩;simp only[c0,jbx,F1,K1,G1,go_sem];refine jai k2 (by decide) rfl h.blk (ja3 (by decide) h.blk (SubR.of_eq rfl)) ?_;rintro _ L' ⟨rfl,rfl⟩ _;refine⟨(4,1,[[.int (-1)]])::L',Behind_pre [_] (by intro p hp;rw[zC.1 hp];exact jb2 h.blk (by dsimp only;decide)),?_⟩;by_cases hs0:s0<0
  ·have hd2:decide (s0<0)=true:=zh hs0;simp only[c0,hd2,jbx,F1,K1,G1,go_sem];refine jb7 L' h.blk (ja3 (by decide) h.blk (ja3 (by decide) h.blk (SubR.of_eq rfl))) ?_;simp only[go_sem];exact⟨D,-1,-1,rfl,h,⟨0,.zero hD⟩,.best (fun i hi=>absurd hi (by omega)) fun j hj=>npos (zN (ls1 hs0 j hj))⟩
  ·have hd2:decide (s0<0)=false:=zw hs0;obtain⟨s,rfl⟩:∃s:Nat,s0=s:=⟨s0.toNat,by omega⟩;obtain⟨lx1,lx2⟩:=ls2 (by omega);rw[Int.toNat_natCast]at lx1;have hsn:s<D.n:=by omega
   have k3:=jgg L' nm.o 0 D.own (fun i=>decide (0<D.a i s)) 158 [.ip [.pr nm.d 6 0 0] 0,.ip [.int (s:Int)] 0] (by decide) h.blk (fun h=>absurd rfl h) (by omega) (fun i hi=>absurd hi (by omega)) (fun i hi=>absurd hi (by omega));rw[jb8]at k3;simp only[c0,hd2,jbx,F1,K1,G1,go_sem];refine jae 24 ?_;simp only[c0,hd2,jbx,F1,K1,G1,go_sem];refine jcz k3 (by decide) rfl h.blk ?_ ?_
   ·simp only[F1,K1,G1,go_sem];exact ja3 (by decide) h.blk (SubR.of_eq rfl)
   rintro _ L1 ⟨rfl,rfl⟩ _;refine⟨(4,1,[[.int (-1)]])::L1,?_,?_⟩
   ·simp only[F1,K1,G1,go_sem];exact Behind_pre [(4,1,[[.int (-1)]])] (by intro p hp;rw[zC.1 hp];exact jb2 h.blk (by dsimp only;decide))
   simp only[c0,hd2,jbx,F1,K1,G1,go_sem];refine jae 3 ?_;simp only[c0,hd2,jbx,F1,K1,G1,go_sem];refine jb7 L1 h.blk (ja3 (by decide) h.blk (SubR.of_eq rfl)) ?_;simp only[go_sem];exact⟨D,-1,s,rfl,h,⟨0,.zero hD⟩,.free s hsn (zJ lx1) (fun j hj hg=>lx2 j hj (zh hg)) (fun i hi=>absurd hi (by omega)) fun i hi=>absurd hi (by omega)⟩
theorem x_search(h:HasD L nm N D src)(hD:D.Ok)(hmn:D.m≠0->D.n≠0)(hm:D.m<=100000)(hn:D.n<=100000)(K:Nat)(hK:K<=1000000)(hv:∀k,(Own D k\/Free D k)->k<K)
  (sm:∀E:Dic,E.Ok->Eqv D E->SameV D E->E.m=D.m->E.n=D.n->SmD E):
  CtrH G.P 111 [.loc (hp nm.d) 6 0 0] L (fun x L'=>∃(E:Dic) (row col:Int),x= .im (.tup [.int row,.int col])/\HasD L' nm N E src/\(∃T,LP.Reach D T E)/\Final E row col):=by
 refine CtrH.loc ?_;by_cases h0:D.m=0
 ·exact x_search_empty h hD h0 hn K hK hv
 ·exact x_search_main h hD h0 (hmn h0) hm hn K hK hv sm
