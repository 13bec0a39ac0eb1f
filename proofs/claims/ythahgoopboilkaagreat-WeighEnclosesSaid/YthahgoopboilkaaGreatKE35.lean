/- A part of the proof. No further condition. -/
import Derived.Test.YthahgoopboilkaaGreatKE34
set_option linter.all false
set_option maxRecDepth 10000000
set_option maxHeartbeats 16000000
namespace Go.Proofs.YthahgoopboilkaaGreat
section
open Go.Abs
theorem jbk{e:Evid}(h:jbl e=0):(pairs e).all fitP=true/\1<=e.mats/\0<=e.houses/\0<=e.scales/\e.places.all (jib e)=true/\jdm e 0 e.moves=0/\saidF e=true:=by
 unfold jbl at h;split at h
 ·cases h
 ·split at h
  ·cases h
  ·split at h
   ·cases h
   ·split at h
    ·cases h
    ·split at h
     ·cases h
     ·split at h
      ·rename_i h6;exact absurd h h6
      ·split at h
       ·rename_i h1 h2 h3 h4 h5 h6 h7;simp at h1 h2 h3 h4 h5 h6;exact⟨by simpa using h1,by omega,by omega,by omega,by simpa using h5,h6,h7⟩
       ·cases h
theorem jo9{e:Evid}:∀{ms:List Move} {d:Int},jdm e d ms=0->∀m∈ms,moveF e m=true
 | [],_,_,m,hm=>by cases hm
 | x::r,d,h,m,hm=>by
  rw[jdm]at h;split at h
  ·cases h
  ·split at h
   ·cases h
   ·split at h
    ·cases h
    ·rename_i h3;rcases zS.1 hm with rfl | hm
     ·simpa using h3
     ·exact jo9 h m hm
theorem jhs{e:Evid}(h:jbl e=0):∀x∈e.moves,(0<=x.fr/\x.fr<(e.places.length:Int))/\(0<=x.to/\x.to<(e.places.length:Int)):=by
 intro x hx;have:=jo9 (jbk h).2.2.2.2.2.1 x hx;simp only[moveF,zr,jnw]at this;exact⟨this.1.1.1.1.1.1.1,this.1.1.1.1.1.1.2⟩
theorem purF_iff{e:Evid}{p:Purity}:purF e p=true↔(0<=p.move/\p.move<(e.moves.length:Int))/\(0<=p.mat/\p.mat<e.mats)/\0<=p.least/\p.least<=p.most/\p.most<=1000:=by
 simp only[purF,zr,jnw,yL,qg];omega
theorem jhe{e:Evid}(h:jbl e=0):∀p∈e.purs,purF e p=true:=by
 have:=(jbk h).2.2.2.2.2.2;simp only[saidF,zr,List.all_eq_true]at this;exact this.2
theorem jlt{e:Evid}(h:jbl e=0):∀p∈e.purs,(0<=p.mat/\p.mat<e.mats)/\(-9223372036854775808<=p.least/\p.least<=9223372036854775807)/\(-9223372036854775808<=p.most/\p.most<=9223372036854775807):=by
 intro p hp;have:=purF_iff.1 (jhe h p hp);omega
end
section
open Go.Abs
open Go.LP (Rw RT tsum)
attribute [local go_sem] ints ic big frac fc Evid.c Evid.iv Place.c Move.c Cert.c Recall.c Purity.c
theorem jkd{e:Evid}{M mv:Nat}{x:Move}:(je3 e M mv x).length<=2:=by
 unfold je3;split
 ·exact zE _
 ·split<;>simp
theorem jkq{e:Evid}{M:Nat}:∀i,(rowsU e M i).length<=i*(M+2+2*e.purs.length)
 | 0=>zE _
 | i+1=>by
  have ih:=jkq (e:=e) (M:=M) i;rw[rowsU,yB];split
  ·rename_i x _;have h1:(moveR e M i x).length<=M+2+2*e.purs.length:=by
    unfold moveR;rw[zH,zH];have h2:(if binF e x=true then []else jdr M e.moves i x M).length<=M:=by
     split
     ·exact zE _
     ·rw[jf0];exact zB _
    have h3:(je3 e M i x).length<=2:=by
     unfold je3;split
     ·exact zE _
     ·split<;>simp
    have h4:=jni (M:=M) (mv:=i) e.purs;omega
   rw[zH];omega
  ·omega
section
variable{e:Evid}{M:Nat}
theorem e_made(hc:jbl e=0)(hM:e.mats=(M:Int))(hml:e.moves.length<=10):
  CtrH G.P 89 [.im e.iv] [] (fun r L'=>∃(nm:MN) (os:List (List IV)),r= .loc (hp nm.d) 10 0 0/\HasM L' nm e (rowsE e) os):=by
 obtain⟨hfit,hm1,_⟩:=jbk hc;obtain⟨l1,l2,l3,l4,l5,l6,l7,l8⟩:=jld hfit;have hmv:=jhs hc;have hpu:∀p∈e.purs,0<=p.least/\p.least<=1000/\0<=p.most/\p.most<=1000:=fun p hp=>by
  have:=purF_iff.1 (jhe hc p hp);omega
 have hMe:e.mats.toNat=M:=by omega
 have hrE:rowsE e=rowsU e M e.moves.length:=by unfold rowsE;rw[hMe]
 refine jav [8] [] [.tmp 2] Tryz.func89 ?_;simp only[go_sem];refine jhw (fun d hd=> ?_);clear hd;simp only[go_sem];have hM0:HasM [(hp d,10,[e.c++[.emp,.emp]])] ⟨d,0,0⟩ e (rowsU e M 0) []:=⟨jat jc8,fun h=>absurd rfl h,fun h=>absurd rfl h,fun h=>absurd rfl h,rfl,(fun c hc=>by cases hc),(fun i w c h1 h2=>by simp at h2),ja2 _ _ _,fun h=>absurd rfl h,fun h=>absurd rfl h⟩;refine jaz [1,3,10,11,12] (fun g:(Nat×MN×List (List IV))×Abs.Rows=>⟨[(1,.loc 1 8 0 0),(3,.loc (hp d) 10 0 0),(10,.im (.sl (e.moves.map Move.c))),(11,.im (.int e.moves.length)),(12,.im (.int g.1.1))],(1,8,[e.c])::g.2,[]⟩)
  (fun g=>g.1.1<=e.moves.length/\g.1.2.1.d=d/\HasM g.2 g.1.2.1 e (rowsU e M g.1.1) g.1.2.2) (fun g=>e.moves.length-g.1.1) ((0,_,_),_) ?_ ?_ rfl ⟨zE _,rfl,hM0⟩ ?_
 ·simp only[Int.natCast_zero,go_sem]
 ·show SubR ((1,8,[e.c])::[(hp d,10,[e.c++[.emp,.emp]])]) [(hp d,10,[e.c++[.emp,.emp]]),(1,8,[e.c])];refine jb5 ?_ (jb4 _ jad);rw[ja0 _ _ (hp_ne (by decide)),ja2]
 clear hM0;rintro⟨⟨i,nm1,os1⟩,R⟩ ⟨hi,hnd,hR⟩;dsimp only at hi hnd hR;have bR:=hR.blk;have F1:=bF bR;have K1:=bK bR;have G1:=bN bR;rcases zT i e.moves.length with hlt | hlt
 ·have hd:decide ((i:Int)<e.moves.length)=true:=za (by omega);have h1:=ja9 (n:=(i:Int)+1) (by omega);obtain⟨x,hx⟩:=jby (l:=e.moves) (i:=i) (by omega);obtain⟨⟨f1,f2⟩,_⟩:=hmv x (zk hx);obtain⟨pl,hpl⟩:∃pl,e.places[x.fr.toNat]? =some pl:=⟨_,zh (by omega)⟩;have hsucc:rowsU e M (i+1)=rowsU e M i++moveR e M i x:=by rw[rowsU,hx]
  have hlen:=jkq (e:=e) (M:=M) i;have hlen2:(rowsU e M i).length<=4300:=by
   have h2:i*(M+2+2*e.purs.length)<=10*428:=qL (by omega) (by omega);omega
  have hbin:binF e x=decide (pl.kind=0):=by unfold binF;rw[hpl];rfl
  rcases hk:decide (pl.kind=0)with _ | _
  ·simp only[hd,hx,f1,f2,hpl,hk,ze,zw,F1,K1,G1,go_sem];have k1:=e_stock hR hM i x hx (by omega) (by omega) (by omega) (by omega) (hbin.trans hk);rw[hnd]at k1;refine jaj k1 (by decide) (by simp only[zl,zC,jaw];rfl) bR (ja3 (by decide) bR (ja3 (by decide) bR (SubR.refl _))) ?_;rintro _ L1 ⟨rfl,nm2,os2,hn2,hM2⟩ _;refine⟨(5,6,[x.c])::(1,8,[e.c])::L1,jap [_,_] (jbe bR (by simp)),?_⟩;have bL1:=hM2.blk;have F1x:=bF bL1;have G1x:=bN bL1;have K1x:=bK bL1;simp only[F1x,G1x,K1x,go_sem];have k2:=jsc hM2 hM i x hx (by omega) (by omega) (by omega) (by rw[zH,jf0];omega) (by omega) (by omega) (by omega);rw[hn2]at k2;refine jaj k2 (by decide) (by simp only[zl,zC,jaw];rfl) bL1 (ja3 (by decide) bL1 (ja3 (by decide) bL1 (SubR.refl _))) ?_;rintro _ L2 ⟨rfl,nm3,os3,hn3,hM3⟩ _;refine⟨(5,6,[x.c])::(1,8,[e.c])::L2,jap [_,_] (jbe bL1 (by simp)),?_⟩;have bL2:=hM3.blk;have F2x:=bF bL2;have G2x:=bN bL2;have K2x:=bK bL2;simp only[F2x,G2x,K2x,go_sem];have k3:=e_pur hM3 hM i x hx (by omega) (by omega) (by rw[zH,zH,jf0];have:=jkd (e:=e) (M:=M) (mv:=i) (x:=x);omega) (by omega) hpu;rw[hn3]at k3;refine jaj k3 (by decide) (by simp only[zl,zC,jaw];rfl) bL2 (ja3 (by decide) bL2 (ja3 (by decide) bL2 (SubR.refl _))) ?_
   rintro _ L3 ⟨rfl,nm4,os4,hn4,hM4⟩ _;refine⟨(5,6,[x.c])::(1,8,[e.c])::L3,jap [_,_] (jbe bL2 (by simp)),?_⟩;have bL3:=hM4.blk;have F3x:=bF bL3;have G3x:=bN bL3;have K3x:=bK bL3;simp only[F3x,G3x,K3x,go_sem];have hmr:moveR e M i x=jdr M e.moves i x M++je3 e M i x++purR M i e.purs:=by unfold moveR;rw[hbin,hk,zn (by decide)]
   rw[hmr]at hsucc;refine jaa ((i+1,nm4,os4),L3) ?_ (jas (by dsimp only;rw[ja0 _ _ (by decide)];exact jay bL3 (by decide)) (SubR.of_eq rfl)) rfl (by show e.moves.length-(i+1)<e.moves.length-i;omega) ⟨hlt,hn4,by dsimp only;rw[hsucc,<-qv,<-qv];exact hM4⟩;simp only[h1,Int.natCast_add,go_sem]
  ·simp only[hd,hx,f1,f2,hpl,hk,ze,zw,F1,K1,G1,go_sem];have k2:=jsc hR hM i x hx (by omega) (by omega) (by omega) (by omega) (by omega) (by omega) (by omega);rw[hnd]at k2;refine jaj k2 (by decide) (by simp only[zl,zC,jaw];rfl) bR (ja3 (by decide) bR (ja3 (by decide) bR (SubR.refl _))) ?_;rintro _ L2 ⟨rfl,nm3,os3,hn3,hM3⟩ _;refine⟨(5,6,[x.c])::(1,8,[e.c])::L2,jap [_,_] (jbe bR (by simp)),?_⟩;have bL2:=hM3.blk;have F2x:=bF bL2;have G2x:=bN bL2;have K2x:=bK bL2;simp only[F2x,G2x,K2x,go_sem];have k3:=e_pur hM3 hM i x hx (by omega) (by omega) (by rw[zH];have:=jkd (e:=e) (M:=M) (mv:=i) (x:=x);omega) (by omega) hpu;rw[hn3]at k3;refine jaj k3 (by decide) (by simp only[zl,zC,jaw];rfl) bL2 (ja3 (by decide) bL2 (ja3 (by decide) bL2 (SubR.refl _))) ?_;rintro _ L3 ⟨rfl,nm4,os4,hn4,hM4⟩ _;refine⟨(5,6,[x.c])::(1,8,[e.c])::L3,jap [_,_] (jbe bL2 (by simp)),?_⟩;have bL3:=hM4.blk;have F3x:=bF bL3;have G3x:=bN bL3;have K3x:=bK bL3;simp only[F3x,G3x,K3x,go_sem];have hmr:moveR e M i x=je3 e M i x++purR M i e.purs:=by unfold moveR;rw[hbin,hk,zm rfl,List.nil_append]
   rw[hmr]at hsucc;refine jaa ((i+1,nm4,os4),L3) ?_ (jas (by dsimp only;rw[ja0 _ _ (by decide)];exact jay bL3 (by decide)) (SubR.of_eq rfl)) rfl (by show e.moves.length-(i+1)<e.moves.length-i;omega) ⟨hlt,hn4,by dsimp only;rw[hsucc,<-qv];exact hM4⟩;simp only[h1,Int.natCast_add,go_sem]
 have hd:decide ((i:Int)<e.moves.length)=false:=zq (by omega);have hiM:i=e.moves.length:=by omega
 subst hiM;simp only[hd,go_sem];refine jbh R bR (ja3 (by decide) bR (SubR.refl _)) ?_;simp only[go_sem];refine⟨nm1,os1,by rw[hnd],?_⟩;rw[hrE];exact hR
def sysIV(e:Evid):IV:=if jbl e=0 then .tup [.agg [.int ((e.moves.length*e.mats.toNat:Nat):Int),.sl ((rowsE e).map rwC)],.int 0]else .tup [.agg [.int 0,.sl []],.int (jbl e)]
theorem jk5(hml:jbl e=0->e.moves.length<=10):Ctr G.P 48 [e.iv] (· =sysIV e):=by
 have hck:=c21 e;unfold sysIV;by_cases hc:jbl e=0
 ·obtain⟨hfit,hm1,_⟩:=jbk hc;obtain⟨l1,l2,l3,l4,l5,l6,l7,l8⟩:=jld hfit;obtain⟨M,hM⟩:∃M:Nat,e.mats=(M:Int):=⟨e.mats.toNat,by omega⟩;have hMe:e.mats.toNat=M:=by omega
  have hml':=hml hc;have km:=e_made hc hM hml';rw[zm hc,hMe];rw[hc]at hck;have hpr:e.moves.length*M<=10*6:=qL hml' (by omega);have w1:IntKind.i64.wrap ((e.moves.length:Int)*e.mats)=((e.moves.length*M:Nat):Int):=by
   rw[hM,<-Int.natCast_mul];exact ja9 (by omega)
  refine jk6 (φ:=fun r L'=>∃(y:IV) (bs:List Nat),r= .im y/\frzL bs y L'= .tup [.agg [.int ((e.moves.length*M:Nat):Int),.sl ((rowsE e).map rwC)],.int 0]) ?_ (fun r L' ⟨y,bs,h1,h2⟩=>⟨y,bs,h1,h2⟩);simp only[zl,zC];refine jav [] [] [.cell 2 105,.tmp 3] Tryz.func48 ?_;simp only[go_sem];refine ja1 hck ?_;simp only[go_sem];refine jkb [false,false,false,false,false,false,false,true,true,true,true] [(1,8,[e.c])] (by decide+kernel) (by decide+kernel) ?_ ?_
  ·exact jas rfl (SubR.of_eq rfl)
  simp only[w1,zw,go_sem];refine jct km (by decide) (by simp only[zl,zC,qr];rfl) jc8 jad ?_;rintro _ L1 ⟨nm,os,rfl,hH⟩ _;refine⟨(2,2,[[.int 0,.emp]])::(1,8,[e.c])::L1,Behind_pre1 (pre:=[_,_]),?_⟩;have bL1:=hH.blk;have F1:=bF bL1;have K1:=bK bL1;have G1:=bN bL1;have n2:∀k,(2 !=hp k)=true:=fun k=>by simp only[qk,ne_eq];exact hp_ne (by decide)
  have n1:∀k,(1 !=hp k)=true:=fun k=>by simp only[qk,ne_eq];exact hp_ne (by decide)
  have hd0:=hH.hd;have hsub:SubR [(1,8,[e.c])] ((2,2,[[.int 0,.emp]])::(1,8,[e.c])::L1):=jas rfl (jax (ja2 _ _ _));unfold Evid.c at hd0 hsub;have bn:∀k,¬(2=hp k)/\¬(1=hp k):=fun k=>⟨hp_ne (by decide),hp_ne (by decide)⟩;rcases yP (rowsE e).length with h0 | h0
  ·rw[h0,jbc,jbc]at hd0;rw[ye.1 h0];simp only[hd0,F1,K1,G1,n1,n2,go_sem];refine⟨hsub,hsub,hsub,hsub,?_⟩;refine jbg ?_;simp only[go_sem];refine⟨_,[nm.d],rfl,?_⟩;rw[jdx (s:=10) (by rw[jau,ja0 _ _ (hp_ne (by decide)).symm,ja0 _ _ (hp_ne (by decide)).symm];exact hd0),jgb];simp only[frz3,frz2,frz1,zl,zC]
  ·have hr0:=hH.hr (by omega);rw[jao (by omega),jao (by omega)]at hd0;simp only[hd0,hr0,F1,K1,G1,n1,n2,go_sem];refine⟨hsub,hsub,hsub,hsub,?_⟩;refine jbg ?_;simp only[go_sem];refine⟨_,[nm.r],rfl,?_⟩;rw[jdx (s:=6) (by rw[jau,ja0 _ _ (hp_ne (by decide)).symm,ja0 _ _ (hp_ne (by decide)).symm];exact hr0),jgb];have e1:(List.take (rowsE e).length ((rowsE e).map rwC))=(rowsE e).map rwC:=zt (by rw[zw];exact zB _);simp only[frz3,frz2,frz1,zl,zC,zw,zB,j7,qC,e1]
 ·rw[zn hc];generalize jbl e=k at*;have hk:decide (k=0)=false:=zq hc;refine ja5 [.cell 2 105,.tmp 3] Tryz.func48 ?_;unfold Evid.iv Evid.c at*;simp only[go_sem];refine ja1 hck ?_;simp only[hk,go_sem]
end
end
section
open Go.Abs
open Go.LP (Dic Rw RT Ov OvRw tsum Sol IsMin NoMin)
attribute [local go_sem] ints ic big frac fc zc
theorem x_negz:Ctr G.P 52 [.agg zc] (· = .agg zc):=by
 have k1:=jf5 0 0 [] [] (by decide) (by decide);have e:fracF 0 [] 0 []=false:=by decide+kernel
 rw[e]at k1;simp only[ints,zC]at k1;unfold zc;refine ja5 [.cell 2 35] Tryz.func52 ?_;simp only[go_sem];refine ja1 k1 ?_;simp only[go_sem]
section
variable{N:Nat}{ws:List Rw}{goal:List (Nat×Rat)}
theorem job{M:Nat}:∀{ts:List (Nat×Rat)} {lo N:Nat},RT ts lo N->N<=M->RT ts lo M
 | [],_,_,_,_=>trivial
 | t::ts,lo,N,h,hm=>⟨h.1,zY h.2.1 hm,h.2.2.1,job h.2.2.2 hm⟩
theorem RT_mulT{f:Rat}(h0:f≠0):∀{ts:List (Nat×Rat)} {lo N:Nat},RT ts lo N->RT (mulT f ts) lo N
 | [],_,_,_=>trivial
 | t::ts,lo,N,h=>⟨h.1,h.2.1,(fun e=>by rcases Rat.mul_eq_zero.1 e with e | e;exact h.2.2.1 e;exact h0 e),RT_mulT h0 h.2.2.2⟩
theorem GoalOk.opp(h:GoalOk N goal):GoalOk N (mulT ((-1:Int):Rat) goal):=by
 refine⟨RT_mulT (by decide) h.rt,fun t ht=> ?_⟩;obtain⟨u,hu,rfl⟩:=qq.1 ht;obtain⟨z,h1,h2⟩:=h.ov u hu;refine⟨-z,?_,by rw[yu];exact h2⟩;dsimp only;have e:((-1:Int):Rat)= -1:=by decide
 have e2:((-z:Int):Rat)= -(z:Rat):=Rat.intCast_neg z;rw[e,e2,<-h1];grind
theorem jgm{f:Rat}{x:Nat->Rat}:∀{ts:List (Nat×Rat)},tsum (mulT f ts) x=f*tsum ts x
 | []=>by show(0:Rat)=f*0;grind
 | t::ts=>by
  show t.2*f*x t.1+tsum (mulT f ts) x=f*(t.2*x t.1+tsum ts x);rw[jgm];grind
theorem Says.shape{o:List IV}(h:Says N ws goal o):∃(k a c:Int) (b d P Y Z:List (List IV)),o=[.int k,.int a,.sl b,.int c,.sl d,.sl P,.sl Y,.sl Z]/\(isNone o=decide (k=1)):=by
 cases h with
 | found v x Y=>exact⟨0,_,_,_,_,_,_,_,rfl,rfl⟩
 | none Y=>exact⟨1,_,_,_,_,_,_,_,rfl,rfl⟩
 | free x Z=>exact⟨2,_,_,_,_,_,_,_,rfl,rfl⟩
def zo:List IV:=[.int 0]++zc++[.sl [],.sl [],.sl []]
noncomputable def spanR(N:Nat)(ws:List Rw)(goal:List (Nat×Rat)):IV:=
 if isNone (jd9 N ws goal)=true then .tup [.agg (zo++zo),.int 15]else .tup [.agg (jd9 N ws goal++jd9 N ws (mulT ((-1:Int):Rat) goal)),.int 0]
theorem x_Of(hs:SysOk N ws)(hg:GoalOk N goal):Ctr G.P 49 [.agg [.int N,.sl (ws.map rwC)],.sl (goal.map tmC)] (· =spanR N ws goal):=by
 have hn:=hs.n;have hl:=hg.len;have k1:=jqy hs hg;have k2:=x_opp goal (job hg.rt (by omega)) (by omega) hg.fl;have k3:=jqy hs hg.opp;obtain⟨k,a,c,b,d,P,Y,Z,e1,e2⟩:=(jcw hs hg).shape;obtain⟨k',a',c',b',d',P',Y',Z',e3,e4⟩:=(jcw hs hg.opp).shape;unfold spanR;rw[e2];rw[e1]at k1⊢;rw[e3]at k3⊢;generalize (mulT ((-1:Int):Rat) goal).map tmC=og at*;by_cases hk:k=1
 ·have hd:decide (k=1)=true:=za hk;rw[hd,zm rfl];unfold zo;refine ja5 [.cell 4 40,.tmp 5] Tryz.func49 ?_;simp only[go_sem];refine ja1 k1 ?_;simp only[hd,go_sem]
 ·have hd:decide (k=1)=false:=zq hk;rw[hd,zn (by decide)];refine ja5 [.cell 4 40,.tmp 5] Tryz.func49 ?_;simp only[go_sem];refine ja1 k1 ?_;simp only[hd,go_sem];refine jaf ?_;simp only[hd,go_sem];refine ja4 k2 (by decide) ?_;simp only[hd,go_sem];refine ja4 k3 (by decide) ?_;simp only[hd,go_sem]
end
theorem jhz(k1 k2 a1 c1 a2 c2 a3 c3:Int)(l1 m1 l2 m2 l3 m3:List Int)(P1 Y1 Z1 P2 Y2 Z2:List (List IV))(hf:Ctr G.P 51 [.agg [.int a1,ints l1,.int c1,ints m1]] (· = .agg [.int a1,ints l1,.int c1,ints m1]))(hN:Ctr G.P 52 [.agg [.int a2,ints l2,.int c2,ints m2]] (· = .agg [.int a3,ints l3,.int c3,ints m3])):
  Ctr G.P 12 [.agg [.int k1,.int a1,ints l1,.int c1,ints m1,.sl P1,.sl Y1,.sl Z1,.int k2,.int a2,ints l2,.int c2,ints m2,.sl P2,.sl Y2,.sl Z2]]
   (· = .agg ((if k1=0 then [.int a1,ints l1,.int c1,ints m1]else zc)++(if k2=0 then [.int a3,ints l3,.int c3,ints m3]else zc)++[.bool (decide (k1=0)),.bool (decide (k2=0))])):=by
 unfold ints at*;generalize l1.map ic=l1' at*;generalize m1.map ic=m1' at*;generalize l2.map ic=l2' at*;generalize m2.map ic=m2' at*;generalize l3.map ic=l3' at*;generalize m3.map ic=m3' at*;by_cases h1:k1=0<;>by_cases h2:k2=0
 ·subst h1 h2;refine ja5 [.cell 2 50] Tryz.func12 ?_;simp only[go_sem];refine ja1 hf ?_;simp only[go_sem];refine ja1 hN ?_;simp only[go_sem]
 ·subst h1;have d2:decide (k2=0)=false:=zq h2;rw[zm rfl,zn h2,d2];refine ja5 [.cell 2 50] Tryz.func12 ?_;simp only[go_sem];refine ja1 hf ?_;simp only[d2,go_sem]
  try rfl
 ·subst h2;have d1:decide (k1=0)=false:=zq h1;rw[zm rfl,zn h1,d1];refine ja5 [.cell 2 50] Tryz.func12 ?_;simp only[d1,go_sem];refine ja1 hN ?_;simp only[d1,go_sem]
  try rfl
 ·have d1:decide (k1=0)=false:=zq h1;have d2:decide (k2=0)=false:=zq h2;rw[zn h1,zn h2,d1,d2];refine ja5 [.cell 2 50] Tryz.func12 ?_;simp only[d1,d2,go_sem]
  try rfl
end
section
open Go.Abs
open Go.LP (Dic Rw RT Ov OvRw tsum Sol IsMin NoMin)
attribute [local go_sem] ints ic big frac fc zc
theorem jq8(a c:Int)(l m:List Int)(hl':l.length<=100000000000)(hm':m.length<=100000000000):Ctr G.P 51 [.agg [.int a,ints l,.int c,ints m]] (· = .agg [.int a,ints l,.int c,ints m]):=by
 unfold ints;have hl:∀c∈l.map ic,c.length=1:=fun c hc=>by obtain⟨z,_,rfl⟩:=qq.1 hc;rfl
 have hm:∀c∈m.map ic,c.length=1:=fun c hc=>by obtain⟨z,_,rfl⟩:=qq.1 hc;rfl
 have hl2:(l.map ic).length*8<=140737488355328:=by rw[zw];omega
 have hm2:(m.map ic).length*8<=140737488355328:=by rw[zw];omega
 generalize l.map ic=l' at*;generalize m.map ic=m' at*;refine ja5 [.cell 2 35] Tryz.func51 ?_;simp only[go_sem];refine jac 17 ?_;simp only[hl2,hm2,go_sem]
 all_goals exact⟨hl,hm⟩
section
variable{N:Nat}{ws:List Rw}{goal:List (Nat×Rat)}
def sideC(b:Option Rat):List IV:=match b with
 | some v=>fc v
 | none=>zc
theorem x_bnd(b1 b2:Option Rat)(k1 k2:Int)(P1 Y1 Z1 P2 Y2 Z2:List (List IV))(e1:decide (k1=0)=b1.isSome)(e2:decide (k2=0)=b2.isSome)(f1:∀v,b1=some v->FL 4000000000 v)(f2:∀v,b2=some v->FL 4000000000 v):
  Ctr G.P 12 [.agg (([.int k1]++sideC b1++[.sl P1,.sl Y1,.sl Z1])++([.int k2]++sideC b2++[.sl P2,.sl Y2,.sl Z2]))] (· = .agg (sideC b1++sideC (b2.map fun v=> -v)++[.bool b1.isSome,.bool b2.isSome])):=by
 have hz:Ctr G.P 52 [.agg [.int 0,ints [],.int 0,ints []]] (· = .agg [.int 0,ints [],.int 0,ints []]):=x_negz;have hz1:Ctr G.P 51 [.agg [.int 0,ints [],.int 0,ints []]] (· = .agg [.int 0,ints [],.int 0,ints []]):=jq8 0 0 [] [] (by simp) (by simp);cases b1 with
 | none=>
  have d1:¬k1=0:=zJ e1;cases b2 with
  | none=>
   have d2:¬k2=0:=zJ e2;have h:=jhz k1 k2 0 0 0 0 0 0 [] [] [] [] [] [] P1 Y1 Z1 P2 Y2 Z2 hz1 hz;rw[zn d1,zn d2,e1,e2]at h;exact h
  | some v=>
   have d2:k2=0:=zI e2;have hN:=f_neg ((f2 v rfl).mono (by omega:4000000000<=19000000000));have h:=jhz k1 k2 0 0 _ _ _ _ [] [] _ _ _ _ P1 Y1 Z1 P2 Y2 Z2 hz1 hN;rw[zn d1,zm d2,e1,e2]at h;exact h
 | some u=>
  have d1:k1=0:=zI e1;have hu:=f1 u rfl;have hf:=jq8 u.num.sign (u.den:Int).sign (dig u.num.natAbs) (dig (u.den:Int).natAbs) (by have:=hu.1;omega) (by have:=hu.2;rw[Int.natAbs_natCast];omega);cases b2 with
  | none=>
   have d2:¬k2=0:=zJ e2;have h:=jhz k1 k2 _ _ 0 0 0 0 _ _ [] [] [] [] P1 Y1 Z1 P2 Y2 Z2 hf hz;rw[zm d1,zn d2,e1,e2]at h;exact h
  | some v=>
   have d2:k2=0:=zI e2;have hN:=f_neg ((f2 v rfl).mono (by omega:4000000000<=19000000000));have h:=jhz k1 k2 _ _ _ _ _ _ _ _ _ _ _ _ P1 Y1 Z1 P2 Y2 Z2 hf hN;rw[zm d1,zm d2,e1,e2]at h;exact h
end
end
end Go.Proofs.YthahgoopboilkaaGreat
namespace Go.LW
section
theorem perm_map_inv{α β:Type}{f:α->β}{m n:List β}(h:m.Perm n):∀{l:List α},n=l.map f->∃l':List α,l'.Perm l/\m=l'.map f:=by
 induction h with
 | nil=>intro l hl;exact⟨l,jX _,hl⟩
 | cons x _ ih=>
  intro l hl;cases l with
  | nil=>cases hl
  | cons a l=>
   rw[zl]at hl;injection hl with h1 h2;obtain⟨l',g1,g2⟩:=ih h2;exact⟨a::l',g1.cons a,by rw[zl,<-h1,<-g2]⟩
 | swap x y t=>
  intro l hl
  match l,hl with
  | a::c::l,hl=>
   rw[zl,zl]at hl;injection hl with h1 h2;injection h2 with h2 h3;exact⟨c::a::l,List.Perm.swap _ _ _,by rw[zl,zl,<-h1,<-h2,<-h3]⟩
 | trans _ _ ih1 ih2=>
  intro l hl;obtain⟨l2,g1,g2⟩:=ih2 hl;obtain⟨l1,g3,g4⟩:=ih1 g2;exact⟨l1,g3.trans g1,g4⟩
theorem jkl:∀{l m:List Nat},l.Perm m->l.Pairwise (· <= ·)->m.Pairwise (· <= ·)->l=m
 | [],m,h,_,_=>(List.Perm.nil_eq h)
 | a::l,[],h,_,_=>absurd h.length_eq (by simp)
 | a::l,b::m,h,h1,h2=>by
  rw[yQ]at h1 h2;have ha:a∈b::m:=h.mem_iff.1 (zN ..);have hb:b∈a::l:=h.mem_iff.2 (zN ..);have e:a=b:=by
   rcases zS.1 ha with e | ha
   ·exact e
   ·rcases zS.1 hb with e | hb
    ·exact e.symm
    ·exact yY (h1.1 b hb) (h2.1 a ha)
  subst e;rw[jkl ((List.perm_cons a).1 h) h1.2 h2.2]
def ins(a:Nat):List Nat->List Nat
 | []=>[a]
 | b::l=>if a<=b then a::b::l else b::ins a l
def isort:List Nat->List Nat
 | []=>[]
 | a::l=>ins a (isort l)
theorem jnv(a:Nat):∀l:List Nat,(ins a l).Perm (a::l)
 | []=>jX _
 | b::l=>by
  unfold ins;split
  ·exact jX _
  ·exact((jnv a l).cons b).trans (List.Perm.swap _ _ _)
theorem isort_perm:∀l:List Nat,(isort l).Perm l
 | []=>jX _
 | a::l=>(jnv a _).trans ((isort_perm l).cons a)
theorem jms(a:Nat):∀{l:List Nat},l.Pairwise (· <= ·)->(ins a l).Pairwise (· <= ·)
 | [],_=>by simp[ins]
 | b::l,h=>by
  have h0:=yQ.1 h;unfold ins;split
  ·rename_i hab;refine yQ.2 ⟨fun c hc=> ?_,h⟩;rcases zS.1 hc with rfl | hc
   ·exact hab
   ·exact qn hab (h0.1 c hc)
  ·rename_i hab;refine yQ.2 ⟨fun c hc=> ?_,jms a h0.2⟩;rcases zS.1 ((jnv a l).mem_iff.1 hc)with rfl | hc
   ·omega
   ·exact h0.1 c hc
theorem isort_sorted:∀l:List Nat,(isort l).Pairwise (· <= ·)
 | []=>List.Pairwise.nil
 | a::l=>jms a (isort_sorted l)
theorem isort_of{l m:List Nat}(hp:m.Perm l)(hs:m.Pairwise (· <= ·)):m=isort l:=jkl (hp.trans (isort_perm l).symm) hs (isort_sorted l)
def noDup:List Nat->Bool
 | a::b::l=> !decide (a=b)&&noDup (b::l)
 | _=>true
theorem noDup_lt:∀{l:List Nat},l.Pairwise (· <= ·)->noDup l=true->l.Pairwise (· < ·)
 | [],_,_=>List.Pairwise.nil
 | [a],_,_=>by simp
 | a::b::l,h,hn=>by
  have h0:=yQ.1 h;rw[noDup,zr]at hn;have ih:=noDup_lt h0.2 hn.2;have hab:a≠b:=by simpa using hn.1
  have hle:=h0.1 b (zN ..);refine yQ.2 ⟨fun c hc=> ?_,ih⟩;rcases zS.1 hc with rfl | hc
  ·omega
  ·have:=(yQ.1 ih).1 c hc;omega
theorem noDup_at:∀{l:List Nat},noDup l=true↔∀(i:Nat) (a b:Nat),l[i]? =some a->l[i+1]? =some b->a≠b
 | []=>by simp[noDup]
 | [a]=>by simp[noDup]
 | a::b::l=>by
  rw[noDup,zr,noDup_at (l:=b::l)];constructor
  ·rintro⟨h1,h2⟩ i x y hx hy;cases i with
   | zero=>simp at hx hy h1;subst hx hy;exact h1
   | succ i=>exact h2 i x y (by simpa using hx) (by simpa using hy)
  ·intro h;exact⟨by simpa using h 0 a b rfl rfl,fun i x y hx hy=>h (i+1) x y (by simpa using hx) (by simpa using hy)⟩
end
end Go.LW
namespace Go.LP
section
open Go.LW (isort isort_perm noDup noDup_lt isort_sorted)
theorem noDup_iff{l:List Nat}:noDup (isort l)=true↔l.Nodup:=by
 constructor
 ·intro h;have h1:=noDup_lt (isort_sorted l) h;have h2:(isort l).Nodup:=h1.imp fun hab=>Nat.ne_of_lt hab;exact(isort_perm l).nodup_iff.1 h2
 ·intro h;have h2:(isort l).Nodup:=(isort_perm l).nodup_iff.2 h;refine Go.LW.noDup_at.2 fun i a b ha hb hab=> ?_;subst hab;obtain⟨hi,e1⟩:=zu.1 ha;obtain⟨hj,e2⟩:=zu.1 hb;have:=List.pairwise_iff_getElem.1 h2 i (i+1) hi hj (qE _);exact this (e1.trans e2.symm)
def ksum:List Nat->(Nat->Rat)->Rat
 | [],_=>0
 | k::l,x=>x k+ksum l x
theorem ksum_perm{l m:List Nat}(h:l.Perm m)(x:Nat->Rat):ksum l x=ksum m x:=by
 induction h with
 | nil=>rfl
 | cons a _ ih=>simp only[ksum,ih]
 | swap a b l=>simp only[ksum];grind
 | trans _ _ h1 h2=>exact h1.trans h2
theorem jrw:∀(l m:List Nat) (x:Nat->Rat),ksum (l++m) x=ksum l x+ksum m x
 | [],m,x=>by simp only[List.nil_append,ksum];grind
 | a::l,m,x=>by rw[List.cons_append,ksum,jrw l m x,ksum];grind
theorem jhn{N:Nat}{x:Nat->Rat}(hx:∀k,k<N->0<=x k):∀{l:List Nat},(∀k∈l,k<N)->0<=ksum l x
 | [],_=>by simp only[ksum];grind
 | a::l,h=>by
  have h1:=hx a (h a (zN ..));have h2:=jhn hx (l:=l) fun k hk=>h k (zQ _ hk);rw[ksum];grind
def ones(l:List Nat):List (Nat×Rat):=l.map fun k=>(k,1)
theorem jkf:∀(l:List Nat) (x:Nat->Rat),tsum (ones l) x=ksum l x
 | [],x=>rfl
 | a::l,x=>by
  show 1*x a+tsum (ones l) x=x a+ksum l x;rw[jkf l x];grind
theorem RT_ones:∀{l:List Nat} {lo N:Nat},l.Pairwise (· < ·)->(∀k∈l,lo<=k/\k<N)->RT (ones l) lo N
 | [],_,_,_,_=>trivial
 | a::l,lo,N,hp,h=>by
  have h0:=yQ.1 hp;have ha:=h a (zN ..);exact⟨ha.1,ha.2,show(1:Rat)≠0 by decide,RT_ones h0.2 fun k hk=>⟨h0.1 k hk,(h k (zQ _ hk)).2⟩⟩
structure Bds(N:Nat)(ws:List Rw)(f:(Nat->Rat)->Rat)(lo:Rat)(hi:Option Rat):Prop where
 low_at:∃x,Sol N ws x/\f x=lo
 low:∀x,Sol N ws x->lo<=f x
 high_at:∀w,hi=some w->∃x,Sol N ws x/\f x=w
 high:∀w,hi=some w->∀x,Sol N ws x->f x<=w
 wide:hi=none->∀c:Rat,∃x,Sol N ws x/\c<f x
section
variable{N:Nat}{ws ws':List Rw}{f g:(Nat->Rat)->Rat}{lo lo' lo2:Rat}{hi hi' hi2:Option Rat}
theorem Bds.sol(h:Bds N ws f lo hi):∃x,Sol N ws x:=h.low_at.imp fun _ h=>h.1
theorem Bds.congr(h:Bds N ws f lo hi)(he:∀x,f x=g x):Bds N ws g lo hi:=by
 have:f=g:=funext he;rw[<-this];exact h
