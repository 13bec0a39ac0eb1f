/- A part of the proof. No further condition. -/
import Derived.Test.YtkcekimolppapaaGreatKS32
set_option linter.all false
set_option maxRecDepth 10000000
set_option maxHeartbeats 16000000
namespace Go.LP
section
theorem jm8(f:Nat->Nat)(p:Nat->Prop):∀{m:Nat},(∃i,i<m/\p i)->∃i,i<m/\p i/\∀j,j<m->p j->f i<=f j
 | 0,⟨i,hi,_⟩=>absurd hi (yN _)
 | m+1,⟨i,hi,hp⟩=>by
  by_cases h:∃k,k<m/\p k
  ·obtain⟨a,h1,h2,h3⟩:=jm8 f p h;by_cases hm:p m/\f m<f a
   ·refine⟨m,jr _,hm.1,fun j hj hpj=> ?_⟩;by_cases e:j=m
    ·subst e;exact zt _
    ·have:=h3 j (by omega) hpj;omega
   ·refine⟨a,by omega,h2,fun j hj hpj=> ?_⟩;by_cases e:j=m
    ·subst e;have:¬f j<f a:=fun hlt=>hm ⟨hpj,hlt⟩;omega
    ·exact h3 j (by omega) hpj
  ·have e:i=m:=by
    by_cases e:i=m
    ·exact e
    ·exact absurd ⟨i,by omega,hp⟩ h
   subst e;refine⟨i,hi,hp,fun j hj hpj=> ?_⟩;by_cases e:j=i
   ·subst e;exact zt _
   ·exact absurd ⟨j,by omega,hpj⟩ h
section
variable{D E:Dic}{a b:Int}{r s:Nat}
theorem nn_of{x:Rat}(h:¬x<0):0<=x:=by grind
theorem np_of{x:Rat}(h:¬0<x):x<=0:=by grind
theorem step_or_final(hE:E.Ok):(∃r s,Rule E r s)\/∃a b,Final E a b:=by
 by_cases hr:∃i,i<E.m/\E.v i<0
 ·obtain⟨r,hrm,hrv,hrl⟩:=jm8 E.own (fun i=>E.v i<0) hr;by_cases hrf:∀j,j<E.n->0<E.g j->E.own r<E.free j
  ·by_cases ha:∃j,j<E.n/\E.a r j<0
   ·obtain⟨s,hsn,hsa,hsl⟩:=jm8 E.free (fun j=>E.a r j<0) ha;exact .inl ⟨r,s,hrm,hsn,.inl ⟨hrv,hrl,hrf,hsa,hsl⟩⟩
   ·exact .inr ⟨r,-1,.none r hrm hrv hrl hrf fun j hj=>nn_of fun h=>ha ⟨j,hj,h⟩⟩
  ·have hs:∃j,j<E.n/\0<E.g j:=by
    by_cases hs:∃j,j<E.n/\0<E.g j
    ·exact hs
    ·exact absurd (fun j hj hg=>absurd ⟨j,hj,hg⟩ hs) hrf
   obtain⟨s,hsn,hsg,hsl⟩:=jm8 E.free (fun j=>0<E.g j) hs;have hsf:∀i,i<E.m->E.v i<0->E.free s<E.own i:=fun i hi hv=>by
    have h1:=hrl i hi hv;have h2:¬E.own r<E.free s:=fun h=>hrf fun j hj hg=>qv h (hsl j hj hg);have h3:=hE.apart r s hrm hsn;omega
   by_cases ha:∃i,i<E.m/\0<E.a i s
   ·obtain⟨q,hqm,hqa,hql⟩:=jm8 E.own (fun i=>0<E.a i s) ha;exact .inl ⟨q,s,hqm,hsn,.inr ⟨hsg,hsl,hsf,hqa,hql⟩⟩
   ·exact .inr ⟨-1,s,.free s hsn hsg hsl hsf fun i hi=>np_of fun h=>ha ⟨i,hi,h⟩⟩
 ·have hv:∀i,i<E.m->0<=E.v i:=fun i hi=>nn_of fun h=>hr ⟨i,hi,h⟩;by_cases hs:∃j,j<E.n/\0<E.g j
  ·obtain⟨s,hsn,hsg,hsl⟩:=jm8 E.free (fun j=>0<E.g j) hs;have hsf:∀i,i<E.m->E.v i<0->E.free s<E.own i:=fun i hi h=>absurd ⟨i,hi,h⟩ hr;by_cases ha:∃i,i<E.m/\0<E.a i s
   ·obtain⟨q,hqm,hqa,hql⟩:=jm8 E.own (fun i=>0<E.a i s) ha;exact .inl ⟨q,s,hqm,hsn,.inr ⟨hsg,hsl,hsf,hqa,hql⟩⟩
   ·exact .inr ⟨-1,s,.free s hsn hsg hsl hsf fun i hi=>np_of fun h=>ha ⟨i,hi,h⟩⟩
  ·exact .inr ⟨-1,-1,.best hv fun j hj=>np_of fun h=>hs ⟨j,hj,h⟩⟩
theorem jkz{K:Nat}(hK:∀k,(Own D k\/Free D k)->k<K):∀(n T:Nat) (E:Dic),Reach D T E->2^K-T<=n->∃T' E' a b,Reach D T' E'/\Final E' a b
 | n,T,E,h,hn=>by
  have hb:=h.bound hK;rcases step_or_final h.facts.1 with ⟨r,s,hr⟩ | ⟨a,b,hf⟩
  ·have h2:=h.step hr;have hb2:=h2.bound hK
   match n,hn with
   | 0,hn=>omega
   | n+1,hn=>exact jkz hK n (T+1) _ h2 (by omega)
  ·exact⟨T,E,a,b,h,hf⟩
theorem ends{K:Nat}(hD:D.Ok)(hK:∀k,(Own D k\/Free D k)->k<K):∃T E a b,Reach D T E/\Final E a b:=jkz hK (2^K) 0 D (.zero hD) (Nat.sub_le _ _)
theorem Final.inv_best(h:Final E a b)(ha:a= -1)(hb:b= -1):(∀i,i<E.m->0<=E.v i)/\∀j,j<E.n->E.g j<=0:=by
 cases h with
 | best h1 h2=>exact⟨h1,h2⟩
 | none r=>omega
 | free s=>omega
theorem Final.inv_none(h:Final E a b)(ha:a=(r:Int)):r<E.m/\E.v r<0/\∀j,j<E.n->0<=E.a r j:=by
 cases h with
 | best h1 h2=>omega
 | none r' h1 h2 h3 h4 h5=>have e:=vb.1 ha;subst e;exact⟨h1,h2,h5⟩
 | free s=>omega
theorem Final.inv_free(h:Final E a b)(hb:b=(s:Int)):s<E.n/\0<E.g s/\∀i,i<E.m->E.a i s<=0:=by
 cases h with
 | best h1 h2=>omega
 | none r=>omega
 | free s' h1 h2 h3 h4 h5=>have e:=vb.1 hb;subst e;exact⟨h1,h2,h5⟩
end
end
end Go.LP
namespace Go.Proofs.YtkcekimolppapaaGreat
section
open Go.Abs
open Go.LP (Dic Rw RT Ov OvRw Own Free Final first jb4 tsum Sol IsMin NoMin)
attribute [local go_sem] ints ic big frac fc zc
section
variable{N:Nat}{ws:List Rw}{goal:List (Nat×Rat)}
def capN(N:Nat):Nat:=2^N*(100+1)/20+1
theorem EndsAt.ptF{E:Dic}(hE:EndsAt N ws goal E)(hs:SysOk N ws)(hg:GoalOk N goal)(k:Nat):FL (capN N) (E.pt k):=by
 have hm:=LP.mk_first (goal:=goal) hs.ok;obtain⟨q',hsm⟩:=LP.small_all hm.ok hE.ok hE.eqv hE.same (LP.small_first (by decide:0<1000) (by decide:1000<=2^100) hs.ov hg.ov);rw[hm.n]at hsm;have h1:1<=2^N:=Nat.one_le_two_pow;unfold LP.Dic.pt;split
 ·rename_i i hi;exact FL_ov (hsm.v i (LP.find_some hi).1) hsm.q0 hsm.qB (zt _)
 ·exact(jc5 (n:=0) (by omega)).mono (by unfold capN;omega)
def isNone(o:List IV):Bool:=match o with
 | .sc (.int .i64 1)::_=>true
 | _=>false
inductive Says(N:Nat)(ws:List Rw)(goal:List (Nat×Rat)):List IV->Prop
 | found (v:Rat) (x:Nat->Rat) (Y:List (List IV)):FL 4000000000 v->IsMin N ws goal v->Sol N ws x->tsum goal x=v->(∀k,FL (capN N) (x k))->Says N ws goal ([.int 0]++fc v++[xl N x,.sl Y,.sl []])
 | none (Y:List (List IV)):(∀x,¬Sol N ws x)->Says N ws goal ([.int 1]++zc++[.sl [],.sl Y,.sl []])
 | free (x:Nat->Rat) (Z:List (List IV)):NoMin N ws goal->Sol N ws x->(∀k,FL (capN N) (x k))->Says N ws goal ([.int 2]++zc++[xl N x,.sl [],.sl Z])
theorem FL_tsum{goal:List (Nat×Rat)}{x:Nat->Rat}(hl:goal.length<=18)(hf:∀t∈goal,FL 100000000 t.2)(hx:∀k,FL 100000000 (x k)):FL 4000000000 (tsum goal x):=by
 rw[<-jpa];refine(jp1 hf (fun t _=>hx t.1) goal.length).mono ?_;have:goal.length*(100000000+100000000+1)<=18*(100000000+100000000+1):=qw _ hl;omega
theorem LeastR.ex(hs:SysOk N ws):∃o,LeastR N ws goal o:=by
 have hmk:=LP.mk_first (goal:=goal) hs.ok;have hmk0:=LP.mk_first (goal:=[]) hs.ok;obtain⟨T,E,a,b,hR,hF⟩:=LP.ends hmk.ok (K:=N+(first N ws goal).m) fun k hk=>(LP.own_lt hmk k).1 hk;cases hF with
 | best h1 h2=>exact⟨_,.found E T hR (.best h1 h2)⟩
 | none r h1 h2 h3 h4 h5=>exact⟨_,.none E T r hR (.none r h1 h2 h3 h4 h5)⟩
 | free s h1 h2 h3 h4 h5=>
  obtain⟨T',E',a',b',hR',hF'⟩:=LP.ends hmk0.ok (K:=N+(first N ws []).m) fun k hk=>(LP.own_lt hmk0 k).1 hk;cases hF' with
  | best g1 g2=>exact⟨_,.free E E' T T' s hR (.free s h1 h2 h3 h4 h5) hR' (.best g1 g2)⟩
  | none r g1 g2 g3 g4 g5=>exact⟨_,.none2 E E' T T' s r hR (.free s h1 h2 h3 h4 h5) hR' (.none r g1 g2 g3 g4 g5)⟩
  | free s' g1 g2=>
   have hE':=EndsAt.of hs hR';rw[LP.final_nil hs.ok hE'.ok hE'.eqv g1]at g2;exact absurd g2 (by decide)
theorem LeastR.says(hs:SysOk N ws)(hg:GoalOk N goal){o:List IV}(h:LeastR N ws goal o):Says N ws goal o:=by
 cases h with
 | found E T hR hF=>
  have hE:=EndsAt.of hs hR;obtain⟨h1,h2⟩:=hF.inv_best rfl rfl;obtain⟨h3,h4⟩:=LP.final_best hs.ok hg.rt hE.ok hE.eqv hE.same h1 h2;have hl:=hg.len;have hn:=hs.n;exact .found _ E.pt _ (FL_tsum (by omega) hg.fl fun k=>FL_pt (hs.smD hg E hE.ok hE.eqv hE.same) k) ⟨⟨_,h3,rfl⟩,h4⟩ h3 rfl (hE.ptF hs hg)
 | none E T r hR hF=>
  have hE:=EndsAt.of hs hR;obtain⟨h1,h2,h3⟩:=hF.inv_none rfl;exact .none _ (LP.final_none hs.ok hE.eqv hE.same h1 h2 h3)
 | none2 E E' T T' s r hR hF hR' hF'=>
  have hE:=EndsAt.of hs hR';obtain⟨h1,h2,h3⟩:=hF'.inv_none rfl;exact .none _ (LP.final_none hs.ok hE.eqv hE.same h1 h2 h3)
 | free E E' T T' s hR hF hR' hF'=>
  have hE:=EndsAt.of hs hR;have hE':=EndsAt.of hs hR';obtain⟨h1,h2,h3⟩:=hF.inv_free rfl;obtain⟨g1,g2⟩:=hF'.inv_best rfl rfl;obtain⟨h4,_⟩:=LP.final_best hs.ok (show RT [] 0 N from trivial) hE'.ok hE'.eqv hE'.same g1 g2;exact .free E'.pt _ ⟨⟨_,h4⟩,LP.final_free hs.ok hg.rt hE.ok hE.eqv hE.same h1 h2 h3 h4⟩ h4 (hE'.ptF hs ⟨show RT [] 0 N from trivial,fun t ht=>(by cases ht)⟩)
theorem jgn(hs:SysOk N ws)(hg:GoalOk N goal):Says N ws goal (jh9 N ws goal):=by
 obtain⟨o,ho⟩:=LeastR.ex (goal:=goal) hs;rw[<-jlh ho];exact ho.says hs hg
end
end
section
open Go.Abs
open Go.LP (Dic Rw RT Ov OvRw tsum Sol IsMin NoMin)
attribute [local go_sem] ints ic big frac fc zc
theorem x_negz:Ctr G.P 62 [.agg zc] (· = .agg zc):=by
 have k1:=jks 0 0 [] [] (by decide) (by decide);have e:fracF 0 [] 0 []=false:=by decide+kernel
 rw[e]at k1;simp only[ints,zF]at k1;unfold zc;refine ja5 [.cell 2 35] Tryz.func62 ?_;simp only[go_sem];refine ja1 k1 ?_;simp only[go_sem]
section
variable{N:Nat}{ws:List Rw}{goal:List (Nat×Rat)}
theorem RT_wide{M:Nat}:∀{ts:List (Nat×Rat)} {lo N:Nat},RT ts lo N->N<=M->RT ts lo M
 | [],_,_,_,_=>trivial
 | t::ts,lo,N,h,hm=>⟨h.1,qv h.2.1 hm,h.2.2.1,RT_wide h.2.2.2 hm⟩
theorem RT_mulT{f:Rat}(h0:f≠0):∀{ts:List (Nat×Rat)} {lo N:Nat},RT ts lo N->RT (mulT f ts) lo N
 | [],_,_,_=>trivial
 | t::ts,lo,N,h=>⟨h.1,h.2.1,(fun e=>by rcases Rat.mul_eq_zero.1 e with e | e;exact h.2.2.1 e;exact h0 e),RT_mulT h0 h.2.2.2⟩
theorem GoalOk.opp(h:GoalOk N goal):GoalOk N (mulT ((-1:Int):Rat) goal):=by
 refine⟨RT_mulT (by decide) h.rt,fun t ht=> ?_⟩;obtain⟨u,hu,rfl⟩:=z8.1 ht;obtain⟨z,h1,h2⟩:=h.ov u hu;refine⟨-z,?_,by rw[yC];exact h2⟩;dsimp only;have e:((-1:Int):Rat)= -1:=by decide
 have e2:((-z:Int):Rat)= -(z:Rat):=Rat.intCast_neg z;rw[e,e2,<-h1];grind
theorem jig{f:Rat}{x:Nat->Rat}:∀{ts:List (Nat×Rat)},tsum (mulT f ts) x=f*tsum ts x
 | []=>by show(0:Rat)=f*0;grind
 | t::ts=>by
  show t.2*f*x t.1+tsum (mulT f ts) x=f*(t.2*x t.1+tsum ts x);rw[jig];grind
theorem Says.shape{o:List IV}(h:Says N ws goal o):∃(k a c:Int) (b d P Y Z:List (List IV)),o=[.int k,.int a,.sl b,.int c,.sl d,.sl P,.sl Y,.sl Z]/\(isNone o=decide (k=1)):=by
 cases h with
 | found v x Y=>exact⟨0,_,_,_,_,_,_,_,rfl,rfl⟩
 | none Y=>exact⟨1,_,_,_,_,_,_,_,rfl,rfl⟩
 | free x Z=>exact⟨2,_,_,_,_,_,_,_,rfl,rfl⟩
def zo:List IV:=[.int 0]++zc++[.sl [],.sl [],.sl []]
noncomputable def spanR(N:Nat)(ws:List Rw)(goal:List (Nat×Rat)):IV:=
 if isNone (jh9 N ws goal)=true then .tup [.agg (zo++zo),.int 15]else .tup [.agg (jh9 N ws goal++jh9 N ws (mulT ((-1:Int):Rat) goal)),.int 0]
theorem x_Of(hs:SysOk N ws)(hg:GoalOk N goal):Ctr G.P 18 [.agg [.int N,.sl (ws.map rwC)],.sl (goal.map tmC)] (· =spanR N ws goal):=by
 have hn:=hs.n;have hl:=hg.len;have k1:=jno hs hg;have k2:=x_opp goal (RT_wide hg.rt (by omega)) (by omega) hg.fl;have k3:=jno hs hg.opp;obtain⟨k,a,c,b,d,P,Y,Z,e1,e2⟩:=(jgn hs hg).shape;obtain⟨k',a',c',b',d',P',Y',Z',e3,e4⟩:=(jgn hs hg.opp).shape;unfold spanR;rw[e2];rw[e1]at k1⊢;rw[e3]at k3⊢;generalize (mulT ((-1:Int):Rat) goal).map tmC=og at*;by_cases hk:k=1
 ·have hd:decide (k=1)=true:=zh hk;rw[hd,zm rfl];unfold zo;refine ja5 [.cell 4 40,.tmp 5] Tryz.func18 ?_;simp only[go_sem];refine ja1 k1 ?_;simp only[hd,go_sem]
 ·have hd:decide (k=1)=false:=zw hk;rw[hd,zn (by decide)];refine ja5 [.cell 4 40,.tmp 5] Tryz.func18 ?_;simp only[go_sem];refine ja1 k1 ?_;simp only[hd,go_sem];refine jam ?_;simp only[hd,go_sem];refine ja4 k2 (by decide) ?_;simp only[hd,go_sem];refine ja4 k3 (by decide) ?_;simp only[hd,go_sem]
end
theorem jie(k1 k2 a1 c1 a2 c2 a3 c3:Int)(l1 m1 l2 m2 l3 m3:List Int)(P1 Y1 Z1 P2 Y2 Z2:List (List IV))(hf:Ctr G.P 61 [.agg [.int a1,ints l1,.int c1,ints m1]] (· = .agg [.int a1,ints l1,.int c1,ints m1]))(hN:Ctr G.P 62 [.agg [.int a2,ints l2,.int c2,ints m2]] (· = .agg [.int a3,ints l3,.int c3,ints m3])):
  Ctr G.P 19 [.agg [.int k1,.int a1,ints l1,.int c1,ints m1,.sl P1,.sl Y1,.sl Z1,.int k2,.int a2,ints l2,.int c2,ints m2,.sl P2,.sl Y2,.sl Z2]]
   (· = .agg ((if k1=0 then [.int a1,ints l1,.int c1,ints m1]else zc)++(if k2=0 then [.int a3,ints l3,.int c3,ints m3]else zc)++[.bool (decide (k1=0)),.bool (decide (k2=0))])):=by
 unfold ints at*;generalize l1.map ic=l1' at*;generalize m1.map ic=m1' at*;generalize l2.map ic=l2' at*;generalize m2.map ic=m2' at*;generalize l3.map ic=l3' at*;generalize m3.map ic=m3' at*;by_cases h1:k1=0<;>by_cases h2:k2=0
 ·subst h1 h2;refine ja5 [.cell 2 58] Tryz.func19 ?_;simp only[go_sem];refine ja1 hf ?_;simp only[go_sem];refine ja1 hN ?_;simp only[go_sem]
 ·subst h1;have d2:decide (k2=0)=false:=zw h2;rw[zm rfl,zn h2,d2];refine ja5 [.cell 2 58] Tryz.func19 ?_;simp only[go_sem];refine ja1 hf ?_;simp only[d2,go_sem]
  try rfl
 ·subst h2;have d1:decide (k1=0)=false:=zw h1;rw[zm rfl,zn h1,d1];refine ja5 [.cell 2 58] Tryz.func19 ?_;simp only[d1,go_sem];refine ja1 hN ?_;simp only[d1,go_sem]
  try rfl
 ·have d1:decide (k1=0)=false:=zw h1;have d2:decide (k2=0)=false:=zw h2;rw[zn h1,zn h2,d1,d2];refine ja5 [.cell 2 58] Tryz.func19 ?_;simp only[d1,d2,go_sem]
  try rfl
end
section
open Go.Abs
open Go.LP (Dic Rw RT Ov OvRw tsum Sol IsMin NoMin)
attribute [local go_sem] ints ic big frac fc zc
theorem jqz(a c:Int)(l m:List Int)(hl':l.length<=100000000000)(hm':m.length<=100000000000):Ctr G.P 61 [.agg [.int a,ints l,.int c,ints m]] (· = .agg [.int a,ints l,.int c,ints m]):=by
 unfold ints;have hl:∀c∈l.map ic,c.length=1:=fun c hc=>by obtain⟨z,_,rfl⟩:=z8.1 hc;rfl
 have hm:∀c∈m.map ic,c.length=1:=fun c hc=>by obtain⟨z,_,rfl⟩:=z8.1 hc;rfl
 have hl2:(l.map ic).length*8<=140737488355328:=by rw[zq];omega
 have hm2:(m.map ic).length*8<=140737488355328:=by rw[zq];omega
 generalize l.map ic=l' at*;generalize m.map ic=m' at*;refine ja5 [.cell 2 35] Tryz.func61 ?_;simp only[go_sem];refine jae 17 ?_;simp only[hl2,hm2,go_sem]
 all_goals exact⟨hl,hm⟩
section
variable{N:Nat}{ws:List Rw}{goal:List (Nat×Rat)}
def sideC(b:Option Rat):List IV:=match b with
 | some v=>fc v
 | none=>zc
theorem x_bnd(b1 b2:Option Rat)(k1 k2:Int)(P1 Y1 Z1 P2 Y2 Z2:List (List IV))(e1:decide (k1=0)=b1.isSome)(e2:decide (k2=0)=b2.isSome)(f1:∀v,b1=some v->FL 4000000000 v)(f2:∀v,b2=some v->FL 4000000000 v):
  Ctr G.P 19 [.agg (([.int k1]++sideC b1++[.sl P1,.sl Y1,.sl Z1])++([.int k2]++sideC b2++[.sl P2,.sl Y2,.sl Z2]))] (· = .agg (sideC b1++sideC (b2.map fun v=> -v)++[.bool b1.isSome,.bool b2.isSome])):=by
 have hz:Ctr G.P 62 [.agg [.int 0,ints [],.int 0,ints []]] (· = .agg [.int 0,ints [],.int 0,ints []]):=x_negz;have hz1:Ctr G.P 61 [.agg [.int 0,ints [],.int 0,ints []]] (· = .agg [.int 0,ints [],.int 0,ints []]):=jqz 0 0 [] [] (by simp) (by simp);cases b1 with
 | none=>
  have d1:¬k1=0:=zN e1;cases b2 with
  | none=>
   have d2:¬k2=0:=zN e2;have h:=jie k1 k2 0 0 0 0 0 0 [] [] [] [] [] [] P1 Y1 Z1 P2 Y2 Z2 hz1 hz;rw[zn d1,zn d2,e1,e2]at h;exact h
  | some v=>
   have d2:k2=0:=zJ e2;have hN:=f_neg ((f2 v rfl).mono (by omega:4000000000<=19000000000));have h:=jie k1 k2 0 0 _ _ _ _ [] [] _ _ _ _ P1 Y1 Z1 P2 Y2 Z2 hz1 hN;rw[zn d1,zm d2,e1,e2]at h;exact h
 | some u=>
  have d1:k1=0:=zJ e1;have hu:=f1 u rfl;have hf:=jqz u.num.sign (u.den:Int).sign (dig u.num.natAbs) (dig (u.den:Int).natAbs) (by have:=hu.1;omega) (by have:=hu.2;rw[Int.natAbs_natCast];omega);cases b2 with
  | none=>
   have d2:¬k2=0:=zN e2;have h:=jie k1 k2 _ _ 0 0 0 0 _ _ [] [] [] [] P1 Y1 Z1 P2 Y2 Z2 hf hz;rw[zm d1,zn d2,e1,e2]at h;exact h
  | some v=>
   have d2:k2=0:=zJ e2;have hN:=f_neg ((f2 v rfl).mono (by omega:4000000000<=19000000000));have h:=jie k1 k2 _ _ _ _ _ _ _ _ _ _ _ _ P1 Y1 Z1 P2 Y2 Z2 hf hN;rw[zm d1,zm d2,e1,e2]at h;exact h
end
end
end Go.Proofs.YtkcekimolppapaaGreat
namespace Go.LW
section
theorem perm_map_inv{α β:Type}{f:α->β}{m n:List β}(h:m.Perm n):∀{l:List α},n=l.map f->∃l':List α,l'.Perm l/\m=l'.map f:=by
 induction h with
 | nil=>intro l hl;exact⟨l,j9 _,hl⟩
 | cons x _ ih=>
  intro l hl;cases l with
  | nil=>cases hl
  | cons a l=>
   rw[zB]at hl;injection hl with h1 h2;obtain⟨l',g1,g2⟩:=ih h2;exact⟨a::l',g1.cons a,by rw[zB,<-h1,<-g2]⟩
 | swap x y t=>
  intro l hl
  match l,hl with
  | a::c::l,hl=>
   rw[zB,zB]at hl;injection hl with h1 h2;injection h2 with h2 h3;exact⟨c::a::l,List.Perm.swap _ _ _,by rw[zB,zB,<-h1,<-h2,<-h3]⟩
 | trans _ _ ih1 ih2=>
  intro l hl;obtain⟨l2,g1,g2⟩:=ih2 hl;obtain⟨l1,g3,g4⟩:=ih1 g2;exact⟨l1,g3.trans g1,g4⟩
theorem jkx:∀{l m:List Nat},l.Perm m->l.Pairwise (· <= ·)->m.Pairwise (· <= ·)->l=m
 | [],m,h,_,_=>(List.Perm.nil_eq h)
 | a::l,[],h,_,_=>absurd h.length_eq (by simp)
 | a::l,b::m,h,h1,h2=>by
  rw[yj]at h1 h2;have ha:a∈b::m:=h.mem_iff.1 (zZ ..);have hb:b∈a::l:=h.mem_iff.2 (zZ ..);have e:a=b:=by
   rcases zP.1 ha with e | ha
   ·exact e
   ·rcases zP.1 hb with e | hb
    ·exact e.symm
    ·exact yO (h1.1 b hb) (h2.1 a ha)
  subst e;rw[jkx ((List.perm_cons a).1 h) h1.2 h2.2]
def ins(a:Nat):List Nat->List Nat
 | []=>[a]
 | b::l=>if a<=b then a::b::l else b::ins a l
def isort:List Nat->List Nat
 | []=>[]
 | a::l=>ins a (isort l)
theorem joh(a:Nat):∀l:List Nat,(ins a l).Perm (a::l)
 | []=>j9 _
 | b::l=>by
  unfold ins;split
  ·exact j9 _
  ·exact((joh a l).cons b).trans (List.Perm.swap _ _ _)
theorem isort_perm:∀l:List Nat,(isort l).Perm l
 | []=>j9 _
 | a::l=>(joh a _).trans ((isort_perm l).cons a)
theorem jn4(a:Nat):∀{l:List Nat},l.Pairwise (· <= ·)->(ins a l).Pairwise (· <= ·)
 | [],_=>by simp[ins]
 | b::l,h=>by
  have h0:=yj.1 h;unfold ins;split
  ·rename_i hab;refine yj.2 ⟨fun c hc=> ?_,h⟩;rcases zP.1 hc with rfl | hc
   ·exact hab
   ·exact qn hab (h0.1 c hc)
  ·rename_i hab;refine yj.2 ⟨fun c hc=> ?_,jn4 a h0.2⟩;rcases zP.1 ((joh a l).mem_iff.1 hc)with rfl | hc
   ·omega
   ·exact h0.1 c hc
theorem isort_sorted:∀l:List Nat,(isort l).Pairwise (· <= ·)
 | []=>List.Pairwise.nil
 | a::l=>jn4 a (isort_sorted l)
theorem isort_of{l m:List Nat}(hp:m.Perm l)(hs:m.Pairwise (· <= ·)):m=isort l:=jkx (hp.trans (isort_perm l).symm) hs (isort_sorted l)
def noDup:List Nat->Bool
 | a::b::l=> !decide (a=b)&&noDup (b::l)
 | _=>true
theorem noDup_lt:∀{l:List Nat},l.Pairwise (· <= ·)->noDup l=true->l.Pairwise (· < ·)
 | [],_,_=>List.Pairwise.nil
 | [a],_,_=>by simp
 | a::b::l,h,hn=>by
  have h0:=yj.1 h;rw[noDup,zD]at hn;have ih:=noDup_lt h0.2 hn.2;have hab:a≠b:=by simpa using hn.1
  have hle:=h0.1 b (zZ ..);refine yj.2 ⟨fun c hc=> ?_,ih⟩;rcases zP.1 hc with rfl | hc
  ·omega
  ·have:=(yj.1 ih).1 c hc;omega
theorem noDup_at:∀{l:List Nat},noDup l=true↔∀(i:Nat) (a b:Nat),l[i]? =some a->l[i+1]? =some b->a≠b
 | []=>by simp[noDup]
 | [a]=>by simp[noDup]
 | a::b::l=>by
  rw[noDup,zD,noDup_at (l:=b::l)];constructor
  ·rintro⟨h1,h2⟩ i x y hx hy;cases i with
   | zero=>simp at hx hy h1;subst hx hy;exact h1
   | succ i=>exact h2 i x y (by simpa using hx) (by simpa using hy)
  ·intro h;exact⟨by simpa using h 0 a b rfl rfl,fun i x y hx hy=>h (i+1) x y (by simpa using hx) (by simpa using hy)⟩
end
end Go.LW
namespace Go.LP
section
open Go.LW (isort isort_perm noDup noDup_lt isort_sorted)
theorem noDup_iff{l:List Nat}:noDup (isort l)=true↔l.Nodup:=by
 constructor
 ·intro h;have h1:=noDup_lt (isort_sorted l) h;have h2:(isort l).Nodup:=h1.imp fun hab=>Nat.ne_of_lt hab;exact(isort_perm l).nodup_iff.1 h2
 ·intro h;have h2:(isort l).Nodup:=(isort_perm l).nodup_iff.2 h;refine Go.LW.noDup_at.2 fun i a b ha hb hab=> ?_;subst hab;obtain⟨hi,e1⟩:=zl.1 ha;obtain⟨hj,e2⟩:=zl.1 hb;have:=jq.1 h2 i (i+1) hi hj (jr _);exact this (e1.trans e2.symm)
def ksum:List Nat->(Nat->Rat)->Rat
 | [],_=>0
 | k::l,x=>x k+ksum l x
theorem ksum_perm{l m:List Nat}(h:l.Perm m)(x:Nat->Rat):ksum l x=ksum m x:=by
 induction h with
 | nil=>rfl
 | cons a _ ih=>simp only[ksum,ih]
 | swap a b l=>simp only[ksum];grind
 | trans _ _ h1 h2=>exact h1.trans h2
theorem jsu:∀(l m:List Nat) (x:Nat->Rat),ksum (l++m) x=ksum l x+ksum m x
 | [],m,x=>by simp only[List.nil_append,ksum];grind
 | a::l,m,x=>by rw[List.cons_append,ksum,jsu l m x,ksum];grind
theorem ji3{N:Nat}{x:Nat->Rat}(hx:∀k,k<N->0<=x k):∀{l:List Nat},(∀k∈l,k<N)->0<=ksum l x
 | [],_=>by simp only[ksum];grind
 | a::l,h=>by
  have h1:=hx a (h a (zZ ..));have h2:=ji3 hx (l:=l) fun k hk=>h k (qq _ hk);rw[ksum];grind
def ones(l:List Nat):List (Nat×Rat):=l.map fun k=>(k,1)
theorem jkp:∀(l:List Nat) (x:Nat->Rat),tsum (ones l) x=ksum l x
 | [],x=>rfl
 | a::l,x=>by
  show 1*x a+tsum (ones l) x=x a+ksum l x;rw[jkp l x];grind
theorem RT_ones:∀{l:List Nat} {lo N:Nat},l.Pairwise (· < ·)->(∀k∈l,lo<=k/\k<N)->RT (ones l) lo N
 | [],_,_,_,_=>trivial
 | a::l,lo,N,hp,h=>by
  have h0:=yj.1 hp;have ha:=h a (zZ ..);exact⟨ha.1,ha.2,show(1:Rat)≠0 by decide,RT_ones h0.2 fun k hk=>⟨h0.1 k hk,(h k (qq _ hk)).2⟩⟩
structure Bds(N:Nat)(ws:List Rw)(f:(Nat->Rat)->Rat)(lo:Rat)(hi:Option Rat):Prop where
 low_at:∃x,Sol N ws x/\f x=lo
 low:∀x,Sol N ws x->lo<=f x
 high_at:∀w,hi=some w->∃x,Sol N ws x/\f x=w
 high:∀w,hi=some w->∀x,Sol N ws x->f x<=w
 wide:hi=none->∀c:Rat,∃x,Sol N ws x/\c<f x
section
variable{N:Nat}{ws ws':List Rw}{f g:(Nat->Rat)->Rat}{lo lo' lo2:Rat}{hi hi' hi2:Option Rat}
theorem Bds.sol(h:Bds N ws f lo hi):∃x,Sol N ws x:=h.low_at.imp fun _ h=>h.1
theorem Bds.sub(h:Bds N ws f lo hi)(h':Bds N ws' f lo' hi')(hs:∀w∈ws,w∈ws'):lo<=lo'/\∀w,hi=some w->∃w',hi'=some w'/\w'<=w:=by
 constructor
 ·obtain⟨x,hx,rfl⟩:=h'.low_at;exact h.low x (hx.sub hs)
 ·intro w hw;cases hh:hi' with
  | none=>
   obtain⟨x,hx,hlt⟩:=h'.wide hh w;have:=h.high w hw x (hx.sub hs);grind
  | some w'=>
   obtain⟨x,hx,rfl⟩:=h'.high_at w' hh;exact⟨_,rfl,h.high w hw x (hx.sub hs)⟩
theorem Bds.uniq(h:Bds N ws f lo hi)(h':Bds N ws' f lo' hi')(hs:∀w,w∈ws↔w∈ws'):lo=lo'/\hi=hi':=by
 obtain⟨a1,a2⟩:=h.sub h' fun w hw=>(hs w).1 hw;obtain⟨b1,b2⟩:=h'.sub h fun w hw=>(hs w).2 hw;refine⟨by grind,?_⟩;cases hi with
 | none=>
  cases hi' with
  | none=>rfl
  | some w=>obtain⟨w',hw,_⟩:=b2 w rfl;cases hw
 | some w=>
  obtain⟨w',rfl,h1⟩:=a2 w rfl;obtain⟨w2,hw2,h2⟩:=b2 w' rfl;cases hw2;have:w=w':=by grind
  rw[this]
theorem Bds.congr(h:Bds N ws f lo hi)(he:∀x,f x=g x):Bds N ws g lo hi:=by
 have:f=g:=funext he;rw[<-this];exact h
