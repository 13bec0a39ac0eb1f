/- A part of the proof. No further condition. -/
import Derived.Test.YtjcjcpebocbonaaGreatKY33
set_option linter.all false
set_option maxRecDepth 10000000
set_option maxHeartbeats 16000000
namespace Go.Proofs.YtjcjcpebocbonaaGreat
section
set_option maxRecDepth 1000000
open Go.Abs
open Go.LP (Dic Rw RT Ov OvRw Own Free Final first jew tsum Sol IsMin NoMin)
attribute [local go_sem] ints ic big frac fc zc
section
variable{N:Nat}{ws:List Rw}{goal:List (Nat×Rat)}
def capN(N:Nat):Nat:=2^N*(100+1)/20+1
theorem EndsAt.ptF{E:Dic}(hE:EndsAt N ws goal E)(hs:SysOk N ws)(hg:GoalOk N goal)(k:Nat):FL (capN N) (E.pt k):=by
 have hm:=LP.mk_first (goal:=goal) hs.ok;obtain⟨q',a1⟩:=LP.small_all hm.ok hE.ok hE.eqv hE.same (LP.small_first (by decide:0<1000) (by decide:1000<=2^100) hs.ov hg.ov);rw[hm.n]at a1;have h1:1<=2^N:=Nat.one_le_two_pow;unfold LP.Dic.pt;split
 ·rename_i i hi;exact FL_ov (a1.v i (LP.find_some hi).1) a1.q0 a1.qB (zu _)
 ·exact(jbo (n:=0) (by omega)).mono (by unfold capN;omega)
def isNone(o:List IV):Bool:=match o with
 | .sc (.int .i64 1)::_=>true
 | _=>false
inductive Says(N:Nat)(ws:List Rw)(goal:List (Nat×Rat)):List IV->Prop
 | found (v:Rat) (x:Nat->Rat) (Y:List (List IV)):FL 4000000000 v->IsMin N ws goal v->Sol N ws x->tsum goal x=v->(∀k,FL (capN N) (x k))->Says N ws goal ([.int 0]++fc v++[xl N x,.sl Y,.sl []])
 | none (Y:List (List IV)):(∀x,¬Sol N ws x)->Says N ws goal ([.int 1]++zc++[.sl [],.sl Y,.sl []])
 | free (x:Nat->Rat) (Z:List (List IV)):NoMin N ws goal->Sol N ws x->(∀k,FL (capN N) (x k))->Says N ws goal ([.int 2]++zc++[xl N x,.sl [],.sl Z])
theorem FL_tsum{goal:List (Nat×Rat)}{x:Nat->Rat}(hl:goal.length<=18)(hf:∀t∈goal,FL 100000000 t.2)(hx:∀k,FL 100000000 (x k)):FL 4000000000 (tsum goal x):=by
 rw[<-jpe];refine(jp6 hf (fun t _=>hx t.1) goal.length).mono ?_;have:goal.length*(100000000+100000000+1)<=18*(100000000+100000000+1):=qj _ hl;omega
theorem LeastR.ex(hs:SysOk N ws):∃o,LeastR N ws goal o:=by
 have a7:=LP.mk_first (goal:=goal) hs.ok;have a1:=LP.mk_first (goal:=[]) hs.ok;obtain⟨T,E,a,b,hR,hF⟩:=LP.ends a7.ok (K:=N+(first N ws goal).m) fun k hk=>(LP.own_lt a7 k).1 hk;cases hF with
 | best h1 h2=>exact⟨_,.found E T hR (.best h1 h2)⟩
 | none r h1 h2 h3 h4 h5=>exact⟨_,.none E T r hR (.none r h1 h2 h3 h4 h5)⟩
 | free s h1 h2 h3 h4 h5=>
  obtain⟨T',E',a',b',a6,b0⟩:=LP.ends a1.ok (K:=N+(first N ws []).m) fun k hk=>(LP.own_lt a1 k).1 hk;cases b0 with
  | best g1 g2=>exact⟨_,.free E E' T T' s hR (.free s h1 h2 h3 h4 h5) a6 (.best g1 g2)⟩
  | none r g1 g2 g3 g4 g5=>exact⟨_,.none2 E E' T T' s r hR (.free s h1 h2 h3 h4 h5) a6 (.none r g1 g2 g3 g4 g5)⟩
  | free s' g1 g2=>
   have a8:=EndsAt.of hs a6;rw[LP.final_nil hs.ok a8.ok a8.eqv g1]at g2;exact absurd g2 (by decide)
theorem LeastR.says(hs:SysOk N ws)(hg:GoalOk N goal){o:List IV}(h:LeastR N ws goal o):Says N ws goal o:=by
 cases h with
 | found E T hR hF=>
  have hE:=EndsAt.of hs hR;obtain⟨h1,h2⟩:=hF.inv_best rfl rfl;obtain⟨h3,h4⟩:=LP.final_best hs.ok hg.rt hE.ok hE.eqv hE.same h1 h2;have hl:=hg.len;have hn:=hs.n;exact .found _ E.pt _ (FL_tsum (by omega) hg.fl fun k=>FL_pt (hs.smD hg E hE.ok hE.eqv hE.same) k) ⟨⟨_,h3,rfl⟩,h4⟩ h3 rfl (hE.ptF hs hg)
 | none E T r hR hF=>
  have hE:=EndsAt.of hs hR;obtain⟨h1,h2,h3⟩:=hF.inv_none rfl;exact .none _ (LP.final_none hs.ok hE.eqv hE.same h1 h2 h3)
 | none2 E E' T T' s r hR hF hR' hF'=>
  have hE:=EndsAt.of hs hR';obtain⟨h1,h2,h3⟩:=hF'.inv_none rfl;exact .none _ (LP.final_none hs.ok hE.eqv hE.same h1 h2 h3)
 | free E E' T T' s hR hF hR' hF'=>
  have hE:=EndsAt.of hs hR;have a1:=EndsAt.of hs hR';obtain⟨h1,h2,h3⟩:=hF.inv_free rfl;obtain⟨g1,g2⟩:=hF'.inv_best rfl rfl;obtain⟨h4,_⟩:=LP.final_best hs.ok (show RT [] 0 N from trivial) a1.ok a1.eqv a1.same g1 g2;exact .free E'.pt _ ⟨⟨_,h4⟩,LP.final_free hs.ok hg.rt hE.ok hE.eqv hE.same h1 h2 h3 h4⟩ h4 (a1.ptF hs ⟨show RT [] 0 N from trivial,fun t ht=>(by cases ht)⟩)
theorem jgk(hs:SysOk N ws)(hg:GoalOk N goal):Says N ws goal (jit N ws goal):=by
 obtain⟨o,ho⟩:=LeastR.ex (goal:=goal) hs;rw[<-jqe ho];exact ho.says hs hg
end
end
section
set_option maxRecDepth 1000000
open Go.Abs
open Go.LP (Dic Rw RT Ov OvRw tsum Sol IsMin NoMin)
attribute [local go_sem] ints ic big frac fc zc
theorem x_negz:Ctr G.P 92 [.agg zc] (· = .agg zc):=by
 have k1:=jkx 0 0 [] [] (by decide) (by decide);have e:fracF 0 [] 0 []=false:=by decide+kernel
 rw[e]at k1;simp only[ints,zE]at k1;unfold zc;refine ja3 [.cell 2 48] Tryz.func92 ?_;simp only[go_sem];refine ja0 k1 ?_;simp only[go_sem]
section
variable{N:Nat}{ws:List Rw}{goal:List (Nat×Rat)}
theorem RT_wide{M:Nat}:∀{ts:List (Nat×Rat)} {lo N:Nat},RT ts lo N->N<=M->RT ts lo M
 | [],_,_,_,_=>trivial
 | t::ts,lo,N,h,hm=>⟨h.1,qv h.2.1 hm,h.2.2.1,RT_wide h.2.2.2 hm⟩
theorem RT_mulT{f:Rat}(h0:f≠0):∀{ts:List (Nat×Rat)} {lo N:Nat},RT ts lo N->RT (mulT f ts) lo N
 | [],_,_,_=>trivial
 | t::ts,lo,N,h=>⟨h.1,h.2.1,(fun e=>by rcases Rat.mul_eq_zero.1 e with e | e;exact h.2.2.1 e;exact h0 e),RT_mulT h0 h.2.2.2⟩
theorem GoalOk.opp(h:GoalOk N goal):GoalOk N (mulT ((-1:Int):Rat) goal):=by
 refine⟨RT_mulT (by decide) h.rt,fun t ht=> ?_⟩;obtain⟨u,hu,rfl⟩:=z8.1 ht;obtain⟨z,h1,h2⟩:=h.ov u hu;refine⟨-z,?_,by rw[qT];exact h2⟩;dsimp only;have e:((-1:Int):Rat)= -1:=by decide
 have e2:((-z:Int):Rat)= -(z:Rat):=Rat.intCast_neg z;rw[e,e2,<-h1];grind
theorem jie{f:Rat}{x:Nat->Rat}:∀{ts:List (Nat×Rat)},tsum (mulT f ts) x=f*tsum ts x
 | []=>by show(0:Rat)=f*0;grind
 | t::ts=>by
  show t.2*f*x t.1+tsum (mulT f ts) x=f*(t.2*x t.1+tsum ts x);rw[jie];grind
theorem Says.shape{o:List IV}(h:Says N ws goal o):∃(k a c:Int) (b d P Y Z:List (List IV)),o=[.int k,.int a,.sl b,.int c,.sl d,.sl P,.sl Y,.sl Z]/\(isNone o=decide (k=1)):=by
 cases h with
 | found v x Y=>exact⟨0,_,_,_,_,_,_,_,rfl,rfl⟩
 | none Y=>exact⟨1,_,_,_,_,_,_,_,rfl,rfl⟩
 | free x Z=>exact⟨2,_,_,_,_,_,_,_,rfl,rfl⟩
def zo:List IV:=[.int 0]++zc++[.sl [],.sl [],.sl []]
noncomputable def spanR(N:Nat)(ws:List Rw)(goal:List (Nat×Rat)):IV:=
 if isNone (jit N ws goal)=true then .tup [.agg (zo++zo),.int 15]else .tup [.agg (jit N ws goal++jit N ws (mulT ((-1:Int):Rat) goal)),.int 0]
theorem x_Of(hs:SysOk N ws)(hg:GoalOk N goal):Ctr G.P 90 [.agg [.int N,.sl (ws.map rwC)],.sl (goal.map tmC)] (· =spanR N ws goal):=by
 have hn:=hs.n;have hl:=hg.len;have k1:=jrs hs hg;have k2:=x_opp goal (RT_wide hg.rt (by omega)) (by omega) hg.fl;have k3:=jrs hs hg.opp;obtain⟨k,a,c,b,d,P,Y,Z,e1,e2⟩:=(jgk hs hg).shape;obtain⟨k',a',c',b',d',P',Y',Z',e3,e4⟩:=(jgk hs hg.opp).shape;unfold spanR;rw[e2];rw[e1]at k1⊢;rw[e3]at k3⊢;generalize (mulT ((-1:Int):Rat) goal).map tmC=og at*;by_cases hk:k=1
 ·have hd:decide (k=1)=true:=zp hk;rw[hd,ze rfl];unfold zo;refine ja3 [.cell 4 124,.tmp 5] Tryz.func90 ?_;simp only[go_sem];refine ja0 k1 ?_;simp only[hd,go_sem]
 ·have hd:decide (k=1)=false:=zh hk;rw[hd,zl (by decide)];refine ja3 [.cell 4 124,.tmp 5] Tryz.func90 ?_;simp only[go_sem];refine ja0 k1 ?_;simp only[hd,go_sem];refine jah ?_;simp only[hd,go_sem];refine ja4 k2 (by decide) ?_;simp only[hd,go_sem];refine ja4 k3 (by decide) ?_;simp only[hd,go_sem]
end
theorem jid(k1 k2 a1 c1 a2 c2 a3 c3:Int)(l1 m1 l2 m2 l3 m3:List Int)(P1 Y1 Z1 P2 Y2 Z2:List (List IV))(hf:Ctr G.P 91 [.agg [.int a1,ints l1,.int c1,ints m1]] (· = .agg [.int a1,ints l1,.int c1,ints m1]))(hN:Ctr G.P 92 [.agg [.int a2,ints l2,.int c2,ints m2]] (· = .agg [.int a3,ints l3,.int c3,ints m3])):
  Ctr G.P 65 [.agg [.int k1,.int a1,ints l1,.int c1,ints m1,.sl P1,.sl Y1,.sl Z1,.int k2,.int a2,ints l2,.int c2,ints m2,.sl P2,.sl Y2,.sl Z2]]
   (· = .agg ((if k1=0 then [.int a1,ints l1,.int c1,ints m1]else zc)++(if k2=0 then [.int a3,ints l3,.int c3,ints m3]else zc)++[.bool (decide (k1=0)),.bool (decide (k2=0))])):=by
 unfold ints at*;generalize l1.map ic=b2 at*;generalize m1.map ic=a8 at*;generalize l2.map ic=b1 at*;generalize m2.map ic=a7 at*;generalize l3.map ic=b0 at*;generalize m3.map ic=a6 at*;by_cases h1:k1=0<;>by_cases h2:k2=0
 ·subst h1 h2;refine ja3 [.cell 2 128] Tryz.func65 ?_;simp only[go_sem];refine ja0 hf ?_;simp only[go_sem];refine ja0 hN ?_;simp only[go_sem]
 ·subst h1;have d2:decide (k2=0)=false:=zh h2;rw[ze rfl,zl h2,d2];refine ja3 [.cell 2 128] Tryz.func65 ?_;simp only[go_sem];refine ja0 hf ?_;simp only[d2,go_sem]
  try rfl
 ·subst h2;have d1:decide (k1=0)=false:=zh h1;rw[ze rfl,zl h1,d1];refine ja3 [.cell 2 128] Tryz.func65 ?_;simp only[d1,go_sem];refine ja0 hN ?_;simp only[d1,go_sem]
  try rfl
 ·have d1:decide (k1=0)=false:=zh h1;have d2:decide (k2=0)=false:=zh h2;rw[zl h1,zl h2,d1,d2];refine ja3 [.cell 2 128] Tryz.func65 ?_;simp only[d1,d2,go_sem]
  try rfl
end
section
set_option maxRecDepth 1000000
open Go.Abs
open Go.LP (Dic Rw RT Ov OvRw tsum Sol IsMin NoMin)
attribute [local go_sem] ints ic big frac fc zc
theorem jqz(a c:Int)(l m:List Int)(a8:l.length<=100000000000)(a7:m.length<=100000000000):Ctr G.P 91 [.agg [.int a,ints l,.int c,ints m]] (· = .agg [.int a,ints l,.int c,ints m]):=by
 unfold ints;have hl:∀c∈l.map ic,c.length=1:=fun c hc=>by obtain⟨z,_,rfl⟩:=z8.1 hc;rfl
 have hm:∀c∈m.map ic,c.length=1:=fun c hc=>by obtain⟨z,_,rfl⟩:=z8.1 hc;rfl
 have a6:(l.map ic).length*8<=140737488355328:=by rw[zw];omega
 have a1:(m.map ic).length*8<=140737488355328:=by rw[zw];omega
 generalize l.map ic=l' at*;generalize m.map ic=m' at*;refine ja3 [.cell 2 48] Tryz.func91 ?_;simp only[go_sem];refine jaf 17 ?_;simp only[a6,a1,go_sem]
 all_goals exact⟨hl,hm⟩
section
variable{N:Nat}{ws:List Rw}{goal:List (Nat×Rat)}
def sideC(b:Option Rat):List IV:=match b with
 | some v=>fc v
 | none=>zc
theorem x_bnd(b1 b2:Option Rat)(k1 k2:Int)(P1 Y1 Z1 P2 Y2 Z2:List (List IV))(e1:decide (k1=0)=b1.isSome)(e2:decide (k2=0)=b2.isSome)(f1:∀v,b1=some v->FL 4000000000 v)(f2:∀v,b2=some v->FL 4000000000 v):
  Ctr G.P 65 [.agg (([.int k1]++sideC b1++[.sl P1,.sl Y1,.sl Z1])++([.int k2]++sideC b2++[.sl P2,.sl Y2,.sl Z2]))] (· = .agg (sideC b1++sideC (b2.map fun v=> -v)++[.bool b1.isSome,.bool b2.isSome])):=by
 have hz:Ctr G.P 92 [.agg [.int 0,ints [],.int 0,ints []]] (· = .agg [.int 0,ints [],.int 0,ints []]):=x_negz;have a1:Ctr G.P 91 [.agg [.int 0,ints [],.int 0,ints []]] (· = .agg [.int 0,ints [],.int 0,ints []]):=jqz 0 0 [] [] (by simp) (by simp);cases b1 with
 | none=>
  have d1:¬k1=0:=zJ e1;cases b2 with
  | none=>
   have d2:¬k2=0:=zJ e2;have h:=jid k1 k2 0 0 0 0 0 0 [] [] [] [] [] [] P1 Y1 Z1 P2 Y2 Z2 a1 hz;rw[zl d1,zl d2,e1,e2]at h;exact h
  | some v=>
   have d2:k2=0:=zI e2;have hN:=f_neg ((f2 v rfl).mono (by omega:4000000000<=19000000000));have h:=jid k1 k2 0 0 _ _ _ _ [] [] _ _ _ _ P1 Y1 Z1 P2 Y2 Z2 a1 hN;rw[zl d1,ze d2,e1,e2]at h;exact h
 | some u=>
  have d1:k1=0:=zI e1;have hu:=f1 u rfl;have hf:=jqz u.num.sign (u.den:Int).sign (dig u.num.natAbs) (dig (u.den:Int).natAbs) (by have:=hu.1;omega) (by have:=hu.2;rw[Int.natAbs_natCast];omega);cases b2 with
  | none=>
   have d2:¬k2=0:=zJ e2;have h:=jid k1 k2 _ _ 0 0 0 0 _ _ [] [] [] [] P1 Y1 Z1 P2 Y2 Z2 hf hz;rw[ze d1,zl d2,e1,e2]at h;exact h
  | some v=>
   have d2:k2=0:=zI e2;have hN:=f_neg ((f2 v rfl).mono (by omega:4000000000<=19000000000));have h:=jid k1 k2 _ _ _ _ _ _ _ _ _ _ _ _ P1 Y1 Z1 P2 Y2 Z2 hf hN;rw[ze d1,ze d2,e1,e2]at h;exact h
end
end
end Go.Proofs.YtjcjcpebocbonaaGreat
namespace Go.LW
section
theorem perm_map_inv{α β:Type}{f:α->β}{m n:List β}(h:m.Perm n):∀{l:List α},n=l.map f->∃l':List α,l'.Perm l/\m=l'.map f:=by
 induction h with
 | nil=>intro l hl;exact⟨l,yQ _,hl⟩
 | cons x _ ih=>
  intro l hl;cases l with
  | nil=>cases hl
  | cons a l=>
   rw[zt]at hl;injection hl with h1 h2;obtain⟨l',g1,g2⟩:=ih h2;exact⟨a::l',g1.cons a,by rw[zt,<-h1,<-g2]⟩
 | swap x y t=>
  intro l hl
  match l,hl with
  | a::c::l,hl=>
   rw[zt,zt]at hl;injection hl with h1 h2;injection h2 with h2 h3;exact⟨c::a::l,List.Perm.swap _ _ _,by rw[zt,zt,<-h1,<-h2,<-h3]⟩
 | trans _ _ ih1 ih2=>
  intro l hl;obtain⟨l2,g1,g2⟩:=ih2 hl;obtain⟨l1,g3,g4⟩:=ih1 g2;exact⟨l1,g3.trans g1,g4⟩
theorem jl1:∀{l m:List Nat},l.Perm m->l.Pairwise (· <= ·)->m.Pairwise (· <= ·)->l=m
 | [],m,h,_,_=>(List.Perm.nil_eq h)
 | a::l,[],h,_,_=>absurd h.length_eq (by simp)
 | a::l,b::m,h,h1,h2=>by
  rw[qr]at h1 h2;have ha:a∈b::m:=h.mem_iff.1 (zQ ..);have hb:b∈a::l:=h.mem_iff.2 (zQ ..);have e:a=b:=by
   rcases zL.1 ha with e | ha
   ·exact e
   ·rcases zL.1 hb with e | hb
    ·exact e.symm
    ·exact yS (h1.1 b hb) (h2.1 a ha)
  subst e;rw[jl1 ((List.perm_cons a).1 h) h1.2 h2.2]
def ins(a:Nat):List Nat->List Nat
 | []=>[a]
 | b::l=>if a<=b then a::b::l else b::ins a l
def isort:List Nat->List Nat
 | []=>[]
 | a::l=>ins a (isort l)
theorem jom(a:Nat):∀l:List Nat,(ins a l).Perm (a::l)
 | []=>yQ _
 | b::l=>by
  unfold ins;split
  ·exact yQ _
  ·exact((jom a l).cons b).trans (List.Perm.swap _ _ _)
theorem isort_perm:∀l:List Nat,(isort l).Perm l
 | []=>yQ _
 | a::l=>(jom a _).trans ((isort_perm l).cons a)
theorem jn8(a:Nat):∀{l:List Nat},l.Pairwise (· <= ·)->(ins a l).Pairwise (· <= ·)
 | [],_=>by simp[ins]
 | b::l,h=>by
  have h0:=qr.1 h;unfold ins;split
  ·rename_i a1;refine qr.2 ⟨fun c hc=> ?_,h⟩;rcases zL.1 hc with rfl | hc
   ·exact a1
   ·exact qI a1 (h0.1 c hc)
  ·rename_i a1;refine qr.2 ⟨fun c hc=> ?_,jn8 a h0.2⟩;rcases zL.1 ((jom a l).mem_iff.1 hc)with rfl | hc
   ·omega
   ·exact h0.1 c hc
theorem isort_sorted:∀l:List Nat,(isort l).Pairwise (· <= ·)
 | []=>List.Pairwise.nil
 | a::l=>jn8 a (isort_sorted l)
theorem isort_of{l m:List Nat}(hp:m.Perm l)(hs:m.Pairwise (· <= ·)):m=isort l:=jl1 (hp.trans (isort_perm l).symm) hs (isort_sorted l)
def noDup:List Nat->Bool
 | a::b::l=> !decide (a=b)&&noDup (b::l)
 | _=>true
theorem noDup_lt:∀{l:List Nat},l.Pairwise (· <= ·)->noDup l=true->l.Pairwise (· < ·)
 | [],_,_=>List.Pairwise.nil
 | [a],_,_=>by simp
 | a::b::l,h,hn=>by
  have h0:=qr.1 h;rw[noDup,zn]at hn;have ih:=noDup_lt h0.2 hn.2;have a1:a≠b:=by simpa using hn.1
  have hle:=h0.1 b (zQ ..);refine qr.2 ⟨fun c hc=> ?_,ih⟩;rcases zL.1 hc with rfl | hc
  ·omega
  ·have:=(qr.1 ih).1 c hc;omega
theorem noDup_at:∀{l:List Nat},noDup l=true↔∀(i:Nat) (a b:Nat),l[i]? =some a->l[i+1]? =some b->a≠b
 | []=>by simp[noDup]
 | [a]=>by simp[noDup]
 | a::b::l=>by
  rw[noDup,zn,noDup_at (l:=b::l)];constructor
  ·rintro⟨h1,h2⟩ i x y hx hy;cases i with
   | zero=>simp at hx hy h1;subst hx hy;exact h1
   | succ i=>exact h2 i x y (by simpa using hx) (by simpa using hy)
  ·intro h;exact⟨by simpa using h 0 a b rfl rfl,fun i x y hx hy=>h (i+1) x y (by simpa using hx) (by simpa using hy)⟩
end
end Go.LW
namespace Go.LP
section
open Go.LW (isort isort_perm noDup noDup_lt isort_sorted)
theorem noDup_iff{l:List Nat}:noDup (isort l)=true↔l.Nodup:=by
 constructor
 ·intro h;have h1:=noDup_lt (isort_sorted l) h;have h2:(isort l).Nodup:=h1.imp fun a1=>Nat.ne_of_lt a1;exact(isort_perm l).nodup_iff.1 h2
 ·intro h;have h2:(isort l).Nodup:=(isort_perm l).nodup_iff.2 h;refine Go.LW.noDup_at.2 fun i a b ha hb a1=> ?_;subst a1;obtain⟨hi,e1⟩:=zr.1 ha;obtain⟨hj,e2⟩:=zr.1 hb;have:=yK.1 h2 i (i+1) hi hj (jE _);exact this (e1.trans e2.symm)
def ksum:List Nat->(Nat->Rat)->Rat
 | [],_=>0
 | k::l,x=>x k+ksum l x
theorem ksum_perm{l m:List Nat}(h:l.Perm m)(x:Nat->Rat):ksum l x=ksum m x:=by
 induction h with
 | nil=>rfl
 | cons a _ ih=>simp only[ksum,ih]
 | swap a b l=>simp only[ksum];grind
 | trans _ _ h1 h2=>exact h1.trans h2
theorem jsu:∀(l m:List Nat) (x:Nat->Rat),ksum (l++m) x=ksum l x+ksum m x
 | [],m,x=>by simp only[List.nil_append,ksum];grind
 | a::l,m,x=>by rw[List.cons_append,ksum,jsu l m x,ksum];grind
theorem ksum_nonneg{N:Nat}{x:Nat->Rat}(hx:∀k,k<N->0<=x k):∀{l:List Nat},(∀k∈l,k<N)->0<=ksum l x
 | [],_=>by simp only[ksum];grind
 | a::l,h=>by
  have h1:=hx a (h a (zQ ..));have h2:=ksum_nonneg hx (l:=l) fun k hk=>h k (zV _ hk);rw[ksum];grind
def ones(l:List Nat):List (Nat×Rat):=l.map fun k=>(k,1)
theorem jkv:∀(l:List Nat) (x:Nat->Rat),tsum (ones l) x=ksum l x
 | [],x=>rfl
 | a::l,x=>by
  show 1*x a+tsum (ones l) x=x a+ksum l x;rw[jkv l x];grind
theorem RT_ones:∀{l:List Nat} {lo N:Nat},l.Pairwise (· < ·)->(∀k∈l,lo<=k/\k<N)->RT (ones l) lo N
 | [],_,_,_,_=>trivial
 | a::l,lo,N,hp,h=>by
  have h0:=qr.1 hp;have ha:=h a (zQ ..);exact⟨ha.1,ha.2,show(1:Rat)≠0 by decide,RT_ones h0.2 fun k hk=>⟨h0.1 k hk,(h k (zV _ hk)).2⟩⟩
structure Bds(N:Nat)(ws:List Rw)(f:(Nat->Rat)->Rat)(lo:Rat)(hi:Option Rat):Prop where
 low_at:∃x,Sol N ws x/\f x=lo
 low:∀x,Sol N ws x->lo<=f x
 high_at:∀w,hi=some w->∃x,Sol N ws x/\f x=w
 high:∀w,hi=some w->∀x,Sol N ws x->f x<=w
 wide:hi=none->∀c:Rat,∃x,Sol N ws x/\c<f x
section
variable{N:Nat}{ws ws':List Rw}{f g:(Nat->Rat)->Rat}{lo lo' lo2:Rat}{hi hi' hi2:Option Rat}
theorem Bds.congr(h:Bds N ws f lo hi)(he:∀x,f x=g x):Bds N ws g lo hi:=by
 have:f=g:=funext he;rw[<-this];exact h
