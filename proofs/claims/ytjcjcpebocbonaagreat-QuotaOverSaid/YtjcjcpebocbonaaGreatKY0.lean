/- A part of the proof. No further condition. -/
import Derived.WalkKit
import Derived.Orders
set_option linter.all false
set_option maxRecDepth 10000000
set_option maxHeartbeats 16000000
namespace Go
def zq:=@List.getElem?_map
def zw:=@List.length_map
def za:=@List.getElem?_eq_getElem
def ze:=@if_pos
def zh:=@decide_eq_false
def zk:=@List.mem_of_getElem?
def zl:=@if_neg
def zm:=@Array.getElem?_eq_some_iff
def zn:=@Bool.and_eq_true
def zp:=@decide_eq_true
def zr:=@List.getElem?_eq_some_iff
def zt:=@List.map_cons
def zu:=@Nat.le_refl
def zB:=@List.length_append
def zD:=@Option.isSome_iff_exists
def zE:=@List.map_nil
def zF:=@List.mem_singleton
def zG:=@Nat.zero_le
def zH:=@Ne.symm
def zI:=@of_decide_eq_true
def zJ:=@of_decide_eq_false
def zK:=@List.getElem?_append_left
def zL:=@List.mem_cons
def zM:=@Int.sign_eq_neg_one_of_neg
def zN:=@decide_eq_true_eq
def zO:=@Int.sign_eq_one_of_pos
def zP:=@List.getElem?_append_right
def zQ:=@List.mem_cons_self
def zR:=@List.length_replicate
def zS:=@Array.getElem?_toList
def zT:=@congrArg
def zU:=@Nat.lt_or_ge
def zV:=@List.mem_cons_of_mem
def zW:=@List.getD_eq_getElem?_getD
def zX:=@List.eq_nil_of_length_eq_zero
def zY:=@List.drop_of_length_le
def zZ:=@List.take_of_length_le
def z8:=@List.mem_map
def qz:=@Int.mul_le_mul_of_nonneg_left
def qq:=@Option.map_eq_some_iff
def qy:=@List.getElem?_take
def qj:=@Nat.mul_le_mul_right
def qv:=@Nat.lt_of_lt_of_le
def qw:=@List.mem_range
def qx:=@List.map_append
def qa:=@Option.some.injEq
def qb:=@List.length_take
def qd:=@List.length_set
def qe:=@List.append_assoc
def qf:=@Int.mul_le_mul_of_nonneg_right
def qg:=@decide_eq_false_iff_not
def qh:=@bne_iff_ne
def qi:=@Nat.zero_add
def qk:=@Array.getElem?_setIfInBounds_ne
def ql:=@List.mem_append
def qm:=@List.map_set
def qn:=@Array.getElem?_eq_getElem
def qo:=@List.getElem?_eq_none
def qp:=@Bool.or_eq_true
def qr:=@List.pairwise_cons
def qt:=@if_false
def qu:=@List.append_nil
def qA:=@Bool.true_and
def qD:=@if_true
def qE:=@Nat.add_mul
def qF:=@List.nodup_cons
def qG:=@List.length_pos_iff
def qH:=@Int.toNat_of_nonneg
def qI:=@Nat.le_trans
def qJ:=@List.take_length
def qK:=@Int.mul_assoc
def qL:=@Int.lt_or_gt_of_ne
def qM:=@Int.mul_nonneg
def qN:=@List.map_map
def qO:=@Int.mul_add
def qP:=@List.size_toArray
def qQ:=@List.getElem?_drop
def qR:=@List.drop_eq_getElem_cons
def qS:=@Nat.lt_trichotomy
def qT:=@Int.natAbs_neg
def qU:=@Int.emod_add_mul_ediv
def qV:=@List.map_congr_left
def qW:=@Int.mul_zero
def qX:=@Int.mul_comm
def qY:=@List.length_eq_zero_iff
def qZ:=@Bool.false_and
def q7:=@Prod.mk.injEq
def q8:=@Nat.lt_irrefl
def q9:=@List.length_range
def yz:=@List.mem_of_mem_take
def yq:=@List.mem_of_mem_drop
def yy:=@Int.le_refl
def yj:=@List.mem_or_eq_of_mem_set
def yw:=@Int.sign_eq_zero_iff_zero
def yx:=@List.map_replicate
def ya:=@Bool.false_ne_true
def yc:=@Bool.false_eq_true
def ye:=@Int.lt_trichotomy
def yf:=@Int.add_zero
def yh:=@List.getElem?_replicate
def yi:=@Nat.pow_le_pow_right
def yk:=@Nat.mul_le_mul
def yl:=@Array.getElem?_append_left
def ym:=@Bool.false_or
def yn:=@List.getElem_mem
def yo:=@List.take_add_one
def yp:=@Int.add_mul
def yr:=@Nat.le_of_ble_eq_true
def yu:=@List.cons.injEq
def yB:=@Int.lt_or_le
def yC:=@beq_iff_eq
def yE:=@decide_eq_decide
def yF:=@Int.one_mul
def yG:=@Array.mem_toList_iff
def yH:=@List.drop_zero
def yI:=@Int.tdiv_eq_ediv_of_nonneg
def yJ:=@Int.fdiv_eq_ediv_of_nonneg
def yK:=@List.pairwise_iff_getElem
def yL:=@Bool.and_eq_false_iff
def yM:=@Nat.succ_ne_zero
def yN:=@Nat.eq_zero_or_pos
def yO:=@Array.ext'
def yP:=@List.getElem?_of_mem
def yQ:=@List.Perm.refl
def yR:=@Bool.not_eq_true'
def yS:=@Nat.le_antisymm
def yT:=@Array.toList_filter
def yU:=@Array.toList_append
def yV:=@Rat.add_zero
def yW:=@Int.zero_add
def yX:=@Array.getD_eq_getD_getElem?
def yY:=@Int.mul_neg
def yZ:=@Rat.num_divInt_den
def y8:=@Int.tmod_eq_emod_of_nonneg
def y9:=@List.take_append_drop
def jz:=@Array.getElem?_modify
def jq:=@List.getLast?_eq_getElem?
def jy:=@Classical.byContradiction
def jj:=@Array.mapM_eq_mapM_toList
def jv:=@Nat.not_lt_zero
def jw:=@getElem!_pos
def jx:=@Nat.mul_comm
def ja:=@List.mem_iff_getElem
def jb:=@List.getElem?_set_ne
def jc:=@Int.mul_one
def jd:=@Array.size_append
def je:=@List.getElem?_range
def jf:=@List.drop_succ_cons
def jg:=@Rat.mul_nonneg
def jh:=@Nat.le_mul_of_pos_right
def ji:=@List.length_drop
def jk:=@List.any_eq_true
def jl:=@Bool.and_false
def jm:=@eq_self
def jn:=@decide_eq_true_iff
def jo:=@Nat.succ_mul
def jp:=@List.getElem?_toArray
def jr:=@List.pairwise_map
def js:=@List.nodup_append
def jt:=@List.getElem?_set
def ju:=@List.ext_getElem?
def jA:=@List.mem_append_left
def jB:=@Int.natAbs_mul
def jC:=@Int.mul_sub
def jD:=@Nat.mod_eq_of_lt
def jE:=@Nat.lt_succ_self
def jF:=@List.map_toArray
def jG:=@Int.sub_zero
def jH:=@Nat.add_assoc
def jI:=@Int.lt_irrefl
def jJ:=@Rat.intCast_mul
def jK:=@Option.some.inj
def jL:=@Nat.div_add_mod
def jM:=@List.mem_filter
def jN:=@Int.ediv_nonneg
def jO:=@Nat.pos_of_ne_zero
def jP:=@Nat.mod_lt
def jQ:=@Int.emod_lt_of_pos
def jR:=@Array.all_eq_true'
def jS:=@List.filter_cons_of_pos
def jT:=@List.filter_cons_of_neg
def jU:=@Int.sub_mul
def jV:=@List.foldl_append
def jW:=@Int.mul_left_comm
def jX:=@Int.emod_eq_of_lt
def jY:=@Int.ediv_lt_of_lt_mul
def jZ:=@Nat.div_eq_of_lt
def j0:=@Nat.and_two_pow_sub_one_eq_mod
def j2:=@List.mem_flatMap
def j3:=@List.filter_cons
def j4:=@Nat.mul_assoc
def j5:=@Bool.not_true
def j6:=@List.range_eq_range'
def j7:=@Int.mul_ne_zero
def j8:=@Int.emod_nonneg
def j9:=@List.map_eq_nil_iff
def vz:=@List.getElem_of_mem
def vq:=@Int.sign_mul
def vy:=@and_true
def vj:=@and_self
def vv:=@Nat.lt_or_gt_of_ne
def vw:=@List.nodup_nil
def vx:=@List.mem_replicate
def va:=@Int.mul_le_mul
def vc:=@Array.empty_append
def vd:=@not_false_eq_true
def ve:=@List.flatMap_cons
def vf:=@Decidable.not_not
def vg:=@Array.toList_push
def vh:=@List.getElem?_take_of_lt
def vi:=@List.eq_of_mem_replicate
def vk:=@Int.ofNat_inj
def vm:=@Nat.add_sub_cancel_left
def vn:=@List.range'_succ
def vo:=@Array.toList_map
def vp:=@Rat.le_trans
def vt:=@Nat.gcd_comm
def vu:=@Int.ofNat_le
def vA:=@Bool.true_or
def vB:=@Rat.intCast_add
def vC:=@List.mem_append_right
def vD:=@Classical.choose_spec
def vE:=@Array.getElem?_append
def vF:=@Rat.divInt_mul_right
def vG:=@List.drop_drop
def vH:=@Int.neg_mul
def vI:=@Array.replicate_succ
def vJ:=@List.flatten_append
def vK:=@List.filter_sublist
def vM:=@List.append_toArray
def vO:=@not_not_intro
def vP:=@List.map_take
def vQ:=@Bool.true_beq
def vR:=@Rat.mul_inv_cancel
def vS:=@Nat.lt_or_eq_of_le
def vT:=@Nat.add_sub_cancel
def vU:=@List.Nodup.sublist
def vV:=@Int.lt_of_lt_of_le
def vX:=@true_and
def vY:=@Rat.zero_mul
def vZ:=@Nat.zero_mul
def v6:=@Nat.sub_self
def v7:=@Nat.le_of_lt_succ
def v8:=@Nat.gcd_dvd_right
def wz:=@Nat.eq_zero_of_gcd_eq_zero_right
def wy:=@Nat.add_comm
def wj:=@List.push_toArray
def wv:=@List.filter_congr
def ww:=@List.all_eq_false
def wx:=@Int.zero_mul
def wa:=@Int.ofNat_lt
def wb:=@Int.le_of_lt
def wc:=@Array.size_modify
def wd:=@not_or
def we:=@List.getElem_map
def wh:=@List.Sublist.map
def wi:=@Array.eq_empty_of_size_eq_zero
def wk:=@Nat.one_mul
def wl:=@List.mem_eraseIdx_iff_getElem
def wn:=@Int.pow_add
def wo:=@Nat.mul_eq_zero
def wu:=@Nat.mul_add_mod
def wA:=@Nat.div_le_self
def wB:=@List.length_zip
def wC:=@Bool.eq_iff_iff
def wD:=@Nat.two_pow_add_eq_or_of_lt
def wE:=@Rat.lt_iff
def wF:=@Bool.false_beq
end Go
namespace Go
theorem dTo{p:Prop}[Decidable p](h:p:=by omega):decide p=true:=zp h
theorem dFo{p:Prop}[Decidable p](h:¬p:=by omega):decide p=false:=zh h
theorem iPo{c:Prop}{h:Decidable c}(hc:c:=by omega){α:Sort _}{t e:α}:ite c t e=t:=ze hc
theorem iNo{c:Prop}{h:Decidable c}(hc:¬c:=by omega){α:Sort _}{t e:α}:ite c t e=e:=zl hc
theorem tLo{α:Type _}{i:Nat}{l:List α}(h:l.length<=i:=by omega):l.take i=l:=zZ h
end Go
namespace Go.Abs
open Go.RowKit (Below)
inductive IV where
 | sc (v:Value)
 | sl (es:List (List IV))
 | ip (cs:List IV) (j:Nat)
 | clo (f:FuncId) (caps:List IV)
 | agg (cs:List IV)
 | tup (vs:List IV)
 | mp (sc:Nat×Bool) (kvs:List (List Int×List Int))
 | ref (b e s n:Nat)
 | pr (b s i j:Nat)
 | emp
 deriving Inhabited
def keyV(k:List Int):Value:= .agg (k.map (Value.int .i64)).toArray
def elemV(sc:Bool)(v:List Int):Value:=if sc=true then .int .i64 (v.headD 0)else keyV v
def Ents(sc:Nat×Bool)(kvs:List (List Int×List Int))(es:Array MapEntry):Prop:=(∀p∈kvs,p.1.length=sc.1)/\es.toList.map (fun e=>(e.key,e.val))=kvs.map (fun p=>(keyV p.1,elemV sc.2 p.2))
def Born(es:Array MapEntry)(c:Nat):Prop:=(es.toList.map (·.born)).Nodup/\∀e∈es.toList,e.born<c
def jem:Value->Bool
 | .bool _ | .int _ _ | .string _ | .float _ _ | .nilFunc | .pointer none=>true
 | .tuple vs=>vs.size==0
 | _=>false
def IV.one:IV->Bool
 | .sc v=>v.oneCell'
 | .sl _ | .ip _ _ | .clo _ _ | .mp _ _ | .ref _ _ _ _ | .pr _ _ _ _ | .emp=>true
 | .agg _ | .tup _=>false
abbrev IV.int(n:Int):IV:= .sc (.int .i64 n)
abbrev IV.bool(b:Bool):IV:= .sc (.bool b)
inductive Rep(w:World)(M:Nat->Nat->Prop):IV->Value->Prop
 | sc (v:Value):jem v=true->Rep w M (.sc v) v
 | nil (a:Option Addr) (c:Nat):Rep w M (.sl []) (.slice a 0 c)
 | sl (es:List (List IV)) (s b o c:Nat) (u:Nat->Nat->Value):es≠[]->(∀e∈es,e.length=s)->es.length<=c->
   (∀i e j x,es[i]? =some e->e[j]? =some x->x.one=true/\w.cell? ⟨b,o+i*s+j,none⟩=some (u i j)/\¬M b (o+i*s+j))->
   (∀i e j x,es[i]? =some e->e[j]? =some x->Rep w M x (u i j))->Rep w M (.sl es) (.slice (some ⟨b,o,none⟩) es.length c)
 | ip (cs:List IV) (j b o:Nat) (u:Nat->Value):
   (∀k x,cs[k]? =some x->x.one=true/\w.cell? ⟨b,o+k,none⟩=some (u k)/\¬M b (o+k))->
   (∀k x,cs[k]? =some x->Rep w M x (u k))->Rep w M (.ip cs j) (.pointer (some ⟨b,o+j,none⟩))
 | clo (f:FuncId) (caps:List IV) (vs:Array Value):caps.length=vs.size->(∀(k:Nat) x v,caps[k]? =some x->vs[k]? =some v->Rep w M x v)->
   Rep w M (.clo f caps) (.func (.func f) #[] vs)
 | agg (cs:List IV) (vs:Array Value):cs.length=vs.size->(∀x∈cs,x.one=true)->(∀(k:Nat) x v,cs[k]? =some x->vs[k]? =some v->Rep w M x v)->Rep w M (.agg cs) (.agg vs)
 | tup (cs:List IV) (vs:Array Value):cs.length=vs.size->(∀(k:Nat) x v,cs[k]? =some x->vs[k]? =some v->Rep w M x v)->Rep w M (.tup cs) (.tuple vs)
 | mpn (sc:Nat×Bool):Rep w M (.mp sc []) (.map none)
 | mp (sc:Nat×Bool) (kvs:List (List Int×List Int)) (b:Nat) (es:Array MapEntry) (c:Nat):w.heap[b]? =some (.map es c)->¬M b 0->Ents sc kvs es->Born es c->Rep w M (.mp sc kvs) (.map (some b))
 | ref (b e s n cap:Nat) (cur:Array Value):w.heap[b]? =some (.cells cur e (0,0))->n<=cap->cap<=maxLen->cur.size=cap*s->Rep w M (.ref b e s n) (.slice (some ⟨b,0,none⟩) n cap)
 | pr (b s i j:Nat):Rep w M (.pr b s i j) (.pointer (some ⟨b,i*s+j,none⟩))
 | emp (a:Option Addr):Rep w M .emp (.slice a 0 0)
def Shp(w w':World):Prop:=∀(b:Nat) (cur:Array Value) (T:TypeId),w.heap[b]? =some (.cells cur T (0,0))->∃a1,w'.heap[b]? =some (.cells a1 T (0,0))/\a1.size=cur.size
theorem Shp.refl(w:World):Shp w w:=fun _ cur _ h=>⟨cur,h,rfl⟩
theorem Shp.trans{w1 w2 w3:World}(h:Shp w1 w2)(h':Shp w2 w3):Shp w1 w3:=fun b cur T hc=>by
 obtain⟨c1,h1,h2⟩:=h b cur T hc;obtain⟨c2,h3,h4⟩:=h' b c1 T h1;exact⟨c2,h3,h4.trans h2⟩
theorem Shp.old{w w':World}(h:∀k,k<w.heap.size->w'.heap[k]? =w.heap[k]?):Shp w w':=fun b cur T hc=>⟨cur,by rw[h b (zm.1 hc).1];exact hc,rfl⟩
theorem Shp.of{w w':World}(h:Below w.heap.size w w'):Shp w w':=Shp.old fun k hk=>h.block k hk
section
variable{w w':World}{M M':Nat->Nat->Prop}{x:IV}{v:Value}
structure Kept(w:World)(M:Nat->Nat->Prop)(w':World)(M':Nat->Nat->Prop):Prop where
 cell:∀b o u,w.cell? ⟨b,o,none⟩=some u->¬M b o->w'.cell? ⟨b,o,none⟩=some u/\¬M' b o
 map:∀b es c,w.heap[b]? =some (.map es c)->¬M b 0->w'.heap[b]? =some (.map es c)/\¬M' b 0
 shp:Shp w w'
theorem Kept.refl(w:World)(M:Nat->Nat->Prop):Kept w M w M:=⟨fun _ _ _ h hm=>⟨h,hm⟩,fun _ _ _ h hm=>⟨h,hm⟩,Shp.refl _⟩
theorem Kept.less(w:World)(h:∀b o,M' b o->M b o):Kept w M w M':=⟨fun b o _ hc hm=>⟨hc,fun h'=>hm (h b o h')⟩,fun b _ _ hc hm=>⟨hc,fun h'=>hm (h b 0 h')⟩,Shp.refl _⟩
theorem Rep.kept(h:Rep w M x v)(hk:Kept w M w' M'):Rep w' M' x v:=by
 induction h with
 | sc v hv=>exact .sc v hv
 | nil a c=>exact .nil a c
 | sl es s b o c u hne hs hc h1 h2 ih=>
  exact .sl es s b o c u hne hs hc (fun i e j x hi hj=>⟨(h1 i e j x hi hj).1,hk.cell _ _ _ (h1 i e j x hi hj).2.1 (h1 i e j x hi hj).2.2⟩) ih
 | ip cs j b o u h1 h2 ih=>
  exact .ip cs j b o u (fun k x hx=>⟨(h1 k x hx).1,hk.cell _ _ _ (h1 k x hx).2.1 (h1 k x hx).2.2⟩) ih
 | clo f caps vs hl h1 ih=>exact .clo f caps vs hl ih
 | agg cs vs hl ho h1 ih=>exact .agg cs vs hl ho ih
 | tup cs vs hl h1 ih=>exact .tup cs vs hl ih
 | mpn sc=>exact .mpn sc
 | mp sc kvs b es c h1 h2 h3 h4=>exact .mp sc kvs b es c (hk.map b es c h1 h2).1 (hk.map b es c h1 h2).2 h3 h4
 | ref b e s n cap cur h1 h2 h3 h4=>
  obtain⟨a1,h5,h6⟩:=hk.shp b cur e h1;exact .ref b e s n cap a1 h5 h2 h3 (by rw[h6];exact h4)
 | pr b s i j=>exact .pr b s i j
 | emp a=>exact .emp a
theorem Rep.oneCell(h:Rep w M x v)(ho:x.one=true):v.oneCell'=true:=by
 cases h<;>simp_all[IV.one,Value.oneCell']
theorem Rep.less(h:Rep w M x v)(hM:∀b o,M' b o->M b o):Rep w M' x v:=h.kept (Kept.less w hM)
inductive IV.Flat:IV->Prop
 | sc (v:Value):IV.Flat (.sc v)
 | agg (cs:List IV):(∀x∈cs,IV.Flat x)->IV.Flat (.agg cs)
 | tup (cs:List IV):(∀x∈cs,IV.Flat x)->IV.Flat (.tup cs)
def flat1:IV->Bool
 | .sc _=>true
 | _=>false
def flatB:IV->Bool
 | .sc _=>true
 | .agg cs=>cs.all flat1
 | .tup cs=>cs.all fun x=>match x with | .sc _=>true | .agg cs=>cs.all flat1 | _=>false
 | _=>false
theorem jne{x:IV}(h:flat1 x=true):x.Flat:=by cases x<;>simp[flat1]at h;exact .sc _
theorem flatB_flat{x:IV}(h:flatB x=true):x.Flat:=by
 cases x with
 | sc v=>exact .sc v
 | agg cs=>simp only[flatB,List.all_eq_true]at h;exact .agg _ fun y hy=>jne (h y hy)
 | tup cs=>
  simp only[flatB,List.all_eq_true]at h;refine .tup _ fun y hy=> ?_;have:=h y hy;cases y with
  | sc v=>exact .sc v
  | agg cs=>simp only[List.all_eq_true]at this;exact .agg _ fun z hz=>jne (this z hz)
  | _=>simp at this
 | _=>simp[flatB]at h
theorem Rep.flat(h:Rep w M x v)(hf:x.Flat):Rep w' M' x v:=by
 induction h with
 | sc v hv=>exact .sc v hv
 | agg cs vs hl ho h1 ih=>
  cases hf with
  | agg _ hf=>exact .agg cs vs hl ho fun k x v hx hv=>ih k x v hx hv (hf x (zk hx))
 | tup cs vs hl h1 ih=>
  cases hf with
  | tup _ hf=>exact .tup cs vs hl fun k x v hx hv=>ih k x v hx hv (hf x (zk hx))
 | _=>cases hf
end
def RepL(w:World)(M:Nat->Nat->Prop)(xs:List IV)(vs:List Value):Prop:=
 xs.length=vs.length/\∀(k:Nat) x v,xs[k]? =some x->vs[k]? =some v->Rep w M x v
theorem RepL.kept{w w':World}{M M':Nat->Nat->Prop}{xs vs}(h:RepL w M xs vs)(hk:Kept w M w' M'):RepL w' M' xs vs:=
 ⟨h.1,fun k x v hx hv=>(h.2 k x v hx hv).kept hk⟩
theorem RepL.nil{w M}:RepL w M [] []:=⟨rfl,fun k x v hx=>by simp at hx⟩
theorem RepL.cons{w M x v xs vs}(h:Rep w M x v)(hs:RepL w M xs vs):RepL w M (x::xs) (v::vs):=
 ⟨by simp[hs.1],fun k y u hy hu=>by
  cases k with
  | zero=>simp at hy hu;subst hy;subst hu;exact h
  | succ k=>exact hs.2 k y u (by simpa using hy) (by simpa using hu)⟩
theorem RepL.uncons{w M x xs vs}(h:RepL w M (x::xs) vs):∃v a1,vs=v::a1/\Rep w M x v/\RepL w M xs a1:=by
 obtain⟨hl,h⟩:=h;cases vs with
 | nil=>simp at hl
 | cons v a1=>exact⟨v,a1,rfl,h 0 x v rfl rfl,by simpa using hl,fun k y u hy hu=>h (k+1) y u (by simpa using hy) (by simpa using hu)⟩
theorem RepL.of_nil{w M vs}(h:RepL w M [] vs):vs=[]:=zX h.1.symm
def Ctr(P:Program)(f:FuncId)(args:List IV)(φ:IV->Prop):Prop:=
 ∀(w:World) (M:Nat->Nat->Prop) (vs:List Value),(∀b o,M b o->b<w.heap.size)->RepL w M args vs->
  Calls P f vs.toArray w fun e w'=>∃r v,φ r/\e= .returned v/\Rep w' M r v/\Below w.heap.size w w'
theorem Ctr.mono{P f args}{φ ψ:IV->Prop}(h:Ctr P f args φ)(hi:∀r,φ r->ψ r):Ctr P f args ψ:=
 fun w M vs hM hr=>(h w M vs hM hr).mono fun _ _ ⟨r,v,h1,h2⟩=>⟨r,v,hi r h1,h2⟩
theorem Below.kept{w w':World}{M:Nat->Nat->Prop}(h:Below w.heap.size w w'):Kept w M w' M:=⟨fun b o u hc hm=>by
 refine⟨?_,hm⟩;have hb:b<w.heap.size:=World.block_lt_of_cell? (a:=⟨b,o,none⟩) w hc;rw[<-hc];exact h.cell hb,fun b es c hc hm=>⟨by rw[h.block b (zm.1 hc).1];exact hc,hm⟩,Shp.of h⟩
end Go.Abs
namespace Go.Abs
section
open Go.RowKit (Below)
inductive ZC where
 | int (k:IntKind) | bool | str | sl | np | no
 deriving DecidableEq,Inhabited
def ZC.iv:ZC->IV
 | .int k=> .sc (.int k 0)
 | .bool=> .sc (.bool false)
 | .str=> .sc (.string ByteArray.empty)
 | .np=> .sc (.pointer none)
 | _=> .sl []
def ZC.ivG(b:Bool):ZC->IV
 | .int k=> .sc (.int k 0)
 | .bool=> .sc (.bool false)
 | .str=> .sc (.string ByteArray.empty)
 | .np=> .sc (.pointer none)
 | _=>if b=true then .emp else .sl []
def ofZV:Value->ZC
 | .int k 0=> .int k
 | .bool false=> .bool
 | .string s=>if s.size=0 then .str else .no
 | .slice none 0 0=> .sl
 | .pointer none=> .np
 | _=> .no
inductive TK where
 | sl (e:TypeId) | arr (n:Nat) (e:TypeId) | st (fs:List (Nat×TypeId)) | bl | it (k:IntKind) | str | mp (k e:TypeId) | pt | no
 deriving DecidableEq,Inhabited
structure TI where
 size:Nat
 bytes:Nat
 zero:List ZC
 kind:TK
 eq:Bool:=false
 deriving Inhabited
def basicB(P:Program)(f:Field):Bool:=
 f.name != "_" &&match P.underlying f.type with
  | some (.int _) | some .bool | some .string=>true
  | _=>false
def TK.okB(d:Option TypeDesc)(k:TK):Bool:=
 match k,d with
 | .sl e,some (.slice e')=>e==e'
 | .arr n e,some (.array n' e')=>n==n'&&e==e'
 | .st fs,some (.struct gs)=>gs.toList.map (fun f=>(f.offset,f.type))==fs
 | .bl,some .bool=>true
 | .it k,some (.int k')=>k==k'
 | .str,some .string=>true
 | .mp k e,some (.map k' e')=>k==k'&&e==e'
 | .pt,some (.pointer _)=>true
 | .no,some (.struct _) | .no,some (.array _ _)=>false
 | .no,some _=>true
 | _,_=>false
def TI.okB(P:Program)(t:TypeId)(x:TI):Bool:=
 match P.info? t with
 | some i=>i.size==x.size&&i.bytes==x.bytes&&x.kind.okB (P.underlying t)&&
   (match i.zero with
    | some z=>z.cells.toList.map ofZV==x.zero&&z.cells.size==x.size&&(match z,x.kind with | .agg _,.st _=>true | .agg _,.arr _ _=>true | .agg _,_=>false | _,.st _=>false | _,.arr _ _=>false | _,_=>true)
    | none=>false)&&
   (!x.eq || (match P.underlying t with
    | some (.struct gs)=>gs.toList.all (basicB P)&&gs.toList.map (·.offset)==List.range gs.size&&gs.size==x.size&& !P.stoodInHeld t&& !P.eqGuardType P.depth t
    | _=>false))
 | none=>false
structure Ctx where
 P:Program
 ti:TypeId->TI
 fns:Nat
 perm:List Nat:=[]
 frz:List Nat:=[]
 emp:Bool:=false
def Ctx.Ok(G:Ctx):Prop:=∀t,(G.ti t).size≠0->(G.ti t).okB G.P t=true
inductive AV where
 | im (x:IV)
 | und
 | sx (es:List (List IV))
 | vec (d e s:Nat) (es:List (List IV))
 | osl (d s i n:Nat)
 | gsl (d e s n:Nat)
 | loc (d s i j:Nat)
 | mpo (d:Nat) (sc:Nat×Bool) (kvs:List (List Int×List Int))
 deriving Inhabited
def look{α:Type}:List (Nat×α)->Nat->Option α
 | [],_=>none
 | (j,v)::r,k=>if k=j then some v else look r k
def del{α:Type}(l:List (Nat×α))(d:Nat):List (Nat×α):=l.filter fun p=>p.1 !=d
structure St where
 fr:List (Nat×AV)
 rows:List (Nat×Nat×List (List IV))
 toks:List (Nat×Nat×Nat)
 deriving Inhabited
def St.get(st:St)(t:Nat):AV:=(look st.fr t).getD .und
def St.put(st:St)(dst:Option Nat)(v:AV):St:=
 match dst with
 | some d=>{st with fr:=(d,v)::st.fr}
 | none=>st
def Mo(M0:Nat->Nat->Prop)(β:Nat->Option Nat)(st:St)(b o:Nat):Prop:=
 M0 b o\/(∃d s es,look st.rows d=some (s,es)/\β d=some b)\/(∃d s n,look st.toks d=some (s,n)/\β d=some b/\n*s<=o)
def RepA(w:World)(M:Nat->Nat->Prop)(β:Nat->Option Nat)(toks:List (Nat×Nat×Nat)):AV->Value->Prop
 | .im x,v=>Rep w M x v
 | .und,_=>True
 | .sx es,v=>Rep w M (.sl es) v/\∃a,v= .slice a es.length es.length
 | .vec d e s es,v=>Rep w M (.sl es) v/\(∀x∈es,x.length=s)/\(look toks d=some (s,es.length)->
   (∃a,v= .slice a es.length es.length)\/
   ∃b cap cur,β d=some b/\v= .slice (some ⟨b,0,none⟩) es.length cap/\w.heap[b]? =some (.cells cur e (0,0))/\es.length<=cap/\cap<=maxLen/\cur.size=cap*s)
 | .osl d s i n,v=>∃ad c,n<=c/\v= .slice ad n c/\(n≠0->∃b,β d=some b/\ad=some ⟨b,i*s,none⟩)
 | .gsl d e s n,v=>∃b cap cur,β d=some b/\v= .slice (some ⟨b,0,none⟩) n cap/\w.heap[b]? =some (.cells cur e (0,0))/\n<=cap/\cap<=maxLen/\cur.size=cap*s
 | .loc d s i j,v=>∃b,β d=some b/\v= .pointer (some ⟨b,i*s+j,none⟩)
 | .mpo d sc kvs,v=>∃b,β d=some b/\v= .map (some b)/\(look toks d=some (0,0)->∃es c,w.heap[b]? =some (.map es c)/\Ents sc kvs es/\Born es c)
def RowRep(w:World)(M:Nat->Nat->Prop)(b s:Nat)(es:List (List IV)):Prop:=
 ∃cur T,w.heap[b]? =some (.cells cur T (0,0))/\(∀e∈es,e.length=s)/\
  ∀(i:Nat) e (j:Nat) x,es[i]? =some e->e[j]? =some x->x.one=true/\∃u,cur[i*s+j]? =some u/\Rep w M x u
def hp(b:Nat):Nat:=b+100000
theorem hp_ne{n b:Nat}(h:n<100000):n≠hp b:=by unfold hp;omega
theorem hp_inj{a b:Nat}:hp a=hp b↔a=b:=by unfold hp;omega
structure Base where
 w:World
 P:Nat->Prop
 lt:∀k,P k->k<w.heap.size
 β:Nat->Option Nat:=fun _=>none
structure Base.Fr(B:Base)(w:World):Prop where
 os:w.os=B.w.os
 tape:w.tape=B.w.tape
 output:w.output=B.w.output
 size:B.w.heap.size<=w.heap.size
 block:∀k,B.P k->w.heap[k]? =B.w.heap[k]?
 shp:Shp B.w w
def Base.of(w:World):Base:={w:=w,P:=fun k=>k<w.heap.size,lt:=fun _ h=>h}
theorem Base.Fr.refl(B:Base):B.Fr B.w:=⟨rfl,rfl,rfl,zu _,fun _ _=>rfl,Shp.refl _⟩
theorem Base.Fr.step{B:Base}{w w':World}(h:B.Fr w)(hb:Below w.heap.size w w'):B.Fr w':=
 ⟨hb.os.trans h.os,hb.tape.trans h.tape,hb.output.trans h.output,qI h.size hb.size,fun k hk=>by
  rw[hb.block k (qv (B.lt k hk) h.size)];exact h.block k hk,h.shp.trans (Shp.of hb)⟩
theorem Base.Fr.below{w w':World}(h:(Base.of w).Fr w'):Below w.heap.size w w':=⟨h.os,h.tape,h.output,h.size,fun k hk=>h.block k hk⟩
theorem Base.Fr.drew{B:Base}{w:World}(h:B.Fr w):B.Fr w.drew:=⟨h.os,h.tape,h.output,h.size,h.block,h.shp⟩
theorem Base.Fr.alloc{B:Base}{w:World}(h:B.Fr w)(x:Obj):B.Fr (w.alloc x):=h.step ((Below.refl _ _).alloc (zu _) _)
theorem Base.Fr.set{B:Base}{w w':World}(h:B.Fr w){b:Nat}(hb:¬B.P b)(a6:w'.os=w.os)(ht:w'.tape=w.tape)(ho:w'.output=w.output)(hs:w'.heap.size=w.heap.size)(hk:∀k,k≠b->w'.heap[k]? =w.heap[k]?)(a1:Shp w w'):B.Fr w':=
 ⟨a6.trans h.os,ht.trans h.tape,ho.trans h.output,by rw[hs];exact h.size,fun k hp=>by rw[hk k (fun e=>hb (e▸hp))];exact h.block k hp,h.shp.trans a1⟩
structure Sim(N:Nat)(w0:Base)(M0:Nat->Nat->Prop)(β:Nat->Option Nat)(st:St)(a:Act)(w:World):Prop where
 size:a.tmps.size=N
 defers:a.defers=[]
 below:w0.Fr w
 m0:∀b o,M0 b o->w0.P b
 fr:∀t,RepA w (Mo M0 β st) β st.toks (st.get t) (a.tmps.getD t undef)
 rows:∀d s es,look st.rows d=some (s,es)->∃b,β d=some b/\¬w0.P b/\RowRep w (Mo M0 β st) b s es
 toks:∀d s n,look st.toks d=some (s,n)->∀b,β d=some b->¬w0.P b/\b<w.heap.size
 inj:∀d d' b,((look st.rows d).isSome\/(look st.toks d).isSome)->((look st.rows d').isSome\/(look st.toks d').isSome)->β d=some b->β d'=some b->d=d'
 excl:∀d,(look st.rows d).isSome->look st.toks d=none
 nam:∀k,N<=k->k<100000->(look st.rows k).isSome->β k=w0.β k
 np:N<=100000
 perm:∀b,β (hp b)=some b
section
variable{α:Type}
theorem ja2(l:List (Nat×α))(d:Nat)(v:α):look ((d,v)::l) d=some v:=by simp[look]
theorem ja1(l:List (Nat×α)){d k:Nat}(v:α)(h:k≠d):look ((d,v)::l) k=look l k:=by simp[look,h]
theorem jab(l:List (Nat×α))(d:Nat):look (del l d) d=none:=by
 induction l with
 | nil=>rfl
 | cons p l ih=>
  obtain⟨j,v⟩:=p;by_cases h:j=d
  ·subst h;simpa [del,j3]using ih
  ·simp[del,h,look,zH h]at ih⊢;exact ih
theorem jaa(l:List (Nat×α)){d k:Nat}(h:k≠d):look (del l d) k=look l k:=by
 induction l with
 | nil=>rfl
 | cons p l ih=>
  obtain⟨j,v⟩:=p;by_cases hj:j=d
  ·subst hj;have:look ((j,v)::l) k=look l k:=ja1 l v h;rw[this];simpa [del,j3]using ih
  ·have e:del ((j,v)::l) d=(j,v)::del l d:=by simp[del,hj]
   rw[e];by_cases hk:k=j
   ·subst hk;simp[look]
   ·simp[look,hk,ih]
theorem jir(l:List (Nat×α))(f:α->α)(k:Nat):look (l.map fun p=>(p.1,f p.2)) k=(look l k).map f:=by
 induction l with
 | nil=>rfl
 | cons p l ih=>
  obtain⟨j,v⟩:=p;by_cases hk:k=j
  ·simp[look,hk]
  ·simp[look,hk,ih]
end
section
variable{N:Nat}{w0:Base}{w w':World}{M M' M0:Nat->Nat->Prop}{β:Nat->Option Nat}{st:St}{a:Act}{toks:List (Nat×Nat×Nat)}{av:AV}{v:Value}
theorem RepA.below(h:RepA w M β toks av v)(hb:Below w.heap.size w w'):RepA w' M β toks av v:=by
 cases av with
 | im x=>exact Rep.kept (w:=w) h (Below.kept hb)
 | und=>trivial
 | sx es=>exact⟨Rep.kept h.1 (Below.kept hb),h.2⟩
 | vec d e s es=>
  refine⟨Rep.kept h.1 (Below.kept hb),h.2.1,fun ht=> ?_⟩;rcases h.2.2 ht with hc | ⟨b,cap,cur,h1,h2,h3,h4⟩
  ·exact .inl hc
  ·refine .inr ⟨b,cap,cur,h1,h2,?_,h4⟩;rw[hb.block b (zm.1 h3).1];exact h3
 | osl d s i n=>exact h
 | gsl d e s n=>
  obtain⟨b,cap,cur,h1,h2,h3,h4⟩:=h;exact⟨b,cap,cur,h1,h2,by rw[hb.block b (zm.1 h3).1];exact h3,h4⟩
 | loc d s i j=>exact h
 | mpo d sc kvs=>
  obtain⟨b,h1,h2,h3⟩:=h;refine⟨b,h1,h2,fun ht=> ?_⟩;obtain⟨es,c,h4,h5⟩:=h3 ht;exact⟨es,c,by rw[hb.block b (zm.1 h4).1];exact h4,h5⟩
theorem RowRep.below{b s:Nat}{es:List (List IV)}(h:RowRep w M b s es)(hb:Below w.heap.size w w'):RowRep w' M b s es:=by
 obtain⟨cur,T,h1,h2,h3⟩:=h;refine⟨cur,T,?_,h2,fun i e j x hi hj=> ?_⟩
 ·rw[hb.block b (zm.1 h1).1];exact h1
 ·obtain⟨ho,u,hu,hr⟩:=h3 i e j x hi hj;exact⟨ho,u,hu,hr.kept (Below.kept hb)⟩
theorem Sim.ext(h:Sim N w0 M0 β st a w)(hb:Below w.heap.size w w'):Sim N w0 M0 β st a w' where
 size:=h.size
 defers:=h.defers
 below:=h.below.step hb
 m0:=h.m0
 fr t:=(h.fr t).below hb
 rows d s es hd:=let⟨b,h1,h2,h3⟩:=h.rows d s es hd;⟨b,h1,h2,h3.below hb⟩
 toks d s n hd b hbd:=let⟨h1,h2⟩:=h.toks d s n hd b hbd;⟨h1,qv h2 hb.size⟩
 inj:=h.inj
 excl:=h.excl
 nam:=h.nam
 np:=h.np
 perm:=h.perm
theorem Sim.put{dst:Option Nat}(h:Sim N w0 M0 β st a w)(hd:∀d,dst=some d->d<N)(hv:RepA w (Mo M0 β st) β st.toks av v):Sim N w0 M0 β (st.put dst av) (a.put dst v) w:=by
 cases dst with
 | none=>exact h
 | some d=>
  have hM:Mo M0 β (st.put (some d) av)=Mo M0 β st:=rfl;refine⟨by simp[Act.put,h.size],h.defers,h.below,h.m0,fun t=> ?_,h.rows,h.toks,h.inj,h.excl,h.nam,h.np,h.perm⟩;rw[hM];show RepA w _ β st.toks _ _;by_cases ht:t=d
  ·subst ht;have e1:(st.put (some t) av).get t=av:=by simp[St.put,St.get,look]
   have e2:(a.put (some t) v).tmps.getD t undef=v:=by
    have:t<a.tmps.size:=by rw[h.size];exact hd t rfl
    simp[Act.put,this]
   rw[e1,e2];exact hv
  ·have e1:(st.put (some d) av).get t=st.get t:=by simp[St.put,St.get,look,ht]
   have e2:(a.put (some d) v).tmps.getD t undef=a.tmps.getD t undef:=by
    simp[Act.put,qk (zH ht)]
   rw[e1,e2];exact h.fr t
theorem Sim.drew(h:Sim N w0 M0 β st a w):Sim N w0 M0 β st a {w with drawn:=w.drawn+1}:=h.ext ⟨rfl,rfl,rfl,zu _,fun _ _=>rfl⟩
end
def ofCell:Value->Option IV
 | .slice none 0 0=>some (.sl [])
 | v=>if jem v&&v.oneCell' then some (.sc v)else none
def job:List Value->Option (List IV)
 | []=>some []
 | v::r=>match ofCell v,job r with
  | some x,some xs=>some (x::xs)
  | _,_=>none
def ofV:Value->AV
 | .slice none 0 0=> .sx []
 | .map none=> .im (.mp (0,false) [])
 | .agg cs=>match job cs.toList with
  | some xs=> .im (.agg xs)
  | none=> .und
 | v=>if jem v then .im (.sc v)else .und
def evO(st:St):Operand->AV
 | .tmp t=>st.get t
 | .const v=>ofV v
 | .global _=> .und
 | .func f=> .im (.clo f [])
theorem ofCell_rep{w M v x}(h:ofCell v=some x):Rep w M x v/\x.one=true:=by
 unfold ofCell at h;split at h
 ·cases h;exact⟨.nil _ _,rfl⟩
 ·split at h
  ·rename_i hp;cases h;simp only[zn]at hp;exact⟨.sc _ hp.1,hp.2⟩
  ·cases h
theorem jld{w M}:∀{vs:List Value} {xs:List IV},job vs=some xs->RepL w M xs vs/\∀x∈xs,x.one=true
 | [],xs,h=>by cases h;exact⟨RepL.nil,by simp⟩
 | v::r,xs,h=>by
  unfold job at h;split at h
  ·rename_i x a1 h1 h2;cases h;obtain⟨h3,h4⟩:=jld (w:=w) (M:=M) h2;obtain⟨h5,h6⟩:=ofCell_rep (w:=w) (M:=M) h1;exact⟨RepL.cons h5 h3,by simpa [h6]using h4⟩
  ·cases h
theorem RepL.agg{w M}{xs:List IV}{vs:Array Value}(h:RepL w M xs vs.toList)(ho:∀x∈xs,x.one=true):Rep w M (.agg xs) (.agg vs):=
 .agg xs vs (by simpa using h.1) ho fun k x v hx hv=>h.2 k x v hx (by simpa using hv)
theorem RepL.tup{w M}{xs:List IV}{vs:Array Value}(h:RepL w M xs vs.toList):Rep w M (.tup xs) (.tuple vs):=
 .tup xs vs (by simpa using h.1) fun k x v hx hv=>h.2 k x v hx (by simpa using hv)
theorem Rep.agg_inv{w M}{xs:List IV}{v:Value}(h:Rep w M (.agg xs) v):∃vs:Array Value,v= .agg vs/\RepL w M xs vs.toList/\∀x∈xs,x.one=true:=by
 cases h with
 | agg _ vs hl ho h=>exact⟨vs,rfl,⟨by simpa using hl,fun k x v hx hv=>h k x v hx (by simpa using hv)⟩,ho⟩
theorem Rep.tup_inv{w M}{xs:List IV}{v:Value}(h:Rep w M (.tup xs) v):∃vs:Array Value,v= .tuple vs/\RepL w M xs vs.toList:=by
 cases h with
 | tup _ vs hl h=>exact⟨vs,rfl,⟨by simpa using hl,fun k x v hx hv=>h k x v hx (by simpa using hv)⟩⟩
theorem Rep.sc_inv{w M v u}(h:Rep w M (.sc v) u):u=v:=by cases h;rfl
theorem Rep.clo_inv{w M f caps v}(h:Rep w M (.clo f caps) v):∃vs:Array Value,v= .func (.func f) #[] vs/\RepL w M caps vs.toList:=by
 cases h with
 | clo _ _ vs hl h=>exact⟨vs,rfl,⟨by simpa using hl,fun k x v hx hv=>h k x v hx (by simpa using hv)⟩⟩
theorem ofV_rep{w M β toks}(v:Value):RepA w M β toks (ofV v) v:=by
 unfold ofV;split
 ·exact⟨.nil _ _,none,rfl⟩
 ·exact Rep.mpn _
 ·split
  ·rename_i h;obtain⟨h1,h2⟩:=jld (w:=w) (M:=M) h;exact RepL.agg h1 h2
  ·trivial
 ·split
  ·exact Rep.sc _ ‹_›
  ·trivial
theorem jb7{N w0 M0 β st a w}(h:Sim N w0 M0 β st a w)(x:Operand):RepA w (Mo M0 β st) β st.toks (evO st x) (a.eval x):=by
 cases x with
 | tmp t=>exact h.fr t
 | const v=>exact ofV_rep v
 | global g=>trivial
 | func f=>exact Rep.clo f [] #[] rfl (fun k x v hx=>by simp at hx)
theorem jcz{α:Type}{l:List (Nat×α)}{b k:Nat}{v:α}(h:k<100000:=by decide):look ((hp b,v)::l) k=look l k:=ja1 _ _ (hp_ne h)
theorem jae{α:Type}{l:List (Nat×α)}{b k:Nat}{v:α}(h:k<100000:=by decide):look ((k,v)::l) (hp b)=look l (hp b):=ja1 _ _ (hp_ne h).symm
end
section
open Go.RowKit (Below)
section
variable{G:Ctx}{t:TypeId}
theorem Ctx.Ok.info(hG:G.Ok)(h:(G.ti t).size≠0):∃i z,G.P.info? t=some i/\i.size=(G.ti t).size/\i.bytes=(G.ti t).bytes/\i.zero=some z/\z.cells.toList.map ofZV=(G.ti t).zero/\z.cells.size=(G.ti t).size:=by
 have:=hG t h;unfold TI.okB at this;split at this
 ·rename_i i hi;simp only[zn,yC]at this;obtain⟨⟨⟨⟨h1,h2⟩,_⟩,h4⟩,_⟩:=this;split at h4
  ·rename_i z hz;simp only[zn,yC]at h4;exact⟨i,z,hi,h1,h2,hz,h4.1.1,h4.1.2⟩
  ·cases h4
 ·cases this
theorem Ctx.Ok.mp(hG:G.Ok)(h:(G.ti t).size≠0){k e}(hk:(G.ti t).kind= .mp k e):G.P.underlying t=some (.map k e):=by
 have:=hG t h;unfold TI.okB at this;split at this
 ·simp only[zn]at this;have:=this.1.1.2;rw[hk]at this;unfold TK.okB at this;split at this<;>simp_all
 ·cases this
theorem Ctx.Ok.zeroAgg(hG:G.Ok)(h:(G.ti t).size≠0){z:Value}{w:World}(hz:(zeroValue t).run G.P w= .ok z w):
  (match(G.ti t).kind with | .st _ | .arr _ _=>∃cs,z= .agg cs | _=>∀cs,z≠ .agg cs):=by
 have:=hG t h;unfold TI.okB at this;split at this
 ·rename_i i hi;simp only[zn]at this;obtain⟨⟨_,h4⟩,_⟩:=this;split at h4
  ·rename_i z' a1;have:z=z':=by
    simp[zeroValue,typeInfo,hi,a1]at hz;exact hz.symm
   subst this;simp only[zn]at h4;have h5:=h4.2;generalize (G.ti t).kind=k at h5;cases k<;>cases z<;>simp_all
  ·cases h4
 ·cases this
theorem Ctx.Ok.kind(hG:G.Ok)(h:(G.ti t).size≠0):(G.ti t).kind.okB (G.P.underlying t)=true:=by
 have:=hG t h;unfold TI.okB at this;split at this
 ·simp only[zn]at this;exact this.1.1.2
 ·cases this
theorem Ctx.Ok.size(hG:G.Ok)(h:(G.ti t).size≠0)(w:World):(sizeOf t).run G.P w= .ok (G.ti t).size w:=by
 obtain⟨i,z,hi,hs,_⟩:=hG.info h;simp[sizeOf,typeInfo,hi,hs]
theorem Ctx.Ok.sl(hG:G.Ok)(h:(G.ti t).size≠0){e}(hk:(G.ti t).kind= .sl e):G.P.underlying t=some (.slice e):=by
 have:=hG.kind h;rw[hk]at this;unfold TK.okB at this;split at this<;>simp_all
theorem Ctx.Ok.arr(hG:G.Ok)(h:(G.ti t).size≠0){n e}(hk:(G.ti t).kind= .arr n e):G.P.underlying t=some (.array n e):=by
 have:=hG.kind h;rw[hk]at this;unfold TK.okB at this;split at this<;>simp_all
theorem Ctx.Ok.st(hG:G.Ok)(h:(G.ti t).size≠0){fs}(hk:(G.ti t).kind= .st fs):∃gs,G.P.underlying t=some (.struct gs)/\gs.toList.map (fun f=>(f.offset,f.type))=fs:=by
 have:=hG.kind h;rw[hk]at this;unfold TK.okB at this;split at this<;>simp_all
theorem Ctx.Ok.bl(hG:G.Ok)(h:(G.ti t).size≠0)(hk:(G.ti t).kind= .bl):G.P.underlying t=some .bool:=by
 have:=hG.kind h;rw[hk]at this;unfold TK.okB at this;split at this<;>simp_all
theorem Ctx.Ok.it(hG:G.Ok)(h:(G.ti t).size≠0){k}(hk:(G.ti t).kind= .it k):G.P.underlying t=some (.int k):=by
 have:=hG.kind h;rw[hk]at this;unfold TK.okB at this;split at this<;>simp_all
theorem Ctx.Ok.str(hG:G.Ok)(h:(G.ti t).size≠0)(hk:(G.ti t).kind= .str):G.P.underlying t=some .string:=by
 have:=hG.kind h;rw[hk]at this;unfold TK.okB at this;split at this<;>simp_all
theorem Ctx.Ok.pt(hG:G.Ok)(h:(G.ti t).size≠0)(hk:(G.ti t).kind= .pt):G.P.underlying t=some (.pointer (G.P.pointee t)):=by
 have:=hG.kind h;rw[hk]at this;unfold TK.okB at this;split at this<;>simp_all[Program.pointee]
def aggK:TK->Bool
 | .st _ | .arr _ _=>true
 | _=>false
theorem Ctx.Ok.isAgg(hG:G.Ok)(h:(G.ti t).size≠0)(w:World):(Go.isAgg t).run G.P w= .ok (aggK (G.ti t).kind) w:=by
 have:=hG.kind h;unfold TK.okB at this;split at this<;>first | (cases this;done) | skip
 all_goals
  rename_i h1 h2;rw[h1];simp only[Go.isAgg,aggK,Sem.run_bind,run_underlying h2,Result.andThen_ok]
 all_goals rfl
end
def jpy(op:BinOp)(b:Bool):Option Value:=
 match op with
 | .eql=>some (.bool b)
 | .neq=>some (.bool !b)
 | _=>none
def scBin(G:Ctx)(op:BinOp)(t:TypeId)(a b:Value):Option Value:=
 match a,b with
 | .int k x,.int k' y=>
  match op with
  | .shl=>if y<0 then none else some (.int k (k.wrap (x*2^(min y.toNat k.bits))))
  | .shr=>if y<0 then none else some (.int k (x.fdiv (2^(min y.toNat k.bits))))
  | .add=>if k=k' then some (.int k (k.wrap (x+y)))else none
  | .sub=>if k=k' then some (.int k (k.wrap (x-y)))else none
  | .mul=>if k=k' then some (.int k (k.wrap (x*y)))else none
  | .quo=>if k=k' then if y=0 then none else some (.int k (k.wrap (x.tdiv y)))else none
  | .rem=>if k=k' then if y=0 then none else some (.int k (x.tmod y))else none
  | .and=>if k=k' then some (.int k (bits .and k x y))else none
  | .or=>if k=k' then some (.int k (bits .or k x y))else none
  | .xor=>if k=k' then some (.int k (bits .xor k x y))else none
  | .andNot=>if k=k' then some (.int k (bits .andNot k x y))else none
  | .eql=>if k=k' then some (.bool (decide (x=y)))else none
  | .neq=>if k=k' then some (.bool (!decide (x=y)))else none
  | .lss=>if k=k' then some (.bool (decide (x<y)))else none
  | .leq=>if k=k' then some (.bool (decide (x<=y)))else none
  | .gtr=>if k=k' then some (.bool (decide (y<x)))else none
  | .geq=>if k=k' then some (.bool (decide (y<=x)))else none
 | .bool x,.bool y=>
  if(G.ti t).size≠0/\(G.ti t).kind= .bl then
   match op with
   | .eql=>some (.bool (x==y))
   | .neq=>some (.bool (!(x==y)))
   | _=>none
  else none
 | .string x,.string y=>
  match op with
  | .eql=>some (.bool (x==y))
  | .neq=>some (.bool (!(x==y)))
  | _=>none
 | .pointer none,.pointer none=>if(G.ti t).size≠0/\(G.ti t).kind= .pt then jpy op true else none
 | _,_=>none
theorem jmz{G:Ctx}(hG:G.Ok){op:BinOp}{t:TypeId}{p:Option Addr}{c:Value}(h0:(G.ti t).size≠0)(hk:(G.ti t).kind= .pt)(h:jpy op p.isNone=some c)(x y:Operand)(w:World):
  Sem.run G.P (do eqGuard op t x y (.pointer p) (.pointer none);binOp op t (.pointer p) (.pointer none)) w= .ok c w/\jem c=true/\c.oneCell'=true:=by
 have hu:=hG.pt h0 hk;unfold jpy at h;cases op<;>simp only at h<;>first | (cases h;done) | skip
 all_goals (cases h;refine⟨?_,rfl,rfl⟩)
 ·have:=run_eql_pointer_nil w t p hu;simp[eqGuard,this]
 ·have:=run_neq_pointer_nil w t p hu;simp[eqGuard,this]
theorem scBin_run{G:Ctx}(hG:G.Ok){op t a b c}(h:scBin G op t a b=some c)(x y:Operand)(w:World):
  Sem.run G.P (do eqGuard op t x y a b;binOp op t a b) w= .ok c w/\jem c=true/\c.oneCell'=true:=by
 unfold scBin at h;split at h
 ·rename_i k x' k' y';cases op<;>simp only at h
  all_goals (repeat' (split at h))
  all_goals first | (cases h;done) | skip
  all_goals (rename_i h1<;>cases h<;>(try subst h1)<;>refine⟨?_,rfl,rfl⟩)
  all_goals first
   | (simp[go_sem,Op.shift,Op.intDiv, *];done)
   | (simp[go_sem,Op.intArith,Op.intCmp,bits, *];done)
   | skip
  all_goals (simp only[eqGuard_at_int,Sem.run_bind,Sem.run_pure,Result.andThen_ok,binOp_eql,binOp_neq];rfl)
 ·split at h
  ·rename_i x' y' hk;have hu:=hG.bl hk.1 hk.2;cases op<;>simp only at h<;>first | (cases h;done) | skip
   all_goals (cases h;refine⟨?_,rfl,rfl⟩;simp[go_sem,binOp,Op.equal,Op.maxDepth,run_equalIn_bool _ _ _ _ _ hu])
  ·cases h
 ·cases op<;>simp only at h<;>first | (cases h;done) | skip
  all_goals (cases h;refine⟨?_,rfl,rfl⟩;simp[go_sem,binOp,Op.stringOp,beq_toListBytes])
 ·split at h
  ·rename_i hk;exact jmz hG hk.1 hk.2 h x y w
  ·cases h
 ·cases h
def scUn(op:UnOp)(a:Value):Option Value:=
 match op,a with
 | .not,.bool b=>some (.bool !b)
 | .neg,.int k n=>some (.int k (k.wrap (0-n)))
 | _,_=>none
theorem scUn_run{P:Program}{op a c}(h:scUn op a=some c)(w:World):(Op.unary op a).run P w= .ok c w/\jem c=true/\c.oneCell'=true:=by
 unfold scUn at h;split at h<;>first | (cases h;done) | skip
 all_goals (cases h;refine⟨?_,rfl,rfl⟩;simp[Op.unary,Op.intArith])
def jpt:Value->Value->Option Value
 | .int k x,.int k' y=>if k=k' then some (.int k (min x y))else none
 | _,_=>none
def jpu:Value->Value->Option Value
 | .int k x,.int k' y=>if k=k' then some (.int k (max x y))else none
 | _,_=>none
def jl4(f:Value->Value->Option Value)(x:Value):List Value->Option Value
 | []=>some x
 | y::r=>match f x y with
  | some z=>jl4 f z r
  | none=>none
def scs:List AV->Option (List Value)
 | []=>some []
 | .im (.sc v)::r=>match scs r with
  | some vs=>some (v::vs)
  | none=>none
 | _::_=>none
theorem scMin2_run{P:Program}{x y z}(h:jpt x y=some z)(w:World):(Builtin.min2 x y).run P w= .ok z w/\jem z=true:=by
 unfold jpt at h;split at h
 ·split at h
  ·rename_i k x k' y hk;cases h;refine⟨?_,rfl⟩;subst hk;simp only[Builtin.min2,Sem.run_pure];congr 2;show(if y<x then y else x)=if x<=y then x else y
   split<;>split<;>omega
  ·cases h
 ·cases h
theorem scMax2_run{P:Program}{x y z}(h:jpu x y=some z)(w:World):(Builtin.max2 x y).run P w= .ok z w/\jem z=true:=by
 unfold jpu at h;split at h
 ·split at h
  ·rename_i k x k' y hk;cases h;refine⟨?_,rfl⟩;subst hk;simp only[Builtin.max2,Sem.run_pure];congr 2;show(if y>x then y else x)=if x<=y then y else x
   split<;>split<;>omega
  ·cases h
 ·cases h
theorem jjh{P:Program}{f:Value->Value->Option Value}{g:Value->Value->Sem Value}(a1:∀x y z w,f x y=some z->(g x y).run P w= .ok z w/\jem z=true):
  ∀(r:List Value) (x z:Value) (w:World),jem x=true->jl4 f x r=some z->(r.foldlM g x).run P w= .ok z w/\jem z=true
 | [],x,z,w,hp,h=>by simp only[jl4,qa]at h;subst h;exact⟨rfl,hp⟩
 | y::r,x,z,w,hp,h=>by
  simp only[jl4]at h;split at h
  ·rename_i u hu;obtain⟨h1,h2⟩:=a1 x y u w hu;obtain⟨h3,h4⟩:=jjh a1 r u z w h2 h;exact⟨by simp[List.foldlM_cons,h1,h3],h4⟩
  ·cases h
end
section
open Go.RowKit (Below)
def cellsOf:IV->List IV
 | .agg cs=>cs
 | x=>[x]
theorem jib{w M x v}(h:Rep w M x v)(hx:(cellsOf x).all IV.one=true):RepL w M (cellsOf x) v.cells.toList/\∀y∈v.cells.toList,y.oneCell'=true:=by
 cases h with
 | agg cs vs hl ho h=>
  refine⟨⟨by simpa [cellsOf,Value.cells]using hl,fun k x v hx hv=>h k x v hx (by simpa [Value.cells]using hv)⟩,fun y hy=> ?_⟩;obtain⟨k,hk⟩:=yP hy;have a6:vs[k]? =some y:=by simpa [Value.cells]using hk
  have a1:k<cs.length:=by rw[hl];exact(zm.1 a6).1
  exact(h k _ y (za a1) a6).oneCell (ho _ (yn a1))
 | sc v hv=>
  have h1:v.oneCell'=true:=by simpa [cellsOf,IV.one]using hx
  have hc:v.cells= #[v]:=by cases v<;>simp_all[Value.cells,Value.oneCell']
  rw[hc];exact⟨RepL.cons (.sc v hv) RepL.nil,by simpa using h1⟩
 | nil a c=>exact⟨RepL.cons (.nil a c) RepL.nil,by simp[Value.cells,Value.oneCell']⟩
 | sl es s b o c u h1 h2 h3 h4 h5=>exact⟨RepL.cons (.sl es s b o c u h1 h2 h3 h4 h5) RepL.nil,by simp[Value.cells,Value.oneCell']⟩
 | ip cs j b o u h1 h2=>exact⟨RepL.cons (.ip cs j b o u h1 h2) RepL.nil,by simp[Value.cells,Value.oneCell']⟩
 | clo f caps vs h1 h2=>exact⟨RepL.cons (.clo f caps vs h1 h2) RepL.nil,by simp[Value.cells,Value.oneCell']⟩
 | tup cs vs h1 h2=>simp[cellsOf,IV.one]at hx
 | mpn sc=>exact⟨RepL.cons (.mpn sc) RepL.nil,by simp[Value.cells,Value.oneCell']⟩
 | mp sc kvs b es c h1 h2 h3 h4=>exact⟨RepL.cons (.mp sc kvs b es c h1 h2 h3 h4) RepL.nil,by simp[Value.cells,Value.oneCell']⟩
 | ref b e s n cap cur h1 h2 h3 h4=>exact⟨RepL.cons (.ref b e s n cap cur h1 h2 h3 h4) RepL.nil,by simp[Value.cells,Value.oneCell']⟩
 | pr b s i j=>exact⟨RepL.cons (.pr b s i j) RepL.nil,by simp[Value.cells,Value.oneCell']⟩
 | emp a=>exact⟨RepL.cons (.emp a) RepL.nil,by simp[Value.cells,Value.oneCell']⟩
def jgp(G:Ctx)(t:TypeId)(c:List IV)(j:Nat):Option AV:=
 if aggK (G.ti t).kind then
  if j+(G.ti t).size<=c.length then some (.im (.agg ((c.drop j).take (G.ti t).size)))else none
 else match c[j]? with
  | some x=>some (.im x)
  | none=>none
theorem jg4{G:Ctx}(hG:G.Ok){t:TypeId}(h0:(G.ti t).size≠0){w:World}{M:Nat->Nat->Prop}{c:List IV}{j b o:Nat}{u:Nat->Value}{av:AV}
  (h:∀k x,c[k]? =some x->x.one=true/\w.cell? ⟨b,o+k,none⟩=some (u k)/\Rep w M x (u k)) (hc:jgp G t c j=some av):
  ∃v x,(loadVar t ⟨b,o+j,none⟩).run G.P w= .ok v w/\av= .im x/\Rep w M x v:=by
 unfold jgp at hc;unfold loadVar;simp only[Sem.run_bind,hG.isAgg h0,Result.andThen_ok];split at hc
 ·rename_i hk;split at hc
  ·rename_i hl;cases hc;have a6:∀k,k<(G.ti t).size->w.cell? ((⟨b,o+j,none⟩:Addr).add k)=some (u (j+k)):=fun k a1=>by
    have:j+k<c.length:=by omega
    rw[Addr.add_lit,jH];exact(h (j+k) _ (za this)).2.1
   have hr:=run_loadCells (P:=G.P) w ⟨b,o+j,none⟩ (G.ti t).size (fun k=>u (j+k)) a6;refine⟨.agg ((List.range (G.ti t).size).map fun k=>u (j+k)).toArray,_,?_,rfl,?_⟩
   ·simp only[hk,qD,Sem.run_bind,hG.size h0,Result.andThen_ok,hr,Sem.run_pure]
   ·refine .agg _ _ (by simp;omega) (fun x hx=> ?_) (fun k x v hx hv=> ?_)
    ·obtain⟨k,a1⟩:=yP hx;rw[qy]at a1;split at a1
     ·rw[qQ]at a1;exact(h _ _ a1).1
     ·cases a1
    ·rw[qy]at hx;split at hx
     ·rename_i a7;rw[qQ]at hx;have:v=u (j+k):=by
       simp[a7]at hv;exact hv.symm
      rw[this];exact(h _ _ hx).2.2
     ·cases hx
  ·cases hc
 ·rename_i hk;split at hc
  ·rename_i x hx;cases hc;refine⟨u j,x,?_,rfl,(h j x hx).2.2⟩;simp only[hk,yc,qt];simp[run_load,(h j x hx).2.1]
  ·cases hc
def jbn(cs:List IV)(off:Nat):List IV->List IV
 | []=>cs
 | x::r=>jbn (cs.set off x) (off+1) r
def fillA(place:Nat->Option (Nat×Nat))(cs:List IV):List (Nat×IV)->Option (List IV)
 | []=>some cs
 | (i,x)::r=>match place i with
  | none=>none
  | some (off,size)=>if(cellsOf x).length=size/\off+size<=cs.length/\(cellsOf x).all IV.one=true then fillA place (jbn cs off (cellsOf x)) r else none
theorem RepL.set{w M cs vs x v}(h:RepL w M cs vs)(hx:Rep w M x v)(k:Nat):RepL w M (cs.set k x) (vs.set k v):=
 ⟨by simp[h.1],fun i y u hy hu=>by
  rw[jt]at hy hu;split at hy
  ·rename_i hk;simp only[hk,qD]at hu;subst hk;split at hy<;>split at hu<;>simp_all
  ·rename_i hk;simp only[hk,qt]at hu;exact h.2 i y u hy hu⟩
theorem jka(off:Nat):∀(l:List Value) (k:Nat) (cs:Array Value),
  ((l.zipIdx k).foldl (fun cs p=>cs.setIfInBounds (off+p.2) p.1) cs).toList=l.zipIdx.foldl (fun cs p=>cs.set (off+k+p.2) p.1) cs.toList
 | [],k,cs=>rfl
 | v::l,k,cs=>by
  simp only[List.zipIdx_cons,List.foldl_cons];rw[jka off l (k+1)];have e:List.zipIdx l (0+1)=(List.zipIdx l).map fun p=>(p.1,p.2+1):=by
   rw[List.zipIdx_eq_map_add];simp[wy]
  rw[e,List.foldl_map];simp only[Array.toList_setIfInBounds,Nat.add_zero];congr 1;funext cs p;congr 1;omega
theorem setCells_rep{w M}(off:Nat):∀{xs:List IV} {us:List Value} {cs:List IV} {vs:List Value},RepL w M xs us->RepL w M cs vs->∀k,k=0->
  RepL w M (jbn cs off xs) (us.zipIdx.foldl (fun cs p=>cs.set (off+p.2) p.1) vs):=by
 intro xs
 induction xs generalizing off with
 | nil=>intro us cs vs hx hc _ _;obtain rfl:=hx.of_nil;exact hc
 | cons x xs ih=>
  intro us cs vs hx hc k hk;obtain⟨v,us,rfl,h1,h2⟩:=hx.uncons;simp only[jbn,List.zipIdx_cons,List.foldl_cons];have e:List.zipIdx us (0+1)=(List.zipIdx us).map fun p=>(p.1,p.2+1):=by
   rw[List.zipIdx_eq_map_add];simp[wy]
  rw[e,List.foldl_map];have:=ih (off+1) h2 (hc.set h1 off) 0 rfl;simp only[Nat.add_zero];have e2:(fun(cs:List Value) (p:Value×Nat)=>cs.set (off+(p.2+1)) p.1)=fun cs p=>cs.set (off+1+p.2) p.1:=by
   funext cs p;congr 1;omega
  rw[e2];exact this
theorem jdz(off:Nat):∀(xs cs:List IV),(jbn cs off xs).length=cs.length
 | [],cs=>rfl
 | x::xs,cs=>by simp[jbn,jdz (off+1) xs]
theorem jk2(off:Nat):∀(xs cs:List IV),(∀x∈cs,x.one=true)->(∀x∈xs,x.one=true)->∀x∈jbn cs off xs,x.one=true
 | [],cs,h,_=>h
 | y::xs,cs,h,hx=>by
  refine jk2 (off+1) xs _ (fun x a1=> ?_) (fun x a1=>hx x (by simp[a1]));rcases yj a1 with h' | h'
  ·exact h x h'
  ·subst h';exact hx _ (by simp)
def RepP(w:World)(M:Nat->Nat->Prop)(ps:List (Nat×IV))(qs:List (Nat×Value)):Prop:=
 ps.length=qs.length/\∀(k:Nat) p q,ps[k]? =some p->qs[k]? =some q->p.1=q.1/\Rep w M p.2 q.2
theorem jkl{w M}(place:Nat->Option (Nat×Nat)):∀(ps:List (Nat×IV)) (qs:List (Nat×Value)) (cs:List IV) (vs:Array Value) (out:List IV),
  RepP w M ps qs->RepL w M cs vs.toList->(∀x∈cs,x.one=true)->fillA place cs ps=some out->
  ∃ws,Instr.fill place vs qs=some ws/\RepL w M out ws.toList/\(∀x∈out,x.one=true)/\out.length=cs.length
 | [],qs,cs,vs,out,hp,hc,ho,h=>by
  simp only[fillA,qa]at h;subst h;obtain rfl:qs=[]:=zX hp.1.symm;exact⟨vs,rfl,hc,ho,rfl⟩
 | (i,x)::ps,qs,cs,vs,out,hp,hc,ho,h=>by
  cases qs with
  | nil=>exact absurd hp.1 (by simp)
  | cons q qs=>
   obtain⟨j,v⟩:=q;obtain⟨e,hx⟩:=hp.2 0 (i,x) (j,v) rfl rfl;simp only at e;subst e;have b1:RepP w M ps qs:=⟨by simpa using hp.1,fun k p q h1 h2=>hp.2 (k+1) p q (by simpa using h1) (by simpa using h2)⟩;simp only[fillA]at h;unfold Instr.fill;split at h
   ·cases h
   ·rename_i off size b0;split at h
    ·rename_i a7;obtain⟨h1,h2,h3⟩:=a7;obtain⟨hr,b3⟩:=jib hx h3;have b4:v.cells.size=size:=by have:=hr.1;simp at this;omega
     have b5:cs.length=vs.size:=by have:=hc.1;simpa using this
     simp only[b0];have b2:(decide (v.cells.size≠size) || decide (off+v.cells.size>vs.size))=false:=by
      simp;omega
     simp only[b2,yc,qt];have a8:=setCells_rep (w:=w) (M:=M) off hr hc 0 rfl;have a6:(v.cells.zipIdx.foldl (fun cs (c,j)=>cs.setIfInBounds (off+j) c) vs).toList=v.cells.toList.zipIdx.foldl (fun cs p=>cs.set (off+p.2) p.1) vs.toList:=by
      rw[<-Array.foldl_toList];have:=jka off v.cells.toList 0 vs
      simpa using this
     have a1:∀y∈jbn cs off (cellsOf x),y.one=true:=jk2 off _ _ ho (by simpa using h3);obtain⟨ws,h4,h5,h6,h7⟩:=jkl place ps qs _ (v.cells.zipIdx.foldl (fun cs (c,j)=>cs.setIfInBounds (off+j) c) vs) out b1 (by rw[a6];exact a8) a1 h;exact⟨ws,h4,h5,h6,by rw[h7,jdz]⟩
    ·cases h
end
section
open Go.RowKit (Below)
def jh8(G:Ctx):List (Nat×TypeId)->List IV->List IV->Option Bool
 | [],[],[]=>some true
 | (_,t)::ks,x::xs,y::ys=>
  match jh8 G ks xs ys with
  | none=>none
  | some r=>
   if(G.ti t).size=0 then none else
   match(G.ti t).kind,x,y with
   | .it _,.sc (.int k a),.sc (.int k' b)=>if k=k' then some (decide (a=b)&&r)else none
   | .bl,.sc (.bool a),.sc (.bool b)=>some ((a==b)&&r)
   | .str,.sc (.string a),.sc (.string b)=>some ((a==b)&&r)
   | _,_,_=>none
 | _,_,_=>none
theorem RepL.at_sc{w M xs vs}(h:RepL w M xs vs){k:Nat}{u:Value}(hx:xs[k]? =some (.sc u)):vs[k]? =some u:=by
 have hl:k<vs.length:=by rw[<-h.1];exact(zr.1 hx).1
 have:=h.2 k _ _ hx (za hl);rw[za hl,this.sc_inv]
theorem jeh{P:Program}{t:TypeId}{d:TypeDesc}(hu:P.underlying t=some d)(hd:(d matches .struct _ | .array _ _)=false){us:Array Value}{k:Nat}{u:Value}(hk:us.toList[k]? =some u)(w:World):
  (part t us k).run P w= .ok u w:=by
 have a1:us[k]? =some u:=by simpa using hk
 have ha:(Go.isAgg t).run P w= .ok false w:=by
  unfold Go.isAgg;simp only[Sem.run_bind,run_underlying hu,Result.andThen_ok];cases d<;>first | (simp at hd;done) | rfl
 simp[part,ha,a1]
theorem jh6{G:Ctx}(hG:G.Ok){w:World}{M M':Nat->Nat->Prop}{xs ys:List IV}{us vs:Array Value}(hx:RepL w M xs us.toList)(hy:RepL w M' ys vs.toList)(d:Nat):
  ∀(fs:List Field) (k:Nat) (r:Bool),fs.map (·.offset)=List.range' k fs.length->(∀f∈fs,f.name≠ "_")->jh8 G (fs.map fun f=>(f.offset,f.type)) (xs.drop k) (ys.drop k)=some r->
   (Op.eqFields (d+1) us vs fs).run G.P w= .ok r w
 | [],k,r,_,_,h=>by
  have:r=true:=by
   unfold jh8 at h;split at h<;>simp_all
  subst this;rfl
 | f::fs,k,r,ho,hn,h=>by
  simp only[zt,List.length_cons,vn,yu]at ho;obtain⟨hk,ho⟩:=ho;have b4:f.name≠ "_" :=hn f (by simp);simp only[zt]at h;unfold jh8 at h;split at h
  ·rename_i h1 _ _;simp at h1
  ·rename_i t ks x b1 y b0 e1 e2 e3;simp only[yu,q7]at e1;obtain⟨⟨_,rfl⟩,rfl⟩:=e1;have a8:xs[k]? =some x:=by have:=zT (fun l=>l[0]?) e2;simpa using this
   have a7:ys[k]? =some y:=by have:=zT (fun l=>l[0]?) e3;simpa using this
   have b3:b1=xs.drop (k+1):=by have:=zT List.tail e2;simpa using this.symm
   have b2:b0=ys.drop (k+1):=by have:=zT List.tail e3;simpa using this.symm
   subst b3;subst b2;split at h
   ·cases h
   ·rename_i r' hr;split at h
    ·cases h
    ·rename_i hs;have ih:=jh6 hG hx hy d fs (k+1) r' ho (fun f hf=>hn f (by simp[hf])) hr;simp only[Op.eqFields,ne_eq,b4,vd,qD,Sem.run_bind,hk];split at h
     ·rename_i kk k1 a k2 b a6;split at h
      ·rename_i b5;cases h;subst b5;have hu:=hG.it hs a6;rw[jeh hu rfl (hx.at_sc a8),Result.andThen_ok,jeh hu rfl (hy.at_sc a7),Result.andThen_ok,run_equalIn_int w d _ _ _ a b hu,Result.andThen_ok];by_cases a1:a=b
       ·simp[a1,ih]
       ·simp[a1]
      ·cases h
     ·rename_i a b a6;cases h;have hu:=hG.bl hs a6;rw[jeh hu rfl (hx.at_sc a8),Result.andThen_ok,jeh hu rfl (hy.at_sc a7),Result.andThen_ok,run_equalIn_bool' w d _ a b hu,Result.andThen_ok];by_cases a1:a=b
      ·simp[a1,ih]
      ·simp[a1]
     ·rename_i a b a6;cases h;have hu:=hG.str hs a6;rw[jeh hu rfl (hx.at_sc a8),Result.andThen_ok,jeh hu rfl (hy.at_sc a7),Result.andThen_ok,run_equalIn_string w d _ a b hu,Result.andThen_ok,<-beq_toListBytes];cases a1:a==b
      ·simp
      ·simp[ih]
     ·cases h
  ·cases h
def jnl(G:Ctx)(op:BinOp)(t:TypeId)(xs ys:List IV):Option Value:=
 if(G.ti t).size≠0/\(G.ti t).eq=true then
  match(G.ti t).kind with
  | .st fs=>match jh8 G fs xs ys with
   | some r=>match op with
    | .eql=>some (.bool r)
    | .neq=>some (.bool !r)
    | _=>none
   | none=>none
  | _=>none
 else none
theorem aggBin_run{G:Ctx}(hG:G.Ok){op t xs ys c}(h:jnl G op t xs ys=some c){w:World}{M M':Nat->Nat->Prop}{us vs:Array Value}(hx:RepL w M xs us.toList)(hy:RepL w M' ys vs.toList)(x y:Operand):
  Sem.run G.P (do eqGuard op t x y (.agg us) (.agg vs);binOp op t (.agg us) (.agg vs)) w= .ok c w/\jem c=true/\c.oneCell'=true:=by
 unfold jnl at h;split at h
 ·rename_i hc;split at h
  ·rename_i fs hk;split at h
   ·rename_i r hr;obtain⟨gs,hu,b4⟩:=hG.st hc.1 hk;have a1:=hG t hc.1;unfold TI.okB at a1;split at a1
    ·simp only[hc.2,j5,ym,zn,hu]at a1;obtain⟨_,⟨⟨⟨hb,ho⟩,b5⟩,b1⟩,hg⟩:=a1;have b0:G.P.fieldsOf t=gs:=by simp[Program.fieldsOf,hu]
     have a6:G.P.stoodInHeld t=false:=by simpa using b1
     have a8:G.P.eqGuardType G.P.depth t=false:=by simpa using hg
     have b3:∀f∈gs.toList,f.name≠ "_" :=fun f hf=>by
      have:=List.all_eq_true.1 hb f hf;simp only[basicB,zn,qh,ne_eq]at this;exact this.1
     have b2:gs.toList.map (·.offset)=List.range' 0 gs.toList.length:=by
      have:=(yC.1 ho);rw[this,j6];simp
     have a7:=jh6 (G:=G) hG hx hy 9998 gs.toList 0 r b2 b3 (by rw[b4];simpa using hr);have heq:(Op.equalIn 10000 t (.agg us) (.agg vs)).run G.P w= .ok r w:=by
      rw[show(10000:Nat)=9999+1 from rfl,run_equalIn_struct w 9999 t us vs (by rw[b0];exact hu) a6,b0];exact a7
     cases op<;>simp only at h<;>first | (cases h;done) | skip
     ·cases h;refine⟨?_,rfl,rfl⟩;rw[Sem.run_bind,run_eqGuard_agg w _ t x y us vs a8,Result.andThen_ok,run_eql_struct,heq];rfl
     ·cases h;refine⟨?_,rfl,rfl⟩;rw[Sem.run_bind,run_eqGuard_agg w _ t x y us vs a8,Result.andThen_ok,run_neq_struct,heq];rfl
    ·cases a1
   ·cases h
  ·cases h
 ·cases h
