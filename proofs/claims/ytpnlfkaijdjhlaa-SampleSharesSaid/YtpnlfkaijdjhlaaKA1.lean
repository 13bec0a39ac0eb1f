/-
  Values as trees, and what it means that a value in memory reads as a tree. Program-independent. The generic layer under all claims of this repo: 1 of several.
-/
import Derived.WalkKit
import Derived.Orders
namespace Go.Abs
set_option linter.all false
open Go.RowKit (Below)

/-- A value that nobody writes to any more, as a tree. -/
inductive IV where
  | sc (v : Value)
  | sl (es : List (List IV))
  | ip (cs : List IV) (j : Nat)
  | clo (f : FuncId) (caps : List IV)
  | agg (cs : List IV)
  | tup (vs : List IV)
  deriving Inhabited

/-- A value without an address. -/
def plainV : Value → Bool
  | .bool _ | .int _ _ | .string _ | .float _ _ | .nilFunc => true
  | .tuple vs => vs.size == 0
  | _ => false

/-- It takes one cell of memory. -/
def IV.one : IV → Bool
  | .sc v => v.oneCell'
  | .sl _ | .ip _ _ | .clo _ _ => true
  | .agg _ | .tup _ => false

abbrev IV.int (n : Int) : IV := .sc (.int .i64 n)
abbrev IV.bool (b : Bool) : IV := .sc (.bool b)

/-- The value v reads as the tree in the world w; no cell that is read is one of M. -/
inductive Rep (w : World) (M : Nat → Nat → Prop) : IV → Value → Prop
  | sc (v : Value) : plainV v = true → Rep w M (.sc v) v
  | nil (a : Option Addr) (c : Nat) : Rep w M (.sl []) (.slice a 0 c)
  | sl (es : List (List IV)) (s b o c : Nat) (u : Nat → Nat → Value) : es ≠ [] → (∀ e ∈ es, e.length = s) → es.length ≤ c →
      (∀ i e j x, es[i]? = some e → e[j]? = some x → x.one = true ∧ w.cell? ⟨b, o + i * s + j, none⟩ = some (u i j) ∧ ¬ M b (o + i * s + j)) →
      (∀ i e j x, es[i]? = some e → e[j]? = some x → Rep w M x (u i j)) → Rep w M (.sl es) (.slice (some ⟨b, o, none⟩) es.length c)
  | ip (cs : List IV) (j b o : Nat) (u : Nat → Value) :
      (∀ k x, cs[k]? = some x → x.one = true ∧ w.cell? ⟨b, o + k, none⟩ = some (u k) ∧ ¬ M b (o + k)) →
      (∀ k x, cs[k]? = some x → Rep w M x (u k)) → Rep w M (.ip cs j) (.pointer (some ⟨b, o + j, none⟩))
  | clo (f : FuncId) (caps : List IV) (vs : Array Value) : caps.length = vs.size → (∀ (k : Nat) x v, caps[k]? = some x → vs[k]? = some v → Rep w M x v) →
      Rep w M (.clo f caps) (.func (.func f) #[] vs)
  | agg (cs : List IV) (vs : Array Value) : cs.length = vs.size → (∀ x ∈ cs, x.one = true) → (∀ (k : Nat) x v, cs[k]? = some x → vs[k]? = some v → Rep w M x v) → Rep w M (.agg cs) (.agg vs)
  | tup (cs : List IV) (vs : Array Value) : cs.length = vs.size → (∀ (k : Nat) x v, cs[k]? = some x → vs[k]? = some v → Rep w M x v) → Rep w M (.tup cs) (.tuple vs)

section
variable {w w' : World} {M M' : Nat → Nat → Prop} {x : IV} {v : Value}

/-- The cells of w that are not of M are the same in w', and not of M'. -/
def Kept (w : World) (M : Nat → Nat → Prop) (w' : World) (M' : Nat → Nat → Prop) : Prop :=
  ∀ b o u, w.cell? ⟨b, o, none⟩ = some u → ¬ M b o → w'.cell? ⟨b, o, none⟩ = some u ∧ ¬ M' b o

theorem Kept.refl (w : World) (M : Nat → Nat → Prop) : Kept w M w M := fun _ _ _ h hm => ⟨h, hm⟩
theorem Kept.trans {w1 w2 w3 : World} {M1 M2 M3 : Nat → Nat → Prop} (h : Kept w1 M1 w2 M2) (h' : Kept w2 M2 w3 M3) : Kept w1 M1 w3 M3 :=
  fun b o u hc hm => h' b o u (h b o u hc hm).1 (h b o u hc hm).2
theorem Kept.less (w : World) (h : ∀ b o, M' b o → M b o) : Kept w M w M' := fun b o _ hc hm => ⟨hc, fun h' => hm (h b o h')⟩

theorem Rep.kept (h : Rep w M x v) (hk : Kept w M w' M') : Rep w' M' x v := by
  induction h with
  | sc v hv => exact .sc v hv
  | nil a c => exact .nil a c
  | sl es s b o c u hne hs hc h1 h2 ih =>
    exact .sl es s b o c u hne hs hc (fun i e j x hi hj => ⟨(h1 i e j x hi hj).1, hk _ _ _ (h1 i e j x hi hj).2.1 (h1 i e j x hi hj).2.2⟩) ih
  | ip cs j b o u h1 h2 ih =>
    exact .ip cs j b o u (fun k x hx => ⟨(h1 k x hx).1, hk _ _ _ (h1 k x hx).2.1 (h1 k x hx).2.2⟩) ih
  | clo f caps vs hl h1 ih => exact .clo f caps vs hl ih
  | agg cs vs hl ho h1 ih => exact .agg cs vs hl ho ih
  | tup cs vs hl h1 ih => exact .tup cs vs hl ih

theorem Rep.oneCell (h : Rep w M x v) (ho : x.one = true) : v.oneCell' = true := by
  cases h <;> simp_all [IV.one, Value.oneCell']

theorem Rep.less (h : Rep w M x v) (hM : ∀ b o, M' b o → M b o) : Rep w M' x v := h.kept (Kept.less w hM)

/-- No address in it. -/
inductive IV.Flat : IV → Prop
  | sc (v : Value) : IV.Flat (.sc v)
  | agg (cs : List IV) : (∀ x ∈ cs, IV.Flat x) → IV.Flat (.agg cs)
  | tup (cs : List IV) : (∀ x ∈ cs, IV.Flat x) → IV.Flat (.tup cs)

def flat1 : IV → Bool
  | .sc _ => true
  | _ => false
def flatB : IV → Bool
  | .sc _ => true
  | .agg cs => cs.all flat1
  | .tup cs => cs.all fun x => match x with | .sc _ => true | .agg cs => cs.all flat1 | _ => false
  | _ => false
theorem flat1_flat {x : IV} (h : flat1 x = true) : x.Flat := by cases x <;> simp [flat1] at h; exact .sc _
theorem flatB_flat {x : IV} (h : flatB x = true) : x.Flat := by
  cases x with
  | sc v => exact .sc v
  | agg cs => simp only [flatB, List.all_eq_true] at h; exact .agg _ fun y hy => flat1_flat (h y hy)
  | tup cs =>
    simp only [flatB, List.all_eq_true] at h
    refine .tup _ fun y hy => ?_
    have := h y hy
    cases y with
    | sc v => exact .sc v
    | agg cs => simp only [List.all_eq_true] at this; exact .agg _ fun z hz => flat1_flat (this z hz)
    | _ => simp at this
  | _ => simp [flatB] at h

theorem Rep.flat (h : Rep w M x v) (hf : x.Flat) : Rep w' M' x v := by
  induction h with
  | sc v hv => exact .sc v hv
  | agg cs vs hl ho h1 ih =>
    cases hf with
    | agg _ hf => exact .agg cs vs hl ho fun k x v hx hv => ih k x v hx hv (hf x (List.mem_of_getElem? hx))
  | tup cs vs hl h1 ih =>
    cases hf with
    | tup _ hf => exact .tup cs vs hl fun k x v hx hv => ih k x v hx hv (hf x (List.mem_of_getElem? hx))
  | _ => cases hf
end

/-- A list of trees, a list of values. -/
def RepL (w : World) (M : Nat → Nat → Prop) (xs : List IV) (vs : List Value) : Prop :=
  xs.length = vs.length ∧ ∀ (k : Nat) x v, xs[k]? = some x → vs[k]? = some v → Rep w M x v

theorem RepL.kept {w w' : World} {M M' : Nat → Nat → Prop} {xs vs} (h : RepL w M xs vs) (hk : Kept w M w' M') : RepL w' M' xs vs :=
  ⟨h.1, fun k x v hx hv => (h.2 k x v hx hv).kept hk⟩
theorem RepL.nil {w M} : RepL w M [] [] := ⟨rfl, fun k x v hx => by simp at hx⟩
theorem RepL.cons {w M x v xs vs} (h : Rep w M x v) (hs : RepL w M xs vs) : RepL w M (x :: xs) (v :: vs) :=
  ⟨by simp [hs.1], fun k y u hy hu => by
    cases k with
    | zero => simp at hy hu; subst hy; subst hu; exact h
    | succ k => exact hs.2 k y u (by simpa using hy) (by simpa using hu)⟩
theorem RepL.uncons {w M x xs vs} (h : RepL w M (x :: xs) vs) : ∃ v vs', vs = v :: vs' ∧ Rep w M x v ∧ RepL w M xs vs' := by
  obtain ⟨hl, h⟩ := h
  cases vs with
  | nil => simp at hl
  | cons v vs' => exact ⟨v, vs', rfl, h 0 x v rfl rfl, by simpa using hl, fun k y u hy hu => h (k + 1) y u (by simpa using hy) (by simpa using hu)⟩
theorem RepL.of_nil {w M vs} (h : RepL w M [] vs) : vs = [] := List.eq_nil_of_length_eq_zero h.1.symm

/-- WHAT A FUNCTION DOES: called with values that read as the trees, it returns a value that reads as a tree with φ; below, the world is as it was. -/
def Ctr (P : Program) (f : FuncId) (args : List IV) (φ : IV → Prop) : Prop :=
  ∀ (w : World) (M : Nat → Nat → Prop) (vs : List Value), (∀ b o, M b o → b < w.heap.size) → RepL w M args vs →
    Calls P f vs.toArray w fun e w' => ∃ r v, φ r ∧ e = .returned v ∧ Rep w' M r v ∧ Below w.heap.size w w'

theorem Ctr.mono {P f args} {φ ψ : IV → Prop} (h : Ctr P f args φ) (hi : ∀ r, φ r → ψ r) : Ctr P f args ψ :=
  fun w M vs hM hr => (h w M vs hM hr).mono fun _ _ ⟨r, v, h1, h2⟩ => ⟨r, v, hi r h1, h2⟩

theorem Below.kept {w w' : World} {M : Nat → Nat → Prop} (h : Below w.heap.size w w') : Kept w M w' M := fun b o u hc hm => by
  refine ⟨?_, hm⟩
  have hb : b < w.heap.size := World.block_lt_of_cell? (a := ⟨b, o, none⟩) w hc
  rw [← hc]; exact h.cell hb
end Go.Abs

namespace Go.Abs
set_option linter.all false
open Go.RowKit (Below)

/-! ### What is known of a type -/
inductive ZC where
  | int (k : IntKind) | bool | str | sl | no
  deriving DecidableEq, Inhabited
def ZC.iv : ZC → IV
  | .int k => .sc (.int k 0)
  | .bool => .sc (.bool false)
  | .str => .sc (.string ByteArray.empty)
  | _ => .sl []
def ofZV : Value → ZC
  | .int k 0 => .int k
  | .bool false => .bool
  | .string s => if s.size = 0 then .str else .no
  | .slice none 0 0 => .sl
  | _ => .no
inductive TK where
  | sl (e : TypeId) | arr (n : Nat) (e : TypeId) | st (fs : List (Nat × TypeId)) | bl | it (k : IntKind) | str | no
  deriving DecidableEq, Inhabited
structure TI where
  size : Nat
  bytes : Nat
  zero : List ZC
  kind : TK
  eq : Bool := false
  deriving Inhabited

def basicB (P : Program) (f : Field) : Bool :=
  f.name != "_" && match P.underlying f.type with
    | some (.int _) | some .bool | some .string => true
    | _ => false
def TK.okB (d : Option TypeDesc) (k : TK) : Bool :=
  match k, d with
  | .sl e, some (.slice e') => e == e'
  | .arr n e, some (.array n' e') => n == n' && e == e'
  | .st fs, some (.struct gs) => gs.toList.map (fun f => (f.offset, f.type)) == fs
  | .bl, some .bool => true
  | .it k, some (.int k') => k == k'
  | .str, some .string => true
  | .no, some (.struct _) | .no, some (.array _ _) => false
  | .no, some _ => true
  | _, _ => false
def TI.okB (P : Program) (t : TypeId) (x : TI) : Bool :=
  match P.info? t with
  | some i => i.size == x.size && i.bytes == x.bytes && x.kind.okB (P.underlying t) &&
      (match i.zero with
       | some z => z.cells.toList.map ofZV == x.zero && z.cells.size == x.size
       | none => false) &&
      (!x.eq || (match P.underlying t with
        | some (.struct gs) => gs.toList.all (basicB P) && gs.toList.map (·.offset) == List.range gs.size && gs.size == x.size && !P.stoodInHeld t && !P.eqGuardType P.depth t
        | _ => false))
  | none => false

structure Ctx where
  P : Program
  ti : TypeId → TI
  fns : Nat
def Ctx.Ok (G : Ctx) : Prop := ∀ t, (G.ti t).size ≠ 0 → (G.ti t).okB G.P t = true

/-! ### Slots and rows -/
inductive AV where
  | im (x : IV)
  | und
  | sx (es : List (List IV))
  | vec (d e s : Nat) (es : List (List IV))
  | osl (d s i n : Nat)
  | loc (d s i j : Nat)
  deriving Inhabited

def look {α : Type} : List (Nat × α) → Nat → Option α
  | [], _ => none
  | (j, v) :: r, k => if k = j then some v else look r k
def del {α : Type} (l : List (Nat × α)) (d : Nat) : List (Nat × α) := l.filter fun p => p.1 != d

structure St where
  fr : List (Nat × AV)
  rows : List (Nat × Nat × List (List IV))
  toks : List (Nat × Nat × Nat)
  deriving Inhabited

def St.get (st : St) (t : Nat) : AV := (look st.fr t).getD .und
def St.put (st : St) (dst : Option Nat) (v : AV) : St :=
  match dst with
  | some d => { st with fr := (d, v) :: st.fr }
  | none => st

/-- Which cells may still be written. -/
def Mo (M0 : Nat → Nat → Prop) (β : Nat → Option Nat) (st : St) (b o : Nat) : Prop :=
  M0 b o ∨ (∃ d s es, look st.rows d = some (s, es) ∧ β d = some b) ∨ (∃ d s n, look st.toks d = some (s, n) ∧ β d = some b ∧ n * s ≤ o)

def RepA (w : World) (M : Nat → Nat → Prop) (β : Nat → Option Nat) (toks : List (Nat × Nat × Nat)) : AV → Value → Prop
  | .im x, v => Rep w M x v
  | .und, _ => True
  | .sx es, v => Rep w M (.sl es) v ∧ ∃ a, v = .slice a es.length es.length
  | .vec d e s es, v => Rep w M (.sl es) v ∧ (∀ x ∈ es, x.length = s) ∧ (look toks d = some (s, es.length) →
      (∃ a, v = .slice a es.length es.length) ∨
      ∃ b cap cur, β d = some b ∧ v = .slice (some ⟨b, 0, none⟩) es.length cap ∧ w.heap[b]? = some (.cells cur e (0, 0)) ∧ es.length ≤ cap ∧ cap ≤ maxLen ∧ cur.size = cap * s)
  | .osl d s i n, v => ∃ ad c, n ≤ c ∧ v = .slice ad n c ∧ (n ≠ 0 → ∃ b, β d = some b ∧ ad = some ⟨b, i * s, none⟩)
  | .loc d s i j, v => ∃ b, β d = some b ∧ v = .pointer (some ⟨b, i * s + j, none⟩)

/-- Block b holds these elements, s cells each; it may be written. -/
def RowRep (w : World) (M : Nat → Nat → Prop) (b s : Nat) (es : List (List IV)) : Prop :=
  ∃ cur T, w.heap[b]? = some (.cells cur T (0, 0)) ∧ (∀ e ∈ es, e.length = s) ∧
    ∀ (i : Nat) e (j : Nat) x, es[i]? = some e → e[j]? = some x → x.one = true ∧ ∃ u, cur[i * s + j]? = some u ∧ Rep w M x u

structure Sim (N : Nat) (w0 : World) (M0 : Nat → Nat → Prop) (β : Nat → Option Nat) (st : St) (a : Act) (w : World) : Prop where
  size : a.tmps.size = N
  defers : a.defers = []
  below : Below w0.heap.size w0 w
  m0 : ∀ b o, M0 b o → b < w0.heap.size
  fr : ∀ t, RepA w (Mo M0 β st) β st.toks (st.get t) (a.tmps.getD t undef)
  rows : ∀ d s es, look st.rows d = some (s, es) → ∃ b, β d = some b ∧ w0.heap.size ≤ b ∧ RowRep w (Mo M0 β st) b s es
  toks : ∀ d s n, look st.toks d = some (s, n) → ∀ b, β d = some b → w0.heap.size ≤ b ∧ b < w.heap.size
  inj : ∀ d d' b, ((look st.rows d).isSome ∨ (look st.toks d).isSome) → ((look st.rows d').isSome ∨ (look st.toks d').isSome) → β d = some b → β d' = some b → d = d'
  excl : ∀ d, (look st.rows d).isSome → look st.toks d = none

/-! ### look, del -/
section
variable {α : Type}
theorem look_cons_same (l : List (Nat × α)) (d : Nat) (v : α) : look ((d, v) :: l) d = some v := by simp [look]
theorem look_cons_ne (l : List (Nat × α)) {d k : Nat} (v : α) (h : k ≠ d) : look ((d, v) :: l) k = look l k := by simp [look, h]
theorem look_del_same (l : List (Nat × α)) (d : Nat) : look (del l d) d = none := by
  induction l with
  | nil => rfl
  | cons p l ih =>
    obtain ⟨j, v⟩ := p
    by_cases h : j = d
    · subst h; simpa [del, List.filter_cons] using ih
    · simp [del, h, look, Ne.symm h] at ih ⊢; exact ih
theorem look_del_ne (l : List (Nat × α)) {d k : Nat} (h : k ≠ d) : look (del l d) k = look l k := by
  induction l with
  | nil => rfl
  | cons p l ih =>
    obtain ⟨j, v⟩ := p
    by_cases hj : j = d
    · subst hj
      have : look ((j, v) :: l) k = look l k := look_cons_ne l v h
      rw [this]; simpa [del, List.filter_cons] using ih
    · have e : del ((j, v) :: l) d = (j, v) :: del l d := by simp [del, hj]
      rw [e]
      by_cases hk : k = j
      · subst hk; simp [look]
      · simp [look, hk, ih]
theorem look_map (l : List (Nat × α)) (f : α → α) (k : Nat) : look (l.map fun p => (p.1, f p.2)) k = (look l k).map f := by
  induction l with
  | nil => rfl
  | cons p l ih =>
    obtain ⟨j, v⟩ := p
    by_cases hk : k = j
    · simp [look, hk]
    · simp [look, hk, ih]
end

/-! ### A step that leaves what is below the heap's end as it was -/
section
variable {N : Nat} {w0 w w' : World} {M M' M0 : Nat → Nat → Prop} {β : Nat → Option Nat} {st : St} {a : Act} {toks : List (Nat × Nat × Nat)} {av : AV} {v : Value}

theorem RepA.below (h : RepA w M β toks av v) (hb : Below w.heap.size w w') : RepA w' M β toks av v := by
  cases av with
  | im x => exact Rep.kept (w := w) h (Below.kept hb)
  | und => trivial
  | sx es => exact ⟨Rep.kept h.1 (Below.kept hb), h.2⟩
  | vec d e s es =>
    refine ⟨Rep.kept h.1 (Below.kept hb), h.2.1, fun ht => ?_⟩
    rcases h.2.2 ht with hc | ⟨b, cap, cur, h1, h2, h3, h4⟩
    · exact .inl hc
    · refine .inr ⟨b, cap, cur, h1, h2, ?_, h4⟩
      rw [hb.block b (Array.getElem?_eq_some_iff.1 h3).1]; exact h3
  | osl d s i n => exact h
  | loc d s i j => exact h

theorem RowRep.below {b s : Nat} {es : List (List IV)} (h : RowRep w M b s es) (hb : Below w.heap.size w w') : RowRep w' M b s es := by
  obtain ⟨cur, T, h1, h2, h3⟩ := h
  refine ⟨cur, T, ?_, h2, fun i e j x hi hj => ?_⟩
  · rw [hb.block b (Array.getElem?_eq_some_iff.1 h1).1]; exact h1
  · obtain ⟨ho, u, hu, hr⟩ := h3 i e j x hi hj
    exact ⟨ho, u, hu, hr.kept (Below.kept hb)⟩

theorem Sim.ext (h : Sim N w0 M0 β st a w) (hb : Below w.heap.size w w') : Sim N w0 M0 β st a w' where
  size := h.size
  defers := h.defers
  below := h.below.trans (hb.mono h.below.size)
  m0 := h.m0
  fr t := (h.fr t).below hb
  rows d s es hd := let ⟨b, h1, h2, h3⟩ := h.rows d s es hd; ⟨b, h1, h2, h3.below hb⟩
  toks d s n hd b hbd := let ⟨h1, h2⟩ := h.toks d s n hd b hbd; ⟨h1, Nat.lt_of_lt_of_le h2 hb.size⟩
  inj := h.inj
  excl := h.excl

theorem Sim.put {dst : Option Nat} (h : Sim N w0 M0 β st a w) (hd : ∀ d, dst = some d → d < N) (hv : RepA w (Mo M0 β st) β st.toks av v) : Sim N w0 M0 β (st.put dst av) (a.put dst v) w := by
  cases dst with
  | none => exact h
  | some d =>
    have hM : Mo M0 β (st.put (some d) av) = Mo M0 β st := rfl
    refine ⟨by simp [Act.put, h.size], h.defers, h.below, h.m0, fun t => ?_, h.rows, h.toks, h.inj, h.excl⟩
    rw [hM]
    show RepA w _ β st.toks _ _
    by_cases ht : t = d
    · subst ht
      have e1 : (st.put (some t) av).get t = av := by simp [St.put, St.get, look]
      have e2 : (a.put (some t) v).tmps.getD t undef = v := by
        have : t < a.tmps.size := by rw [h.size]; exact hd t rfl
        simp [Act.put, this]
      rw [e1, e2]; exact hv
    · have e1 : (st.put (some d) av).get t = st.get t := by simp [St.put, St.get, look, ht]
      have e2 : (a.put (some d) v).tmps.getD t undef = a.tmps.getD t undef := by
        simp [Act.put, Array.getElem?_setIfInBounds_ne (Ne.symm ht)]
      rw [e1, e2]; exact h.fr t

theorem Sim.drew (h : Sim N w0 M0 β st a w) : Sim N w0 M0 β st a { w with drawn := w.drawn + 1 } := h.ext ⟨rfl, rfl, rfl, Nat.le_refl _, fun _ _ => rfl⟩
end

/-! ### Operands -/
def ofCell : Value → Option IV
  | .slice none 0 0 => some (.sl [])
  | v => if plainV v && v.oneCell' then some (.sc v) else none
def ofCells : List Value → Option (List IV)
  | [] => some []
  | v :: r => match ofCell v, ofCells r with
    | some x, some xs => some (x :: xs)
    | _, _ => none
def ofV : Value → AV
  | .slice none 0 0 => .sx []
  | .agg cs => match ofCells cs.toList with
    | some xs => .im (.agg xs)
    | none => .und
  | v => if plainV v then .im (.sc v) else .und
def evO (st : St) : Operand → AV
  | .tmp t => st.get t
  | .const v => ofV v
  | .global _ => .und
  | .func f => .im (.clo f [])

theorem ofCell_rep {w M v x} (h : ofCell v = some x) : Rep w M x v ∧ x.one = true := by
  unfold ofCell at h
  split at h
  · cases h; exact ⟨.nil _ _, rfl⟩
  · split at h
    · rename_i hp
      cases h
      simp only [Bool.and_eq_true] at hp
      exact ⟨.sc _ hp.1, hp.2⟩
    · cases h
theorem ofCells_rep {w M} : ∀ {vs : List Value} {xs : List IV}, ofCells vs = some xs → RepL w M xs vs ∧ ∀ x ∈ xs, x.one = true
  | [], xs, h => by cases h; exact ⟨RepL.nil, by simp⟩
  | v :: r, xs, h => by
    unfold ofCells at h
    split at h
    · rename_i x xs' h1 h2
      cases h
      obtain ⟨h3, h4⟩ := ofCells_rep (w := w) (M := M) h2
      obtain ⟨h5, h6⟩ := ofCell_rep (w := w) (M := M) h1
      exact ⟨RepL.cons h5 h3, by simpa [h6] using h4⟩
    · cases h
theorem RepL.agg {w M} {xs : List IV} {vs : Array Value} (h : RepL w M xs vs.toList) (ho : ∀ x ∈ xs, x.one = true) : Rep w M (.agg xs) (.agg vs) :=
  .agg xs vs (by simpa using h.1) ho fun k x v hx hv => h.2 k x v hx (by simpa using hv)
theorem RepL.tup {w M} {xs : List IV} {vs : Array Value} (h : RepL w M xs vs.toList) : Rep w M (.tup xs) (.tuple vs) :=
  .tup xs vs (by simpa using h.1) fun k x v hx hv => h.2 k x v hx (by simpa using hv)
theorem Rep.agg_inv {w M} {xs : List IV} {v : Value} (h : Rep w M (.agg xs) v) : ∃ vs : Array Value, v = .agg vs ∧ RepL w M xs vs.toList ∧ ∀ x ∈ xs, x.one = true := by
  cases h with
  | agg _ vs hl ho h => exact ⟨vs, rfl, ⟨by simpa using hl, fun k x v hx hv => h k x v hx (by simpa using hv)⟩, ho⟩
theorem Rep.tup_inv {w M} {xs : List IV} {v : Value} (h : Rep w M (.tup xs) v) : ∃ vs : Array Value, v = .tuple vs ∧ RepL w M xs vs.toList := by
  cases h with
  | tup _ vs hl h => exact ⟨vs, rfl, ⟨by simpa using hl, fun k x v hx hv => h k x v hx (by simpa using hv)⟩⟩
theorem Rep.sc_inv {w M v u} (h : Rep w M (.sc v) u) : u = v := by cases h; rfl
theorem Rep.clo_inv {w M f caps v} (h : Rep w M (.clo f caps) v) : ∃ vs : Array Value, v = .func (.func f) #[] vs ∧ RepL w M caps vs.toList := by
  cases h with
  | clo _ _ vs hl h => exact ⟨vs, rfl, ⟨by simpa using hl, fun k x v hx hv => h k x v hx (by simpa using hv)⟩⟩

theorem ofV_rep {w M β toks} (v : Value) : RepA w M β toks (ofV v) v := by
  unfold ofV
  split
  · exact ⟨.nil _ _, none, rfl⟩
  · split
    · rename_i h
      obtain ⟨h1, h2⟩ := ofCells_rep (w := w) (M := M) h
      exact RepL.agg h1 h2
    · trivial
  · split
    · exact Rep.sc _ ‹_›
    · trivial
theorem evO_rep {N w0 M0 β st a w} (h : Sim N w0 M0 β st a w) (x : Operand) : RepA w (Mo M0 β st) β st.toks (evO st x) (a.eval x) := by
  cases x with
  | tmp t => exact h.fr t
  | const v => exact ofV_rep v
  | global g => trivial
  | func f => exact Rep.clo f [] #[] rfl (fun k x v hx => by simp at hx)
end Go.Abs

namespace Go.Abs
set_option linter.all false
open Go.RowKit (Below)

/-! ### Types out of the table -/
section
variable {G : Ctx} {t : TypeId}
theorem Ctx.Ok.info (hG : G.Ok) (h : (G.ti t).size ≠ 0) : ∃ i z, G.P.info? t = some i ∧ i.size = (G.ti t).size ∧ i.bytes = (G.ti t).bytes ∧ i.zero = some z ∧ z.cells.toList.map ofZV = (G.ti t).zero ∧ z.cells.size = (G.ti t).size := by
  have := hG t h
  unfold TI.okB at this
  split at this
  · rename_i i hi
    simp only [Bool.and_eq_true, beq_iff_eq] at this
    obtain ⟨⟨⟨⟨h1, h2⟩, _⟩, h4⟩, _⟩ := this
    split at h4
    · rename_i z hz
      simp only [Bool.and_eq_true, beq_iff_eq] at h4
      exact ⟨i, z, hi, h1, h2, hz, h4.1, h4.2⟩
    · cases h4
  · cases this
theorem Ctx.Ok.kind (hG : G.Ok) (h : (G.ti t).size ≠ 0) : (G.ti t).kind.okB (G.P.underlying t) = true := by
  have := hG t h
  unfold TI.okB at this
  split at this
  · simp only [Bool.and_eq_true] at this
    exact this.1.1.2
  · cases this
theorem Ctx.Ok.size (hG : G.Ok) (h : (G.ti t).size ≠ 0) (w : World) : (sizeOf t).run G.P w = .ok (G.ti t).size w := by
  obtain ⟨i, z, hi, hs, _⟩ := hG.info h
  simp [sizeOf, typeInfo, hi, hs]
theorem Ctx.Ok.sl (hG : G.Ok) (h : (G.ti t).size ≠ 0) {e} (hk : (G.ti t).kind = .sl e) : G.P.underlying t = some (.slice e) := by
  have := hG.kind h
  rw [hk] at this
  unfold TK.okB at this
  split at this <;> simp_all
theorem Ctx.Ok.arr (hG : G.Ok) (h : (G.ti t).size ≠ 0) {n e} (hk : (G.ti t).kind = .arr n e) : G.P.underlying t = some (.array n e) := by
  have := hG.kind h
  rw [hk] at this
  unfold TK.okB at this
  split at this <;> simp_all
theorem Ctx.Ok.st (hG : G.Ok) (h : (G.ti t).size ≠ 0) {fs} (hk : (G.ti t).kind = .st fs) : ∃ gs, G.P.underlying t = some (.struct gs) ∧ gs.toList.map (fun f => (f.offset, f.type)) = fs := by
  have := hG.kind h
  rw [hk] at this
  unfold TK.okB at this
  split at this <;> simp_all
theorem Ctx.Ok.bl (hG : G.Ok) (h : (G.ti t).size ≠ 0) (hk : (G.ti t).kind = .bl) : G.P.underlying t = some .bool := by
  have := hG.kind h
  rw [hk] at this
  unfold TK.okB at this
  split at this <;> simp_all
theorem Ctx.Ok.it (hG : G.Ok) (h : (G.ti t).size ≠ 0) {k} (hk : (G.ti t).kind = .it k) : G.P.underlying t = some (.int k) := by
  have := hG.kind h
  rw [hk] at this
  unfold TK.okB at this
  split at this <;> simp_all
theorem Ctx.Ok.str (hG : G.Ok) (h : (G.ti t).size ≠ 0) (hk : (G.ti t).kind = .str) : G.P.underlying t = some .string := by
  have := hG.kind h
  rw [hk] at this
  unfold TK.okB at this
  split at this <;> simp_all

/-- A type whose value is a row of cells, and not one cell. -/
def aggK : TK → Bool
  | .st _ | .arr _ _ => true
  | _ => false
theorem Ctx.Ok.isAgg (hG : G.Ok) (h : (G.ti t).size ≠ 0) (w : World) : (Go.isAgg t).run G.P w = .ok (aggK (G.ti t).kind) w := by
  have := hG.kind h
  unfold TK.okB at this
  split at this <;> first | (cases this; done) | skip
  all_goals
    rename_i h1 h2
    rw [h1]
    simp only [Go.isAgg, aggK, Sem.run_bind, run_underlying h2, Result.andThen_ok]
  all_goals rfl
end

/-! ### Scalars -/
def scBin (G : Ctx) (op : BinOp) (t : TypeId) (a b : Value) : Option Value :=
  match a, b with
  | .int k x, .int k' y =>
    match op with
    | .shl => if y < 0 then none else some (.int k (k.wrap (x * 2 ^ (min y.toNat k.bits))))
    | .shr => if y < 0 then none else some (.int k (x.fdiv (2 ^ (min y.toNat k.bits))))
    | .add => if k = k' then some (.int k (k.wrap (x + y))) else none
    | .sub => if k = k' then some (.int k (k.wrap (x - y))) else none
    | .mul => if k = k' then some (.int k (k.wrap (x * y))) else none
    | .quo => if k = k' then if y = 0 then none else some (.int k (k.wrap (x.tdiv y))) else none
    | .rem => if k = k' then if y = 0 then none else some (.int k (x.tmod y)) else none
    | .and => if k = k' then some (.int k (bits .and k x y)) else none
    | .or => if k = k' then some (.int k (bits .or k x y)) else none
    | .xor => if k = k' then some (.int k (bits .xor k x y)) else none
    | .andNot => if k = k' then some (.int k (bits .andNot k x y)) else none
    | .eql => if k = k' then some (.bool (decide (x = y))) else none
    | .neq => if k = k' then some (.bool (!decide (x = y))) else none
    | .lss => if k = k' then some (.bool (decide (x < y))) else none
    | .leq => if k = k' then some (.bool (decide (x ≤ y))) else none
    | .gtr => if k = k' then some (.bool (decide (y < x))) else none
    | .geq => if k = k' then some (.bool (decide (y ≤ x))) else none
  | .bool x, .bool y =>
    if (G.ti t).size ≠ 0 ∧ (G.ti t).kind = .bl then
      match op with
      | .eql => some (.bool (x == y))
      | .neq => some (.bool (!(x == y)))
      | _ => none
    else none
  | .string x, .string y =>
    match op with
    | .eql => some (.bool (x == y))
    | .neq => some (.bool (!(x == y)))
    | _ => none
  | _, _ => none

theorem scBin_run {G : Ctx} (hG : G.Ok) {op t a b c} (h : scBin G op t a b = some c) (x y : Operand) (w : World) :
    Sem.run G.P (do eqGuard op t x y a b; binOp op t a b) w = .ok c w ∧ plainV c = true ∧ c.oneCell' = true := by
  unfold scBin at h
  split at h
  · rename_i k x' k' y'
    cases op <;> simp only at h
    all_goals (repeat' (split at h))
    all_goals first | (cases h; done) | skip
    all_goals (rename_i h1 <;> cases h <;> (try subst h1) <;> refine ⟨?_, rfl, rfl⟩)
    all_goals first
      | (simp [go_sem, Op.shift, Op.intDiv, *]; done)
      | (simp [go_sem, Op.intArith, Op.intCmp, bits, *]; done)
      | skip
    all_goals (simp only [eqGuard_at_int, Sem.run_bind, Sem.run_pure, Result.andThen_ok, binOp_eql, binOp_neq]; rfl)
  · split at h
    · rename_i x' y' hk
      have hu := hG.bl hk.1 hk.2
      cases op <;> simp only at h <;> first | (cases h; done) | skip
      all_goals (cases h; refine ⟨?_, rfl, rfl⟩; simp [go_sem, binOp, Op.equal, Op.maxDepth, run_equalIn_bool _ _ _ _ _ hu])
    · cases h
  · cases op <;> simp only at h <;> first | (cases h; done) | skip
    all_goals (cases h; refine ⟨?_, rfl, rfl⟩; simp [go_sem, binOp, Op.stringOp, beq_toListBytes])
  · cases h

def scUn (op : UnOp) (a : Value) : Option Value :=
  match op, a with
  | .not, .bool b => some (.bool !b)
  | .neg, .int k n => some (.int k (k.wrap (0 - n)))
  | _, _ => none
theorem scUn_run {P : Program} {op a c} (h : scUn op a = some c) (w : World) : (Op.unary op a).run P w = .ok c w ∧ plainV c = true ∧ c.oneCell' = true := by
  unfold scUn at h
  split at h <;> first | (cases h; done) | skip
  all_goals (cases h; refine ⟨?_, rfl, rfl⟩; simp [Op.unary, Op.intArith])

def scMin2 : Value → Value → Option Value
  | .int k x, .int k' y => if k = k' then some (.int k (min x y)) else none
  | _, _ => none
def scMax2 : Value → Value → Option Value
  | .int k x, .int k' y => if k = k' then some (.int k (max x y)) else none
  | _, _ => none
def scFold (f : Value → Value → Option Value) (x : Value) : List Value → Option Value
  | [] => some x
  | y :: r => match f x y with
    | some z => scFold f z r
    | none => none
def scs : List AV → Option (List Value)
  | [] => some []
  | .im (.sc v) :: r => match scs r with
    | some vs => some (v :: vs)
    | none => none
  | _ :: _ => none
theorem scMin2_run {P : Program} {x y z} (h : scMin2 x y = some z) (w : World) : (Builtin.min2 x y).run P w = .ok z w ∧ plainV z = true := by
  unfold scMin2 at h
  split at h
  · split at h
    · rename_i k x k' y hk
      cases h
      refine ⟨?_, rfl⟩
      subst hk
      simp only [Builtin.min2, Sem.run_pure]
      congr 2
      show (if y < x then y else x) = if x ≤ y then x else y
      split <;> split <;> omega
    · cases h
  · cases h
theorem scMax2_run {P : Program} {x y z} (h : scMax2 x y = some z) (w : World) : (Builtin.max2 x y).run P w = .ok z w ∧ plainV z = true := by
  unfold scMax2 at h
  split at h
  · split at h
    · rename_i k x k' y hk
      cases h
      refine ⟨?_, rfl⟩
      subst hk
      simp only [Builtin.max2, Sem.run_pure]
      congr 2
      show (if y > x then y else x) = if x ≤ y then y else x
      split <;> split <;> omega
    · cases h
  · cases h
theorem scFold_run {P : Program} {f : Value → Value → Option Value} {g : Value → Value → Sem Value} (hfg : ∀ x y z w, f x y = some z → (g x y).run P w = .ok z w ∧ plainV z = true) :
    ∀ (r : List Value) (x z : Value) (w : World), plainV x = true → scFold f x r = some z → (r.foldlM g x).run P w = .ok z w ∧ plainV z = true
  | [], x, z, w, hp, h => by simp only [scFold, Option.some.injEq] at h; subst h; exact ⟨rfl, hp⟩
  | y :: r, x, z, w, hp, h => by
    simp only [scFold] at h
    split at h
    · rename_i u hu
      obtain ⟨h1, h2⟩ := hfg x y u w hu
      obtain ⟨h3, h4⟩ := scFold_run hfg r u z w h2 h
      exact ⟨by simp [List.foldlM_cons, h1, h3], h4⟩
    · cases h
end Go.Abs

namespace Go.Abs
set_option linter.all false
open Go.RowKit (Below)

/-! ### Cells -/
def cellsOf : IV → List IV
  | .agg cs => cs
  | x => [x]
theorem cellsOf_rep {w M x v} (h : Rep w M x v) (hx : (cellsOf x).all IV.one = true) : RepL w M (cellsOf x) v.cells.toList ∧ ∀ y ∈ v.cells.toList, y.oneCell' = true := by
  cases h with
  | agg cs vs hl ho h =>
    refine ⟨⟨by simpa [cellsOf, Value.cells] using hl, fun k x v hx hv => h k x v hx (by simpa [Value.cells] using hv)⟩, fun y hy => ?_⟩
    obtain ⟨k, hk⟩ := List.getElem?_of_mem hy
    have hk' : vs[k]? = some y := by simpa [Value.cells] using hk
    have hkl : k < cs.length := by rw [hl]; exact (Array.getElem?_eq_some_iff.1 hk').1
    exact (h k _ y (List.getElem?_eq_getElem hkl) hk').oneCell (ho _ (List.getElem_mem hkl))
  | sc v hv =>
    have h1 : v.oneCell' = true := by simpa [cellsOf, IV.one] using hx
    have hc : v.cells = #[v] := by cases v <;> simp_all [Value.cells, Value.oneCell']
    rw [hc]
    exact ⟨RepL.cons (.sc v hv) RepL.nil, by simpa using h1⟩
  | nil a c => exact ⟨RepL.cons (.nil a c) RepL.nil, by simp [Value.cells, Value.oneCell']⟩
  | sl es s b o c u h1 h2 h3 h4 h5 => exact ⟨RepL.cons (.sl es s b o c u h1 h2 h3 h4 h5) RepL.nil, by simp [Value.cells, Value.oneCell']⟩
  | ip cs j b o u h1 h2 => exact ⟨RepL.cons (.ip cs j b o u h1 h2) RepL.nil, by simp [Value.cells, Value.oneCell']⟩
  | clo f caps vs h1 h2 => exact ⟨RepL.cons (.clo f caps vs h1 h2) RepL.nil, by simp [Value.cells, Value.oneCell']⟩
  | tup cs vs h1 h2 => simp [cellsOf, IV.one] at hx

def cellsAt (G : Ctx) (t : TypeId) (c : List IV) (j : Nat) : Option AV :=
  if aggK (G.ti t).kind then
    if j + (G.ti t).size ≤ c.length then some (.im (.agg ((c.drop j).take (G.ti t).size))) else none
  else match c[j]? with
    | some x => some (.im x)
    | none => none

theorem run_loadVar_cells {G : Ctx} (hG : G.Ok) {t : TypeId} (h0 : (G.ti t).size ≠ 0) {w : World} {M : Nat → Nat → Prop} {c : List IV} {j b o : Nat} {u : Nat → Value} {av : AV}
    (h : ∀ k x, c[k]? = some x → x.one = true ∧ w.cell? ⟨b, o + k, none⟩ = some (u k) ∧ Rep w M x (u k)) (hc : cellsAt G t c j = some av) :
    ∃ v x, (loadVar t ⟨b, o + j, none⟩).run G.P w = .ok v w ∧ av = .im x ∧ Rep w M x v := by
  unfold cellsAt at hc
  unfold loadVar
  simp only [Sem.run_bind, hG.isAgg h0, Result.andThen_ok]
  split at hc
  · rename_i hk
    split at hc
    · rename_i hl
      cases hc
      have hcells : ∀ k, k < (G.ti t).size → w.cell? ((⟨b, o + j, none⟩ : Addr).add k) = some (u (j + k)) := fun k hk' => by
        have : j + k < c.length := by omega
        rw [Addr.add_lit, Nat.add_assoc]
        exact (h (j + k) _ (List.getElem?_eq_getElem this)).2.1
      have hr := run_loadCells (P := G.P) w ⟨b, o + j, none⟩ (G.ti t).size (fun k => u (j + k)) hcells
      refine ⟨.agg ((List.range (G.ti t).size).map fun k => u (j + k)).toArray, _, ?_, rfl, ?_⟩
      · simp only [hk, if_true, Sem.run_bind, hG.size h0, Result.andThen_ok, hr, Sem.run_pure]
      · refine .agg _ _ (by simp; omega) (fun x hx => ?_) (fun k x v hx hv => ?_)
        · obtain ⟨k, hk'⟩ := List.getElem?_of_mem hx
          rw [List.getElem?_take] at hk'
          split at hk'
          · rw [List.getElem?_drop] at hk'; exact (h _ _ hk').1
          · cases hk'
        · rw [List.getElem?_take] at hx
          split at hx
          · rename_i hkl
            rw [List.getElem?_drop] at hx
            have : v = u (j + k) := by
              simp [hkl] at hv
              exact hv.symm
            rw [this]; exact (h _ _ hx).2.2
          · cases hx
    · cases hc
  · rename_i hk
    split at hc
    · rename_i x hx
      cases hc
      refine ⟨u j, x, ?_, rfl, (h j x hx).2.2⟩
      simp only [hk, Bool.false_eq_true, if_false]
      simp [run_load, (h j x hx).2.1]
    · cases hc

/-! ### fill -/
def setCells (cs : List IV) (off : Nat) : List IV → List IV
  | [] => cs
  | x :: r => setCells (cs.set off x) (off + 1) r
def fillA (place : Nat → Option (Nat × Nat)) (cs : List IV) : List (Nat × IV) → Option (List IV)
  | [] => some cs
  | (i, x) :: r => match place i with
    | none => none
    | some (off, size) => if (cellsOf x).length = size ∧ off + size ≤ cs.length ∧ (cellsOf x).all IV.one = true then fillA place (setCells cs off (cellsOf x)) r else none

theorem RepL.set {w M cs vs x v} (h : RepL w M cs vs) (hx : Rep w M x v) (k : Nat) : RepL w M (cs.set k x) (vs.set k v) :=
  ⟨by simp [h.1], fun i y u hy hu => by
    rw [List.getElem?_set] at hy hu
    split at hy
    · rename_i hk
      simp only [hk, if_true] at hu
      subst hk
      split at hy <;> split at hu <;> simp_all
    · rename_i hk
      simp only [hk, if_false] at hu
      exact h.2 i y u hy hu⟩
theorem foldl_zipIdx (off : Nat) : ∀ (l : List Value) (k : Nat) (cs : Array Value),
    ((l.zipIdx k).foldl (fun cs p => cs.setIfInBounds (off + p.2) p.1) cs).toList = l.zipIdx.foldl (fun cs p => cs.set (off + k + p.2) p.1) cs.toList
  | [], k, cs => rfl
  | v :: l, k, cs => by
    simp only [List.zipIdx_cons, List.foldl_cons]
    rw [foldl_zipIdx off l (k + 1)]
    have e : List.zipIdx l (0 + 1) = (List.zipIdx l).map fun p => (p.1, p.2 + 1) := by
      rw [List.zipIdx_eq_map_add]; simp [Nat.add_comm]
    rw [e, List.foldl_map]
    simp only [Array.toList_setIfInBounds, Nat.add_zero]
    congr 1
    funext cs p
    congr 1
    omega
theorem setCells_rep {w M} (off : Nat) : ∀ {xs : List IV} {us : List Value} {cs : List IV} {vs : List Value}, RepL w M xs us → RepL w M cs vs → ∀ k, k = 0 →
    RepL w M (setCells cs off xs) (us.zipIdx.foldl (fun cs p => cs.set (off + p.2) p.1) vs) := by
  intro xs
  induction xs generalizing off with
  | nil => intro us cs vs hx hc _ _; obtain rfl := hx.of_nil; exact hc
  | cons x xs ih =>
    intro us cs vs hx hc k hk
    obtain ⟨v, us, rfl, h1, h2⟩ := hx.uncons
    simp only [setCells, List.zipIdx_cons, List.foldl_cons]
    have e : List.zipIdx us (0 + 1) = (List.zipIdx us).map fun p => (p.1, p.2 + 1) := by
      rw [List.zipIdx_eq_map_add]; simp [Nat.add_comm]
    rw [e, List.foldl_map]
    have := ih (off + 1) h2 (hc.set h1 off) 0 rfl
    simp only [Nat.add_zero]
    have e2 : (fun (cs : List Value) (p : Value × Nat) => cs.set (off + (p.2 + 1)) p.1) = fun cs p => cs.set (off + 1 + p.2) p.1 := by
      funext cs p; congr 1; omega
    rw [e2]; exact this
theorem setCells_length (off : Nat) : ∀ (xs cs : List IV), (setCells cs off xs).length = cs.length
  | [], cs => rfl
  | x :: xs, cs => by simp [setCells, setCells_length (off + 1) xs]
theorem setCells_one (off : Nat) : ∀ (xs cs : List IV), (∀ x ∈ cs, x.one = true) → (∀ x ∈ xs, x.one = true) → ∀ x ∈ setCells cs off xs, x.one = true
  | [], cs, h, _ => h
  | y :: xs, cs, h, hx => by
    refine setCells_one (off + 1) xs _ (fun x hx' => ?_) (fun x hx' => hx x (by simp [hx']))
    rcases List.mem_or_eq_of_mem_set hx' with h' | h'
    · exact h x h'
    · subst h'; exact hx _ (by simp)

def RepP (w : World) (M : Nat → Nat → Prop) (ps : List (Nat × IV)) (qs : List (Nat × Value)) : Prop :=
  ps.length = qs.length ∧ ∀ (k : Nat) p q, ps[k]? = some p → qs[k]? = some q → p.1 = q.1 ∧ Rep w M p.2 q.2
theorem fill_rep {w M} (place : Nat → Option (Nat × Nat)) : ∀ (ps : List (Nat × IV)) (qs : List (Nat × Value)) (cs : List IV) (vs : Array Value) (out : List IV),
    RepP w M ps qs → RepL w M cs vs.toList → (∀ x ∈ cs, x.one = true) → fillA place cs ps = some out →
    ∃ ws, Instr.fill place vs qs = some ws ∧ RepL w M out ws.toList ∧ (∀ x ∈ out, x.one = true) ∧ out.length = cs.length
  | [], qs, cs, vs, out, hp, hc, ho, h => by
    simp only [fillA, Option.some.injEq] at h
    subst h
    obtain rfl : qs = [] := List.eq_nil_of_length_eq_zero hp.1.symm
    exact ⟨vs, rfl, hc, ho, rfl⟩
  | (i, x) :: ps, qs, cs, vs, out, hp, hc, ho, h => by
    cases qs with
    | nil => exact absurd hp.1 (by simp)
    | cons q qs =>
      obtain ⟨j, v⟩ := q
      obtain ⟨e, hx⟩ := hp.2 0 (i, x) (j, v) rfl rfl
      simp only at e
      subst e
      have hp' : RepP w M ps qs := ⟨by simpa using hp.1, fun k p q h1 h2 => hp.2 (k + 1) p q (by simpa using h1) (by simpa using h2)⟩
      simp only [fillA] at h
      unfold Instr.fill
      split at h
      · cases h
      · rename_i off size hpl
        split at h
        · rename_i hcond
          obtain ⟨h1, h2, h3⟩ := hcond
          obtain ⟨hr, hone⟩ := cellsOf_rep hx h3
          have hsz : v.cells.size = size := by have := hr.1; simp at this; omega
          have hcl : cs.length = vs.size := by have := hc.1; simpa using this
          simp only [hpl]
          have hno : (decide (v.cells.size ≠ size) || decide (off + v.cells.size > vs.size)) = false := by
            simp; omega
          simp only [hno, Bool.false_eq_true, if_false]
          have hset := setCells_rep (w := w) (M := M) off hr hc 0 rfl
          have hfold : (v.cells.zipIdx.foldl (fun cs (c, j) => cs.setIfInBounds (off + j) c) vs).toList = v.cells.toList.zipIdx.foldl (fun cs p => cs.set (off + p.2) p.1) vs.toList := by
            rw [← Array.foldl_toList]
            have := foldl_zipIdx off v.cells.toList 0 vs
            simpa using this
          have hone' : ∀ y ∈ setCells cs off (cellsOf x), y.one = true := setCells_one off _ _ ho (by simpa using h3)
          obtain ⟨ws, h4, h5, h6, h7⟩ := fill_rep place ps qs _ (v.cells.zipIdx.foldl (fun cs (c, j) => cs.setIfInBounds (off + j) c) vs) out hp' (by rw [hfold]; exact hset) hone' h
          exact ⟨ws, h4, h5, h6, by rw [h7, setCells_length]⟩
        · cases h
end Go.Abs

namespace Go.Abs
set_option linter.all false
open Go.RowKit (Below)

/-! ### Structs held against each other -/
def eqCells (G : Ctx) : List (Nat × TypeId) → List IV → List IV → Option Bool
  | [], [], [] => some true
  | (_, t) :: ks, x :: xs, y :: ys =>
    match eqCells G ks xs ys with
    | none => none
    | some r =>
      if (G.ti t).size = 0 then none else
      match (G.ti t).kind, x, y with
      | .it _, .sc (.int k a), .sc (.int k' b) => if k = k' then some (decide (a = b) && r) else none
      | .bl, .sc (.bool a), .sc (.bool b) => some ((a == b) && r)
      | .str, .sc (.string a), .sc (.string b) => some ((a == b) && r)
      | _, _, _ => none
  | _, _, _ => none

theorem RepL.at_sc {w M xs vs} (h : RepL w M xs vs) {k : Nat} {u : Value} (hx : xs[k]? = some (.sc u)) : vs[k]? = some u := by
  have hl : k < vs.length := by rw [← h.1]; exact (List.getElem?_eq_some_iff.1 hx).1
  have := h.2 k _ _ hx (List.getElem?_eq_getElem hl)
  rw [List.getElem?_eq_getElem hl, this.sc_inv]

theorem part_one {P : Program} {t : TypeId} {d : TypeDesc} (hu : P.underlying t = some d) (hd : (d matches .struct _ | .array _ _) = false) {us : Array Value} {k : Nat} {u : Value} (hk : us.toList[k]? = some u) (w : World) :
    (part t us k).run P w = .ok u w := by
  have hk' : us[k]? = some u := by simpa using hk
  have ha : (Go.isAgg t).run P w = .ok false w := by
    unfold Go.isAgg
    simp only [Sem.run_bind, run_underlying hu, Result.andThen_ok]
    cases d <;> first | (simp at hd; done) | rfl
  simp [part, ha, hk']

theorem eqFields_run {G : Ctx} (hG : G.Ok) {w : World} {M M' : Nat → Nat → Prop} {xs ys : List IV} {us vs : Array Value} (hx : RepL w M xs us.toList) (hy : RepL w M' ys vs.toList) (d : Nat) :
    ∀ (fs : List Field) (k : Nat) (r : Bool), fs.map (·.offset) = List.range' k fs.length → (∀ f ∈ fs, f.name ≠ "_") → eqCells G (fs.map fun f => (f.offset, f.type)) (xs.drop k) (ys.drop k) = some r →
      (Op.eqFields (d + 1) us vs fs).run G.P w = .ok r w
  | [], k, r, _, _, h => by
    have : r = true := by
      unfold eqCells at h
      split at h <;> simp_all
    subst this; rfl
  | f :: fs, k, r, ho, hn, h => by
    simp only [List.map_cons, List.length_cons, List.range'_succ, List.cons.injEq] at ho
    obtain ⟨hk, ho⟩ := ho
    have hnm : f.name ≠ "_" := hn f (by simp)
    simp only [List.map_cons] at h
    unfold eqCells at h
    split at h
    · rename_i h1 _ _; simp at h1
    · rename_i t ks x xs' y ys' e1 e2 e3
      simp only [List.cons.injEq, Prod.mk.injEq] at e1
      obtain ⟨⟨_, rfl⟩, rfl⟩ := e1
      have hxk : xs[k]? = some x := by have := congrArg (fun l => l[0]?) e2; simpa using this
      have hyk : ys[k]? = some y := by have := congrArg (fun l => l[0]?) e3; simpa using this
      have hxd : xs' = xs.drop (k + 1) := by have := congrArg List.tail e2; simpa using this.symm
      have hyd : ys' = ys.drop (k + 1) := by have := congrArg List.tail e3; simpa using this.symm
      subst hxd; subst hyd
      split at h
      · cases h
      · rename_i r' hr
        split at h
        · cases h
        · rename_i hs
          have ih := eqFields_run hG hx hy d fs (k + 1) r' ho (fun f hf => hn f (by simp [hf])) hr
          simp only [Op.eqFields, ne_eq, hnm, not_false_eq_true, if_true, Sem.run_bind, hk]
          split at h
          · rename_i kk k1 a k2 b hkd
            split at h
            · rename_i hkk
              cases h
              subst hkk
              have hu := hG.it hs hkd
              rw [part_one hu rfl (hx.at_sc hxk), Result.andThen_ok, part_one hu rfl (hy.at_sc hyk), Result.andThen_ok, run_equalIn_int w d _ _ _ a b hu, Result.andThen_ok]
              by_cases hab : a = b
              · simp [hab, ih]
              · simp [hab]
            · cases h
          · rename_i a b hkd
            cases h
            have hu := hG.bl hs hkd
            rw [part_one hu rfl (hx.at_sc hxk), Result.andThen_ok, part_one hu rfl (hy.at_sc hyk), Result.andThen_ok, run_equalIn_bool' w d _ a b hu, Result.andThen_ok]
            by_cases hab : a = b
            · simp [hab, ih]
            · simp [hab]
          · rename_i a b hkd
            cases h
            have hu := hG.str hs hkd
            rw [part_one hu rfl (hx.at_sc hxk), Result.andThen_ok, part_one hu rfl (hy.at_sc hyk), Result.andThen_ok, run_equalIn_string w d _ a b hu, Result.andThen_ok, ← beq_toListBytes]
            cases hab : a == b
            · simp
            · simp [ih]
          · cases h
    · cases h

def aggBin (G : Ctx) (op : BinOp) (t : TypeId) (xs ys : List IV) : Option Value :=
  if (G.ti t).size ≠ 0 ∧ (G.ti t).eq = true then
    match (G.ti t).kind with
    | .st fs => match eqCells G fs xs ys with
      | some r => match op with
        | .eql => some (.bool r)
        | .neq => some (.bool !r)
        | _ => none
      | none => none
    | _ => none
  else none

theorem aggBin_run {G : Ctx} (hG : G.Ok) {op t xs ys c} (h : aggBin G op t xs ys = some c) {w : World} {M M' : Nat → Nat → Prop} {us vs : Array Value} (hx : RepL w M xs us.toList) (hy : RepL w M' ys vs.toList) (x y : Operand) :
    Sem.run G.P (do eqGuard op t x y (.agg us) (.agg vs); binOp op t (.agg us) (.agg vs)) w = .ok c w ∧ plainV c = true ∧ c.oneCell' = true := by
  unfold aggBin at h
  split at h
  · rename_i hc
    split at h
    · rename_i fs hk
      split at h
      · rename_i r hr
        obtain ⟨gs, hu, hgs⟩ := hG.st hc.1 hk
        have hok := hG t hc.1
        unfold TI.okB at hok
        split at hok
        · simp only [hc.2, Bool.not_true, Bool.false_or, Bool.and_eq_true, hu] at hok
          obtain ⟨_, ⟨⟨⟨hb, ho⟩, hsz⟩, hst⟩, hg⟩ := hok
          have hfo : G.P.fieldsOf t = gs := by simp [Program.fieldsOf, hu]
          have hst' : G.P.stoodInHeld t = false := by simpa using hst
          have hg' : G.P.eqGuardType G.P.depth t = false := by simpa using hg
          have hnm : ∀ f ∈ gs.toList, f.name ≠ "_" := fun f hf => by
            have := List.all_eq_true.1 hb f hf
            simp only [basicB, Bool.and_eq_true, bne_iff_ne, ne_eq] at this
            exact this.1
          have ho' : gs.toList.map (·.offset) = List.range' 0 gs.toList.length := by
            have := (beq_iff_eq.1 ho)
            rw [this, List.range_eq_range']; simp
          have hrun := eqFields_run (G := G) hG hx hy 9998 gs.toList 0 r ho' hnm (by rw [hgs]; simpa using hr)
          have heq : (Op.equalIn 10000 t (.agg us) (.agg vs)).run G.P w = .ok r w := by
            rw [show (10000 : Nat) = 9999 + 1 from rfl, run_equalIn_struct w 9999 t us vs (by rw [hfo]; exact hu) hst', hfo]; exact hrun
          cases op <;> simp only at h <;> first | (cases h; done) | skip
          · cases h
            refine ⟨?_, rfl, rfl⟩
            rw [Sem.run_bind, run_eqGuard_agg w _ t x y us vs hg', Result.andThen_ok, run_eql_struct, heq]; rfl
          · cases h
            refine ⟨?_, rfl, rfl⟩
            rw [Sem.run_bind, run_eqGuard_agg w _ t x y us vs hg', Result.andThen_ok, run_neq_struct, heq]; rfl
        · cases hok
      · cases h
    · cases h
  · cases h
end Go.Abs

namespace Go.Abs
set_option linter.all false
open Go.RowKit (Below)

def sliceEls : AV → Option (List (List IV))
  | .im (.sl es) | .sx es | .vec _ _ _ es => some es
  | _ => none
def ivOf : AV → Option IV
  | .im x => some x
  | .sx es | .vec _ _ _ es => some (.sl es)
  | _ => none
theorem ivOf_rep {w M β toks av v x} (h : RepA w M β toks av v) (hx : ivOf av = some x) : Rep w M x v := by
  cases av <;> simp only [ivOf, Option.some.injEq] at hx <;> first | (cases hx; done) | (subst hx; first | exact h | exact h.1)
theorem sliceEls_rep {w M β toks av v es} (h : RepA w M β toks av v) (hx : sliceEls av = some es) : Rep w M (.sl es) v := by
  unfold sliceEls at hx
  split at hx <;> first | (cases hx; done) | skip
  · cases hx; exact h
  · cases hx; exact h.1
  · cases hx; exact h.1

def ivsOf : List AV → Option (List IV)
  | [] => some []
  | a :: r => match ivOf a, ivsOf r with
    | some x, some xs => some (x :: xs)
    | _, _ => none
def ivParts (st : St) : List (Nat × Operand) → Option (List (Nat × IV))
  | [] => some []
  | (i, a) :: r => match ivOf (evO st a), ivParts st r with
    | some x, some xs => some ((i, x) :: xs)
    | _, _ => none
/-- The parts are the elements 0, 1, .., s cells each. -/
def fullEls (s : Nat) : Nat → List (Nat × IV) → Option (List (List IV))
  | _, [] => some []
  | k, (i, x) :: r => if i = k ∧ (cellsOf x).length = s ∧ (cellsOf x).all IV.one = true then match fullEls s (k + 1) r with
      | some es => some (cellsOf x :: es)
      | none => none
    else none

def yIndexAddr (G : Ctx) (t : TypeId) (x : AV) (n : Int) : Option AV :=
  if (G.ti t).size = 0 then none else
  match (G.ti t).kind with
  | .sl e =>
    if (G.ti e).size = 0 then none else
    match x with
    | .osl d s i m => if 0 ≤ n ∧ n < (m : Int) ∧ s = (G.ti e).size then some (.loc d s (i + n.toNat) 0) else none
    | x => match sliceEls x with
      | some es => if 0 ≤ n then match es[n.toNat]? with
          | some c => if c.length = (G.ti e).size then some (.im (.ip c 0)) else none
          | none => none
        else none
      | none => none
  | .arr len e =>
    if (G.ti e).size = 0 then none else
    if 0 ≤ n ∧ n < (len : Int) then
      match x with
      | .loc d s i j => some (.loc d s i (j + n.toNat * (G.ti e).size))
      | .im (.ip c j) => some (.im (.ip c (j + n.toNat * (G.ti e).size)))
      | _ => none
    else none
  | _ => none

def yField (G : Ctx) (t : TypeId) (f : Nat) : Option (Nat × TypeId) :=
  if (G.ti t).size = 0 then none else
  match (G.ti t).kind with
  | .st fs => match fs[f]? with
    | some (off, ty) => if (G.ti ty).size = 0 then none else some (off, ty)
    | none => none
  | _ => none

def yLoad (G : Ctx) (st : St) (t : TypeId) (p : AV) : Option AV :=
  if (G.ti t).size = 0 then none else
  match p with
  | .im (.ip c j) => cellsAt G t c j
  | .loc d s i j => match look st.rows d with
    | some (s', es) => if s' = s then match es[i]? with
        | some c => cellsAt G t c j
        | none => none
      else none
    | none => none
  | _ => none

def zeroIV (G : Ctx) (t : TypeId) : Option (List IV) :=
  if (G.ti t).size = 0 then none else
  if (G.ti t).zero.contains .no then none else some ((G.ti t).zero.map ZC.iv)

def structPlace (G : Ctx) (fs : List (Nat × TypeId)) (i : Nat) : Option (Nat × Nat) :=
  match fs[i]? with
  | some (off, ty) => some (off, (G.ti ty).size)
  | none => none
def yBuild (G : Ctx) (t : TypeId) (ps : List (Nat × IV)) : Option AV :=
  match zeroIV G t with
  | none => none
  | some z => match (G.ti t).kind with
    | .st fs => if fs.all (fun p => (G.ti p.2).size != 0) then match fillA (structPlace G fs) z ps with
        | some cs => some (.im (.agg cs))
        | none => none
      else none
    | .arr _ e => if (G.ti e).size = 0 then none else match fillA (fun i => some (i * (G.ti e).size, (G.ti e).size)) z ps with
        | some cs => some (.im (.agg cs))
        | none => none
    | _ => none

def yBuildSlice (G : Ctx) (t : TypeId) (len : Nat) (ps : List (Nat × IV)) : Option AV :=
  if (G.ti t).size = 0 then none else
  match (G.ti t).kind with
  | .sl e => match zeroIV G e with
    | none => none
    | some _ => match fullEls (G.ti e).size 0 ps with
      | some es => if es.length = len ∧ len * (G.ti e).size ≤ 16777216 then some (.sx es) else none
      | none => none
  | _ => none

def bnd : Option AV → Nat → Option Int
  | none, d => some d
  | some (.im (.sc (.int _ n))), _ => some n
  | _, _ => none
def ySlice (G : Ctx) (t : TypeId) (x : AV) (lo hi : Option AV) : Option AV :=
  if (G.ti t).size = 0 then none else
  match (G.ti t).kind with
  | .sl e =>
    if (G.ti e).size = 0 then none else
    match x with
    | .osl d s i m => match bnd lo 0, bnd hi m with
      | some l, some h => if 0 ≤ l ∧ l ≤ h ∧ h ≤ (m : Int) ∧ s = (G.ti e).size then some (.osl d s (i + l.toNat) (h - l).toNat) else none
      | _, _ => none
    | x => match sliceEls x with
      | some es => match bnd lo 0, bnd hi es.length with
        | some l, some h => if 0 ≤ l ∧ l ≤ h ∧ h ≤ (es.length : Int) ∧ es.all (fun c => c.length == (G.ti e).size) = true then some (.im (.sl ((es.drop l.toNat).take (h.toNat - l.toNat)))) else none
        | _, _ => none
      | none => none
  | _ => none

def yLen (G : Ctx) (t : TypeId) (x : AV) : Option AV :=
  if (G.ti t).size = 0 then none else
  match (G.ti t).kind with
  | .sl _ => match x with
    | .osl _ _ _ n => some (.im (.sc (.int .i64 n)))
    | x => match sliceEls x with
      | some es => some (.im (.sc (.int .i64 es.length)))
      | none => none
  | .str => match x with
    | .im (.sc (.string s)) => some (.im (.sc (.int .i64 s.size)))
    | _ => none
  | _ => none

def yIndex (G : Ctx) (t : TypeId) (x : AV) (n : Int) : Option AV :=
  if (G.ti t).size = 0 then none else
  match (G.ti t).kind with
  | .arr len e => if (G.ti e).size = 0 then none else
    if 0 ≤ n ∧ n < (len : Int) then match x with
      | .im (.agg cs) => cellsAt G e cs (n.toNat * (G.ti e).size)
      | _ => none
    else none
  | .str => match x with
    | .im (.sc (.string s)) => if 0 ≤ n then match s[n.toNat]? with
        | some b => some (.im (.sc (.int .u8 b.toNat)))
        | none => none
      else none
    | _ => none
  | _ => none

def yv (G : Ctx) (st : St) (o : Oper) : Option AV :=
  match o.op with
  | .move x => some (evO st x)
  | .assign x => some (evO st x)
  | .pick c a b => match evO st c with
    | .im (.sc (.bool t)) => some (if t = true then evO st a else evO st b)
    | _ => none
  | .binOp op t x y _ => match evO st x, evO st y with
    | .im (.sc a), .im (.sc b) => match scBin G op t a b with
      | some v => some (.im (.sc v))
      | none => none
    | .im (.agg xs), .im (.agg ys) => match aggBin G op t xs ys with
      | some v => some (.im (.sc v))
      | none => none
    | _, _ => none
  | .unOp op _ x => match evO st x with
    | .im (.sc a) => match scUn op a with
      | some v => some (.im (.sc v))
      | none => none
    | _ => none
  | .nilCheck x => match evO st x with
    | .im (.ip cs j) => some (.im (.ip cs j))
    | .im (.clo f cs) => some (.im (.clo f cs))
    | .loc d s i j => some (.loc d s i j)
    | _ => none
  | .load t p => yLoad G st t (evO st p)
  | .fieldAddr t x f => match yField G t f with
    | some (off, _) => match evO st x with
      | .im (.ip c j) => some (.im (.ip c (j + off)))
      | .loc d s i j => some (.loc d s i (j + off))
      | _ => none
    | none => none
  | .field t x f => match yField G t f with
    | some (off, ty) => match evO st x with
      | .im (.agg cs) => cellsAt G ty cs off
      | _ => none
    | none => none
  | .indexAddr t x i => match evO st i with
    | .im (.sc (.int _ n)) => yIndexAddr G t (evO st x) n
    | _ => none
  | .index t x i => match evO st i with
    | .im (.sc (.int _ n)) => yIndex G t (evO st x) n
    | _ => none
  | .extract x k => match evO st x with
    | .im (.tup vs) => match vs[k]? with
      | some y => some (.im y)
      | none => none
    | _ => none
  | .build t ps => match ivParts st ps.toList with
    | some qs => yBuild G t qs
    | none => none
  | .buildSlice t len ps => match ivParts st ps.toList with
    | some qs => yBuildSlice G t len qs
    | none => none
  | .convert src dst x => if (G.ti src).size = 0 ∨ (G.ti dst).size = 0 then none else
    match (G.ti dst).kind, evO st x with
    | .it k, .im (.sc (.int _ n)) => some (.im (.sc (.int k (k.wrap n))))
    | _, _ => none
  | .slice t x lo hi mx => if mx.isSome then none else ySlice G t (evO st x) (lo.map (evO st)) (hi.map (evO st))
  | .makeFunc fn first caps => match fn with
    | .func f => if first.size = 0 then match ivsOf (caps.toList.map (evO st)) with
        | some xs => some (.im (.clo f xs))
        | none => none
      else none
    | _ => none
  | .call c => match c.callee with
    | .builtin b => match b with
      | .len => match c.argTypes.toList, c.args.toList with
        | [t], [x] => yLen G t (evO st x)
        | _, _ => none
      | .min => match scs (c.args.toList.map (evO st)) with
        | some (x :: r) => match scFold scMin2 x r with
          | some v => some (.im (.sc v))
          | none => none
        | _ => none
      | .max => match scs (c.args.toList.map (evO st)) with
        | some (x :: r) => match scFold scMax2 x r with
          | some v => some (.im (.sc v))
          | none => none
        | _ => none
      | _ => none
    | _ => none
  | _ => none
end Go.Abs

namespace Go.Abs
set_option linter.all false
open Go.RowKit (Below)

section
variable {G : Ctx} {N : Nat} {w0 w : World} {M M0 : Nat → Nat → Prop} {β : Nat → Option Nat} {st : St} {a : Act} {toks : List (Nat × Nat × Nat)} {av : AV} {v : Value}

theorem Sim.mlt (h : Sim N w0 M0 β st a w) {b o : Nat} (hm : Mo M0 β st b o) : b < w.heap.size := by
  rcases hm with hm | ⟨d, s, es, hd, hb⟩ | ⟨d, s, n, hd, hb, _⟩
  · exact Nat.lt_of_lt_of_le (h.m0 b o hm) h.below.size
  · obtain ⟨b', hb', _, cur, T, hc, _⟩ := h.rows d s es hd
    rw [hb] at hb'; cases hb'
    exact (Array.getElem?_eq_some_iff.1 hc).1
  · exact (h.toks d s n hd b hb).2

theorem Rep.sl_inv {es : List (List IV)} (h : Rep w M (.sl es) v) : (es = [] ∧ ∃ a c, v = .slice a 0 c) ∨
    ∃ (s b o c : Nat) (u : Nat → Nat → Value), es ≠ [] ∧ (∀ e ∈ es, e.length = s) ∧ es.length ≤ c ∧
      (∀ (i : Nat) e (j : Nat) x, es[i]? = some e → e[j]? = some x → x.one = true ∧ w.cell? ⟨b, o + i * s + j, none⟩ = some (u i j) ∧ ¬ M b (o + i * s + j)) ∧
      (∀ (i : Nat) e (j : Nat) x, es[i]? = some e → e[j]? = some x → Rep w M x (u i j)) ∧ v = .slice (some ⟨b, o, none⟩) es.length c := by
  cases h with
  | nil a c => exact .inl ⟨rfl, a, c, rfl⟩
  | sl _ s b o c u h1 h2 h3 h4 h5 => exact .inr ⟨s, b, o, c, u, h1, h2, h3, h4, h5, rfl⟩

theorem Rep.sl_len {es : List (List IV)} (h : Rep w M (.sl es) v) : ∃ a c, v = .slice a es.length c ∧ es.length ≤ c := by
  rcases h.sl_inv with ⟨rfl, a, c, rfl⟩ | ⟨s, b, o, c, u, _, _, h3, _, _, rfl⟩
  · exact ⟨a, c, rfl, Nat.zero_le _⟩
  · exact ⟨_, c, rfl, h3⟩

/-- Element i of a slice that is only read, as a pointer. -/
theorem Rep.sl_at {es : List (List IV)} {c : List IV} {i : Nat} (h : Rep w M (.sl es) v) (hi : es[i]? = some c) :
    ∃ b o cap, v = .slice (some ⟨b, o, none⟩) es.length cap ∧ Rep w M (.ip c 0) (.pointer (some ⟨b, o + i * c.length, none⟩)) := by
  rcases h.sl_inv with ⟨rfl, _⟩ | ⟨s, b, o, cap, u, _, hs, _, h4, h5, rfl⟩
  · simp at hi
  · refine ⟨b, o, cap, rfl, ?_⟩
    rw [hs c (List.mem_of_getElem? hi)]
    exact .ip c 0 b (o + i * s) (u i) (fun k x hx => h4 i c k x hi hx) (fun k x hx => h5 i c k x hi hx)

theorem ip_inv {cs : List IV} {j : Nat} (h : Rep w M (.ip cs j) v) : ∃ (b o : Nat) (u : Nat → Value), v = .pointer (some ⟨b, o + j, none⟩) ∧
    (∀ (k : Nat) x, cs[k]? = some x → x.one = true ∧ w.cell? ⟨b, o + k, none⟩ = some (u k) ∧ ¬ M b (o + k)) ∧ (∀ (k : Nat) x, cs[k]? = some x → Rep w M x (u k)) := by
  cases h with
  | ip _ _ b o u h1 h2 => exact ⟨b, o, u, rfl, h1, h2⟩
theorem ip_move {cs : List IV} {j k : Nat} (h : Rep w M (.ip cs j) v) : ∃ b o, v = .pointer (some ⟨b, o, none⟩) ∧ Rep w M (.ip cs (j + k)) (.pointer (some ⟨b, o + k, none⟩)) := by
  obtain ⟨b, o, u, rfl, h1, h2⟩ := ip_inv h
  exact ⟨b, o + j, rfl, by rw [Nat.add_assoc]; exact .ip cs (j + k) b o u h1 h2⟩

/-! ### load -/
theorem row_cells {b s : Nat} {es : List (List IV)} {c : List IV} {i : Nat} (h : RowRep w M b s es) (hi : es[i]? = some c) :
    ∃ u : Nat → Value, ∀ k x, c[k]? = some x → x.one = true ∧ w.cell? ⟨b, i * s + k, none⟩ = some (u k) ∧ Rep w M x (u k) := by
  obtain ⟨cur, T, hc, _, h3⟩ := h
  refine ⟨fun k => cur.getD (i * s + k) undef, fun k x hx => ?_⟩
  obtain ⟨ho, u, hu, hr⟩ := h3 i c k x hi hx
  have e : cur.getD (i * s + k) undef = u := by simp [hu]
  refine ⟨ho, ?_, by show Rep w M x (cur.getD (i * s + k) undef); rw [e]; exact hr⟩
  show _ = some (cur.getD (i * s + k) undef)
  rw [cell_of_row w b _ cur T _ hc, e, hu]

theorem yLoad_run (hG : G.Ok) (h : Sim N w0 M0 β st a w) {t : TypeId} {p av : AV} {pv : Value} (hp : RepA w (Mo M0 β st) β st.toks p pv) (hy : yLoad G st t p = some av) :
    ∃ v, (Instr.loadAt t pv).run G.P w = .ok v w ∧ RepA w (Mo M0 β st) β st.toks av v := by
  unfold yLoad at hy
  split at hy
  · cases hy
  · rename_i h0
    split at hy
    · rename_i c j
      obtain ⟨b, o, u, rfl, h1, h2⟩ := ip_inv hp
      obtain ⟨v, x, hr, rfl, hx⟩ := run_loadVar_cells hG h0 (M := Mo M0 β st) (b := b) (o := o) (u := u) (w := w) (fun k x hx => ⟨(h1 k x hx).1, (h1 k x hx).2.1, h2 k x hx⟩) hy
      exact ⟨v, by simpa [Instr.loadAt, Instr.sureAddr] using hr, hx⟩
    · rename_i d s i j
      split at hy
      · rename_i s' es hd
        split at hy
        · rename_i hs
          subst hs
          split at hy
          · rename_i c hi
            obtain ⟨b, hb, rfl⟩ := hp
            obtain ⟨b', hb', _, hrow⟩ := h.rows d s' es hd
            rw [hb] at hb'; cases hb'
            obtain ⟨u, hu⟩ := row_cells hrow hi
            obtain ⟨v, x, hr, rfl, hx⟩ := run_loadVar_cells hG h0 (M := Mo M0 β st) (b := b) (o := i * s') (u := u) (w := w) hu hy
            exact ⟨v, by simpa [Instr.loadAt, Instr.sureAddr] using hr, hx⟩
          · cases hy
        · cases hy
      · cases hy
    · cases hy

/-! ### fieldAddr, field -/
theorem yField_run (hG : G.Ok) {t : TypeId} {f off : Nat} {ty : TypeId} (hy : yField G t f = some (off, ty)) :
    ∃ gs fd, G.P.underlying t = some (.struct gs) ∧ gs[f]? = some fd ∧ fd.offset = off ∧ fd.type = ty ∧ (G.ti ty).size ≠ 0 := by
  unfold yField at hy
  split at hy
  · cases hy
  · rename_i h0
    split at hy
    · rename_i fs hk
      split at hy
      · rename_i off' ty' hf
        split at hy
        · cases hy
        · rename_i h1
          cases hy
          obtain ⟨gs, hu, hgs⟩ := hG.st h0 hk
          rw [← hgs, List.getElem?_map] at hf
          obtain ⟨fd, hfd, e⟩ := Option.map_eq_some_iff.1 hf
          simp only [Prod.mk.injEq] at e
          exact ⟨gs, fd, hu, by simpa using hfd, e.1, e.2, h1⟩
      · cases hy
    · cases hy

theorem fieldAt_run (hG : G.Ok) {t : TypeId} {f off : Nat} {ty : TypeId} (hy : yField G t f = some (off, ty)) (b o : Nat) :
    (Instr.fieldAt t (.pointer (some ⟨b, o, none⟩)) f).run G.P w = .ok (.pointer (some ⟨b, o + off, none⟩)) w := by
  obtain ⟨gs, fd, hu, hf, rfl, rfl, h1⟩ := yField_run hG hy
  simp only [Instr.fieldAt, Sem.run_bind, run_underlying hu, Result.andThen_ok, hf, Instr.sureAddr, Sem.run_pure, fieldPlace, hG.size h1, h1, if_false, Addr.add_lit]

theorem part_run (hG : G.Ok) {t : TypeId} (h0 : (G.ti t).size ≠ 0) {cs : List IV} {us : Array Value} {off : Nat} {av : AV} (h : RepL w M cs us.toList) (ho : ∀ x ∈ cs, x.one = true) (hc : cellsAt G t cs off = some av) :
    ∃ v x, (part t us off).run G.P w = .ok v w ∧ av = .im x ∧ Rep w M x v := by
  unfold cellsAt at hc
  unfold part
  simp only [Sem.run_bind, hG.isAgg h0, Result.andThen_ok]
  have hl : cs.length = us.size := by simpa using h.1
  split at hc
  · rename_i hk
    split at hc
    · rename_i hle
      cases hc
      refine ⟨.agg (us.extract off (off + (G.ti t).size)), _, ?_, rfl, ?_⟩
      · simp only [hk, if_true, Sem.run_bind, hG.size h0, Result.andThen_ok, Sem.run_pure]
      · refine .agg _ _ (by simp; omega) (fun x hx => ho x (List.mem_of_mem_drop (List.mem_of_mem_take hx))) (fun k x v hx hv => ?_)
        rw [List.getElem?_take] at hx
        split at hx
        · rename_i hkl
          rw [List.getElem?_drop] at hx
          refine h.2 (off + k) x v hx ?_
          rw [Array.getElem?_extract] at hv
          split at hv
          · simpa using hv
          · cases hv
        · cases hx
    · cases hc
  · rename_i hk
    split at hc
    · rename_i x hx
      cases hc
      have hlt : off < us.size := by rw [← hl]; exact (List.getElem?_eq_some_iff.1 hx).1
      refine ⟨us[off], x, ?_, rfl, h.2 off x _ hx (by simp [hlt])⟩
      simp only [hk, Bool.false_eq_true, if_false, Array.getElem?_eq_getElem hlt, Sem.run_pure]
    · cases hc

/-! ### indexAddr, index -/
theorem yIndexAddr_run (hG : G.Ok) {t : TypeId} {x av : AV} {xv : Value} {n : Int} {k : IntKind} (hx : RepA w M β toks x xv) (hy : yIndexAddr G t x n = some av) :
    ∃ v, (Instr.indexAt t xv (.int k n)).run G.P w = .ok v w ∧ RepA w M β toks av v := by
  unfold yIndexAddr at hy
  split at hy
  · cases hy
  · rename_i h0
    split at hy
    · rename_i e hk
      have hu := hG.sl h0 hk
      split at hy
      · cases hy
      · rename_i h1
        have hel : G.P.elem t = e := by simp [Program.elem, hu]
        have hu' : G.P.underlying t = some (.slice (G.P.elem t)) := by rw [hel]; exact hu
        split at hy
        · rename_i d s i m
          split at hy
          · rename_i hc
            obtain ⟨hc1, hc2, hc3⟩ := hc
            cases hy
            obtain ⟨ad, c, hmc, rfl, had⟩ := hx
            obtain ⟨b, hb, rfl⟩ := had (by omega)
            refine ⟨_, by rw [run_indexAt_slice w t _ m c k n hu', if_pos ⟨hc1, hc2⟩, hel, hG.size h1, Result.andThen_ok], b, hb, ?_⟩
            rw [Addr.add_lit, ← hc3, ← Nat.add_mul]; rfl
          · cases hy
        · rename_i x _
          split at hy
          · rename_i es hes
            have hr := sliceEls_rep hx hes
            split at hy
            · rename_i hn
              split at hy
              · rename_i c hi
                split at hy
                · rename_i hlen
                  cases hy
                  obtain ⟨b, o, cap, rfl, hp⟩ := hr.sl_at hi
                  have hlt : n.toNat < es.length := (List.getElem?_eq_some_iff.1 hi).1
                  refine ⟨_, by rw [run_indexAt_slice w t _ es.length cap k n hu', if_pos ⟨hn, by omega⟩, hel, hG.size h1, Result.andThen_ok], ?_⟩
                  rw [Addr.add_lit, ← hlen]; exact hp
                · cases hy
              · cases hy
            · cases hy
          · cases hy
    · rename_i len e hk
      have hu := hG.arr h0 hk
      have hel : G.P.elem t = e := by simp [Program.elem, hu]
      have hln : G.P.arrayLen t = len := by simp [Program.arrayLen, hu]
      have hu' : G.P.underlying t = some (.array (G.P.arrayLen t) (G.P.elem t)) := by rw [hel, hln]; exact hu
      split at hy
      · cases hy
      · rename_i h1
        split at hy
        · rename_i hc
          split at hy
          · rename_i d s i j
            cases hy
            obtain ⟨b, hb, rfl⟩ := hx
            refine ⟨_, by rw [run_indexAt_array w t _ k n hu', hln, if_pos hc, hel, hG.size h1, Result.andThen_ok], b, hb, ?_⟩
            rw [Addr.add_lit, Nat.add_assoc]
          · rename_i c j
            cases hy
            obtain ⟨b, o, rfl, hp⟩ := ip_move (k := n.toNat * (G.ti e).size) hx
            refine ⟨_, by rw [run_indexAt_array w t _ k n hu', hln, if_pos hc, hel, hG.size h1, Result.andThen_ok], ?_⟩
            rw [Addr.add_lit]; exact hp
          · cases hy
        · cases hy
    · cases hy

theorem yIndex_run (hG : G.Ok) {t : TypeId} {x av : AV} {xv : Value} {n : Int} {k : IntKind} (hx : RepA w M β toks x xv) (hy : yIndex G t x n = some av) :
    ∃ v, (Instr.index t xv (.int k n)).run G.P w = .ok v w ∧ RepA w M β toks av v := by
  unfold yIndex at hy
  split at hy
  · cases hy
  · rename_i h0
    split at hy
    · rename_i len e hk
      have hu := hG.arr h0 hk
      split at hy
      · cases hy
      · rename_i h1
        split at hy
        · rename_i hc
          split at hy
          · rename_i cs
            obtain ⟨us, rfl, hr, ho⟩ := Rep.agg_inv hx
            obtain ⟨v, x, hrun, rfl, hxr⟩ := part_run (w := w) hG h1 hr ho hy
            refine ⟨v, ?_, hxr⟩
            simp only [Instr.index, asIntOf, Sem.run_bind, Sem.run_pure, Result.andThen_ok, run_underlying hu, hc, and_self, if_true, hG.size h1, hrun]
          · cases hy
        · cases hy
    · rename_i hk
      have hu := hG.str h0 hk
      split at hy
      · rename_i s
        split at hy
        · rename_i hn
          split at hy
          · rename_i b hb
            cases hy
            obtain rfl := Rep.sc_inv hx
            refine ⟨_, ?_, Rep.sc _ rfl⟩
            simp only [Instr.index, asIntOf, Sem.run_bind, Sem.run_pure, Result.andThen_ok, run_underlying hu, hn, if_true, hb]
          · cases hy
        · cases hy
      · cases hy
    · cases hy
end
end Go.Abs

namespace Go.Abs
set_option linter.all false
open Go.RowKit (Below)

section
variable {G : Ctx} {N : Nat} {w0 w : World} {M M0 : Nat → Nat → Prop} {β : Nat → Option Nat} {st : St} {a : Act} {toks : List (Nat × Nat × Nat)} {av : AV} {v : Value}

/-! ### literals -/
theorem ofZV_rep {z : Value} (h : ofZV z ≠ .no) : Rep w M (ofZV z).iv z ∧ (ofZV z).iv.one = true := by
  unfold ofZV at h ⊢
  split at h
  · exact ⟨.sc _ rfl, rfl⟩
  · exact ⟨.sc _ rfl, rfl⟩
  · rename_i s
    split at h
    · rename_i hs
      simp only [hs, if_true]
      have : s = ByteArray.empty := by
        obtain ⟨⟨l⟩⟩ := s
        have : l = [] := List.eq_nil_of_length_eq_zero hs
        subst this; rfl
      subst this
      exact ⟨.sc _ rfl, rfl⟩
    · exact absurd rfl h
  · exact ⟨.nil _ _, rfl⟩
  · exact absurd rfl h
theorem zero_rep : ∀ (vs : List Value), (vs.map ofZV).contains .no = false → RepL w M ((vs.map ofZV).map ZC.iv) vs ∧ ∀ x ∈ (vs.map ofZV).map ZC.iv, x.one = true
  | [], _ => ⟨RepL.nil, by simp⟩
  | v :: vs, h => by
    simp only [List.map_cons, List.contains_cons, Bool.or_eq_false_iff] at h
    obtain ⟨h1, h2⟩ := zero_rep vs h.2
    have h3 : ofZV v ≠ .no := fun e => by rw [e] at h; simp at h
    obtain ⟨h4, h5⟩ := ofZV_rep (w := w) (M := M) h3
    exact ⟨RepL.cons h4 h1, by simpa [h5] using h2⟩
theorem zeroIV_run (hG : G.Ok) {t : TypeId} {z : List IV} (h : zeroIV G t = some z) (w : World) (M : Nat → Nat → Prop) :
    ∃ zv, (zeroValue t).run G.P w = .ok zv w ∧ RepL w M z zv.cells.toList ∧ (∀ x ∈ z, x.one = true) ∧ (G.ti t).size ≠ 0 ∧ zv.cells.size = (G.ti t).size := by
  unfold zeroIV at h
  split at h
  · cases h
  · rename_i h0
    split at h
    · cases h
    · rename_i hn
      cases h
      obtain ⟨i, zv, hi, _, _, hz, hzz, hsz⟩ := hG.info h0
      rw [← hzz] at hn ⊢
      obtain ⟨h1, h2⟩ := zero_rep (w := w) (M := M) zv.cells.toList (by simpa using hn)
      exact ⟨zv, by simp [zeroValue, typeInfo, hi, hz], h1, h2, h0, hsz⟩

theorem ivParts_rep (h : Sim N w0 M0 β st a w) : ∀ {ps : List (Nat × Operand)} {qs : List (Nat × IV)}, ivParts st ps = some qs → RepP w (Mo M0 β st) qs (ps.map fun p => (p.1, a.eval p.2))
  | [], qs, hq => by cases hq; exact ⟨rfl, fun k p q hp => by simp at hp⟩
  | (i, x) :: r, qs, hq => by
    unfold ivParts at hq
    split at hq
    · rename_i y ys h1 h2
      cases hq
      have ih := ivParts_rep h h2
      refine ⟨by simp [ih.1], fun k p q hp hq => ?_⟩
      cases k with
      | zero =>
        simp at hp hq
        subst hp; subst hq
        exact ⟨rfl, ivOf_rep (evO_rep h x) h1⟩
      | succ k => exact ih.2 k p q (by simpa using hp) (by simpa using hq)
    · cases hq

theorem mapM_run {α β : Type} {P : Program} {w : World} (f : α → Sem β) (g : α → β) : ∀ (l : List α), (∀ x ∈ l, (f x).run P w = .ok (g x) w) → (l.mapM f).run P w = .ok (l.map g) w
  | [], _ => rfl
  | x :: l, h => by
    rw [List.mapM_cons, Sem.run_bind, h x (by simp), Result.andThen_ok, Sem.run_bind, mapM_run f g l (fun y hy => h y (by simp [hy])), Result.andThen_ok]
    rfl

theorem yBuild_run (hG : G.Ok) {t : TypeId} {ps : List (Nat × IV)} {qs : Array (Nat × Value)} (hp : RepP w M ps qs.toList) (hy : yBuild G t ps = some av) :
    ∃ v, (Instr.build t qs).run G.P w = .ok v w ∧ RepA w M β toks av v := by
  unfold yBuild at hy
  split at hy
  · cases hy
  · rename_i z hz
    obtain ⟨zv, hzr, hz1, hz2, h0, _⟩ := zeroIV_run hG hz w M
    split at hy
    · rename_i fs hk
      obtain ⟨gs, hu, hgs⟩ := hG.st h0 hk
      split at hy
      · rename_i hall
        split at hy
        · rename_i cs hf
          cases hy
          have hpl : (gs.mapM fun f => do pure (f.offset, ← sizeOf f.type) : Sem (Array (Nat × Nat))).run G.P w = .ok (gs.map fun f => (f.offset, (G.ti f.type).size)) w := by
            rw [Array.mapM_eq_mapM_toList, Sem.run_map, mapM_run _ (fun f => (f.offset, (G.ti f.type).size)) gs.toList (fun f hf' => ?_)]
            · simp only [Result.andThen]
              congr 1
              apply Array.ext'
              simp
            · have : (G.ti f.type).size ≠ 0 := by
                have := List.all_eq_true.1 hall (f.offset, f.type) (by rw [← hgs]; exact List.mem_map_of_mem hf')
                simpa using this
              simp [hG.size this]
          have hpe : (fun i => (gs.map fun f => (f.offset, (G.ti f.type).size))[i]?) = structPlace G fs := by
            funext i
            unfold structPlace
            rw [← hgs, List.getElem?_map]
            simp
            cases gs[i]? <;> rfl
          obtain ⟨ws, h1, h2, h3, _⟩ := fill_rep (w := w) (M := M) (structPlace G fs) ps qs.toList z zv.cells cs hp hz1 hz2 hf
          refine ⟨.agg ws, ?_, RepL.agg h2 h3⟩
          simp only [Instr.build, Sem.run_bind, hzr, Result.andThen_ok, run_underlying hu]
          rw [hpl, Result.andThen_ok, hpe, h1]
          rfl
        · cases hy
      · cases hy
    · rename_i n e hk
      have hu := hG.arr h0 hk
      split at hy
      · cases hy
      · rename_i h1
        split at hy
        · rename_i cs hf
          cases hy
          obtain ⟨ws, h4, h2, h3, _⟩ := fill_rep (w := w) (M := M) _ ps qs.toList z zv.cells cs hp hz1 hz2 hf
          refine ⟨.agg ws, ?_, RepL.agg h2 h3⟩
          simp only [Instr.build, Sem.run_bind, hzr, Result.andThen_ok, run_underlying hu, hG.size h1, h4, Sem.run_pure]
        · cases hy
    · cases hy

/-! ### buildSlice -/
theorem setCells_mid : ∀ (xs A B : List IV), xs.length ≤ B.length → setCells (A ++ B) A.length xs = A ++ xs ++ B.drop xs.length
  | [], A, B, _ => by simp [setCells]
  | x :: xs, A, [], h => by simp at h
  | x :: xs, A, b :: B, h => by
    have e : (A ++ b :: B).set A.length x = (A ++ [x]) ++ B := by simp
    rw [setCells, e]
    have := setCells_mid xs (A ++ [x]) B (by simpa using h)
    simp only [List.length_append, List.length_singleton] at this
    rw [this]; simp
theorem fullEls_fill (s : Nat) (hs : s ≠ 0) : ∀ (ps : List (Nat × IV)) (k : Nat) (es : List (List IV)) (A B : List IV), fullEls s k ps = some es → A.length = k * s → B.length = es.length * s →
    fillA (fun i => some (i * s, s)) (A ++ B) ps = some (A ++ es.flatten) ∧ (∀ e ∈ es, e.length = s)
  | [], k, es, A, B, h, hA, hB => by
    simp only [fullEls, Option.some.injEq] at h
    subst h
    have : B = [] := List.eq_nil_of_length_eq_zero (by simpa using hB)
    subst this
    exact ⟨by simp [fillA], by simp⟩
  | (i, x) :: r, k, es, A, B, h, hA, hB => by
    unfold fullEls at h
    split at h
    · rename_i hc
      obtain ⟨rfl, hl, ho⟩ := hc
      split at h
      · rename_i es' hes
        cases h
        have hBs : s ≤ B.length := by rw [hB]; simp only [List.length_cons, Nat.add_mul, Nat.one_mul]; omega
        have hcond : (cellsOf x).length = s ∧ i * s + s ≤ (A ++ B).length ∧ (cellsOf x).all IV.one = true := ⟨hl, by simp [hA]; omega, ho⟩
        have hset : setCells (A ++ B) (i * s) (cellsOf x) = (A ++ cellsOf x) ++ B.drop s := by
          rw [← hA, setCells_mid _ _ _ (by omega), hl]
        obtain ⟨h1, h2⟩ := fullEls_fill s hs r (i + 1) es' (A ++ cellsOf x) (B.drop s) hes (by simp [hA, hl, Nat.add_mul]) (by
          simp only [List.length_drop, hB, List.length_cons, Nat.add_mul, Nat.one_mul]; omega)
        refine ⟨?_, by simpa [hl] using h2⟩
        simp only [fillA, hcond, and_self, if_true, hset, h1]
        simp
      · cases h
    · cases h
theorem flatten_at {α : Type} {s : Nat} : ∀ {es : List (List α)} {i j : Nat} {e : List α} {x : α}, (∀ e ∈ es, e.length = s) → es[i]? = some e → e[j]? = some x → es.flatten[i * s + j]? = some x
  | [], i, j, e, x, _, hi, _ => by simp at hi
  | e0 :: es, i, j, e, x, hs, hi, hj => by
    have h0 : e0.length = s := hs e0 (by simp)
    cases i with
    | zero =>
      simp at hi; subst hi
      have hjl : j < e0.length := (List.getElem?_eq_some_iff.1 hj).1
      simp [List.getElem?_append_left hjl, hj]
    | succ i =>
      simp only [List.flatten_cons]
      rw [List.getElem?_append_right (by rw [h0, Nat.add_mul]; omega)]
      have : (i + 1) * s + j - e0.length = i * s + j := by rw [h0, Nat.add_mul]; omega
      rw [this]
      exact flatten_at (fun e he => hs e (by simp [he])) (by simpa using hi) hj

theorem zeros_rep {zs : List IV} {zv : Array Value} (h : RepL w M zs zv.toList) (ho : ∀ x ∈ zs, x.one = true) (hne : zv.size ≠ 0) (n : Nat) :
    ∃ B : List IV, B.length = n ∧ RepL w M B ((Array.range n).map (fun i => zv[i % zv.size]!)).toList ∧ ∀ x ∈ B, x.one = true := by
  have hl : zs.length = zv.size := by simpa using h.1
  refine ⟨(List.range n).map fun i => zs.getD (i % zs.length) default, by simp, ⟨by simp, fun k x v hx hv => ?_⟩, fun x hx => ?_⟩
  · simp only [List.getElem?_map] at hx
    obtain ⟨k', hk', rfl⟩ := Option.map_eq_some_iff.1 hx
    have hkn : k < n := by have := (List.getElem?_eq_some_iff.1 hk').1; simpa using this
    obtain rfl : k = k' := by simpa [hkn] using hk'
    have hm : k % zv.size < zv.size := Nat.mod_lt _ (by omega)
    have hv' : v = zv[k % zv.size]! := by simp [hkn] at hv; exact hv.symm
    subst hv'
    rw [hl]
    have hg : zs.getD (k % zv.size) default = zs[k % zv.size]'(by omega) := by simp [List.getD, hl, hm]
    rw [hg]
    refine h.2 (k % zv.size) _ _ (List.getElem?_eq_getElem _) ?_
    simp [hm]
  · obtain ⟨i, _, rfl⟩ := List.mem_map.1 hx
    have hm : i % zs.length < zs.length := Nat.mod_lt _ (by omega)
    have : zs.getD (i % zs.length) default = zs[i % zs.length] := by simp [List.getD, hm]
    rw [this]; exact ho _ (List.getElem_mem hm)

theorem yBuildSlice_run (hG : G.Ok) {t : TypeId} {len : Nat} {ps : List (Nat × IV)} {qs : Array (Nat × Value)} (hM : ∀ b o, M b o → b < w.heap.size) (hp : RepP w M ps qs.toList) (hy : yBuildSlice G t len ps = some av) :
    ∃ v w', (Instr.buildSlice t len qs).run G.P w = .ok v w' ∧ Below w.heap.size w w' ∧ RepA w' M β toks av v := by
  unfold yBuildSlice at hy
  split at hy
  · cases hy
  · rename_i h0
    split at hy
    · rename_i e hk
      have hu := hG.sl h0 hk
      split at hy
      · cases hy
      · rename_i z hz
        obtain ⟨zv, hzr, hz1, hz2, h1, hzs⟩ := zeroIV_run hG hz w M
        split at hy
        · rename_i es hes
          split at hy
          · rename_i hc
            obtain ⟨hlen, h24⟩ := hc
            cases hy
            subst hlen
            by_cases hnil : es.length * (G.ti e).size = 0
            · have he : es = [] := by
                rcases Nat.mul_eq_zero.1 hnil with h | h
                · exact List.eq_nil_of_length_eq_zero h
                · exact absurd h h1
              subst he
              have hps : ps = [] := by
                cases ps with
                | nil => rfl
                | cons p r =>
                  obtain ⟨i, x⟩ := p
                  unfold fullEls at hes
                  split at hes
                  · split at hes <;> cases hes
                  · cases hes
              subst hps
              have hqs : qs.toList = [] := List.eq_nil_of_length_eq_zero hp.1.symm
              refine ⟨.slice (some ⟨w.heap.size, 0, none⟩) 0 0, w.alloc (.cells #[] e), ?_, (Below.refl _ _).alloc (Nat.le_refl _) _, .nil _ _, _, rfl⟩
              simp [Instr.buildSlice, run_underlying hu, hG.size h1, hqs, Instr.fill, newRow, Array.range_zero']
            · have hne : zv.cells.size ≠ 0 := by omega
              obtain ⟨B, hBl, hBr, hB1⟩ := zeros_rep hz1 hz2 hne (es.length * (G.ti e).size)
              obtain ⟨hf, hall⟩ := fullEls_fill (G.ti e).size h1 ps 0 es [] B hes (by simp) hBl
              simp only [List.nil_append] at hf
              obtain ⟨ws, h4, h5, h6, h7⟩ := fill_rep (w := w) (M := M) _ ps qs.toList B _ es.flatten hp hBr hB1 hf
              have hnot : ¬ (es.length * (G.ti e).size > 2 ^ 24) := by
                have : (2 : Nat) ^ 24 = 16777216 := by decide
                omega
              refine ⟨.slice (some ⟨w.heap.size, 0, none⟩) es.length es.length, w.alloc (.cells ws e), ?_, (Below.refl _ _).alloc (Nat.le_refl _) _, ?_, _, rfl⟩
              · simp only [Instr.buildSlice, Sem.run_bind, run_underlying hu, Result.andThen_ok, hG.size h1, hnot, if_false, Sem.run_pure, hnil, hzr, h4, newRow, run_newObj, World.alloc_eq]
              · have hk : Kept w M (w.alloc (.cells ws e)) M := Below.kept ((Below.refl _ _).alloc (Nat.le_refl _) _)
                have hes' : es ≠ [] := fun h => by subst h; simp at hnil
                refine Rep.sl es (G.ti e).size w.heap.size 0 es.length (fun i j => ws.getD (i * (G.ti e).size + j) undef) hes' hall (Nat.le_refl _) ?_ ?_
                · intro i e' j x hi hj
                  have hx := flatten_at hall hi hj
                  have hlt : i * (G.ti e).size + j < ws.size := by
                    have := h5.1; have := (List.getElem?_eq_some_iff.1 hx).1; simp at this; simp at *; omega
                  refine ⟨h6 x (List.mem_of_getElem? hx), ?_, fun hm => absurd (hM _ _ hm) (by omega)⟩
                  rw [World.cell?_alloc_new]; simp [hlt]
                · intro i e' j x hi hj
                  have hx := flatten_at hall hi hj
                  have hlt : i * (G.ti e).size + j < ws.size := by
                    have := h5.1; have := (List.getElem?_eq_some_iff.1 hx).1; simp at this; simp at *; omega
                  exact (h5.2 _ x _ hx (by simp [hlt])).kept hk
          · cases hy
        · cases hy
    · cases hy
end
end Go.Abs

namespace Go.Abs
set_option linter.all false
open Go.RowKit (Below)

section
variable {G : Ctx} {N : Nat} {w0 w : World} {M M0 : Nat → Nat → Prop} {β : Nat → Option Nat} {st : St} {a : Act} {toks : List (Nat × Nat × Nat)} {av : AV} {v : Value}

theorem bnd_rep {lo : Option AV} {lv : Option Value} {d : Nat} {n : Int} (h : ∀ x, lo = some x → ∃ v, lv = some v ∧ RepA w M β toks x v) (hn : lo = none → lv = none) (hb : bnd lo d = some n) :
    (lv = none ∧ n = d) ∨ ∃ k, lv = some (.int k n) := by
  unfold bnd at hb
  split at hb
  · cases hb; exact .inl ⟨hn rfl, rfl⟩
  · rename_i k n'
    cases hb
    obtain ⟨v, hv, hr⟩ := h _ rfl
    obtain rfl := Rep.sc_inv hr
    exact .inr ⟨k, hv⟩
  · cases hb

theorem sliceBounds_run {P : Program} {lv hv : Option Value} {l h : Int} {len cap : Nat} (hl : (lv = none ∧ l = 0) ∨ ∃ k, lv = some (.int k l)) (hh : (hv = none ∧ h = (len : Int)) ∨ ∃ k, hv = some (.int k h))
    (h0 : 0 ≤ l) (h1 : l ≤ h) (h2 : h ≤ (len : Int)) (hc : len ≤ cap) : (Instr.sliceBounds true len cap lv hv none).run P w = .ok (l.toNat, h.toNat, cap) w := by
  have eh : (h.toNat : Int) = h := Int.toNat_of_nonneg (by omega)
  have hb1 : ∀ k code, (Instr.sliceBound (.int k h) cap code).run P w = .ok h.toNat w := fun k code => run_sliceBound w k h cap code (by omega) (by omega)
  have hb2 : ∀ k code, (Instr.sliceBound (.int k l) h.toNat code).run P w = .ok l.toNat w := fun k code => run_sliceBound w k l _ code h0 (by omega)
  have hb3 : ∀ k code, (Instr.sliceBound (.int k l) len code).run P w = .ok l.toNat w := fun k code => run_sliceBound w k l _ code h0 (by omega)
  rcases hl with ⟨rfl, rfl⟩ | ⟨k, rfl⟩ <;> rcases hh with ⟨rfl, rfl⟩ | ⟨k', rfl⟩ <;> simp [Instr.sliceBounds, hb1, hb2, hb3]

theorem Rep.sl_cut {es : List (List IV)} {a : Option Addr} {c l n s : Nat} (h : Rep w M (.sl es) (.slice a es.length c)) (hln : l + n ≤ es.length) (hc : es.length ≤ c) (hs : ∀ e ∈ es, e.length = s) :
    Rep w M (.sl ((es.drop l).take n)) (.slice (if c = l then a else a.map (·.add (l * s))) n (c - l)) := by
  by_cases hn : n = 0
  · subst hn
    simp only [List.take_zero]
    exact .nil _ _
  · rcases h.sl_inv with ⟨rfl, _⟩ | ⟨s', b, o, cap, u, hne, hs', hcap, h4, h5, he⟩
    · simp at hln; omega
    · simp only [Value.slice.injEq, true_and] at he
      obtain ⟨rfl, rfl⟩ := he
      have hss : s = s' := by
        cases es with
        | nil => exact absurd rfl hne
        | cons e es => rw [← hs e (by simp), hs' e (by simp)]
      subst hss
      rw [if_neg (by omega)]
      simp only [Option.map_some, Addr.add_lit]
      have hlen : ((es.drop l).take n).length = n := by simp; omega
      have hget : ∀ i e, ((es.drop l).take n)[i]? = some e → es[l + i]? = some e := fun i e hi => by
        rw [List.getElem?_take] at hi
        split at hi
        · rwa [List.getElem?_drop] at hi
        · cases hi
      have := Rep.sl (w := w) (M := M) ((es.drop l).take n) s b (o + l * s) (c - l) (fun i j => u (l + i) j) (fun h => by rw [h] at hlen; simp at hlen; omega)
        (fun e he => hs e (List.mem_of_mem_drop (List.mem_of_mem_take he))) (by omega)
        (fun i e j x hi hj => by
          have := h4 (l + i) e j x (hget i e hi) hj
          rw [Nat.add_mul, ← Nat.add_assoc] at this
          exact this)
        (fun i e j x hi hj => h5 (l + i) e j x (hget i e hi) hj)
      rw [hlen] at this
      exact this

theorem ySlice_run (hG : G.Ok) {t : TypeId} {x av : AV} {xv : Value} {lo hi : Option AV} {lv hv : Option Value} (hx : RepA w M β toks x xv)
    (hlo : ∀ x, lo = some x → ∃ v, lv = some v ∧ RepA w M β toks x v) (hlo0 : lo = none → lv = none) (hhi : ∀ x, hi = some x → ∃ v, hv = some v ∧ RepA w M β toks x v) (hhi0 : hi = none → hv = none)
    (hy : ySlice G t x lo hi = some av) : ∃ v, (Instr.sliceAt t xv lv hv none).run G.P w = .ok v w ∧ RepA w M β toks av v := by
  unfold ySlice at hy
  split at hy
  · cases hy
  · rename_i h0
    split at hy
    · rename_i e hk
      have hu := hG.sl h0 hk
      split at hy
      · cases hy
      · rename_i h1
        have hel : G.P.elem t = e := by simp [Program.elem, hu]
        have hu' : G.P.underlying t = some (.slice (G.P.elem t)) := by rw [hel]; exact hu
        split at hy
        · rename_i d s i m
          split at hy
          · rename_i l h hbl hbh
            split at hy
            · rename_i hc
              obtain ⟨hc1, hc2, hc3, hc4⟩ := hc
              cases hy
              obtain ⟨ad, c, hmc, rfl, had⟩ := hx
              have hrb := sliceBounds_run (P := G.P) (w := w) (cap := c) (len := m) (bnd_rep hlo hlo0 hbl) (bnd_rep hhi hhi0 hbh) hc1 hc2 hc3 hmc
              refine ⟨sliced ad l.toNat h.toNat c (G.ti e).size, ?_, ?_⟩
              · rw [run_sliceAt_slice w t _ _ _ _ hu', run_slice_any w t ad m c hu', hrb]
                simp only [Result.andThen_ok, hel, hG.size h1]
              · refine ⟨if c = l.toNat then ad else ad.map (·.add (l.toNat * (G.ti e).size)), c - l.toNat, by omega, ?_, ?_⟩
                · show sliced ad l.toNat h.toNat c (G.ti e).size = _
                  have : (h - l).toNat = h.toNat - l.toNat := by omega
                  rw [this]; rfl
                · intro hne
                  obtain ⟨b, hb, rfl⟩ := had (by omega)
                  refine ⟨b, hb, ?_⟩
                  rw [if_neg (by omega)]
                  simp only [Option.map_some, Addr.add_lit, ← hc4, ← Nat.add_mul]
            · cases hy
          · cases hy
        · rename_i x _
          split at hy
          · rename_i es hes
            have hr := sliceEls_rep hx hes
            split at hy
            · rename_i l h hbl hbh
              split at hy
              · rename_i hc
                obtain ⟨hc1, hc2, hc3, hc4⟩ := hc
                cases hy
                obtain ⟨a, c, rfl, hcap⟩ := hr.sl_len
                have hrb := sliceBounds_run (P := G.P) (w := w) (cap := c) (len := es.length) (bnd_rep hlo hlo0 hbl) (bnd_rep hhi hhi0 hbh) hc1 hc2 hc3 hcap
                refine ⟨sliced a l.toNat h.toNat c (G.ti e).size, ?_, ?_⟩
                · rw [run_sliceAt_slice w t _ _ _ _ hu', run_slice_any w t a es.length c hu', hrb]
                  simp only [Result.andThen_ok, hel, hG.size h1]
                · exact hr.sl_cut (by omega) hcap (fun e he => by simpa using List.all_eq_true.1 hc4 e he)
              · cases hy
            · cases hy
          · cases hy
    · cases hy

theorem yLen_run (hG : G.Ok) {t ty : TypeId} {x av : AV} {xv : Value} (hx : RepA w M β toks x xv) (hy : yLen G t x = some av) :
    ∃ v, (Builtin.len_ #[t] ty #[xv]).run G.P w = .ok v w ∧ RepA w M β toks av v := by
  unfold yLen at hy
  split at hy
  · cases hy
  · rename_i h0
    split at hy
    · rename_i e hk
      have hu := hG.sl h0 hk
      split at hy
      · cases hy
        obtain ⟨_, c, _, rfl, _⟩ := hx
        exact ⟨_, by simp [Builtin.len_, run_underlying hu, goInt], Rep.sc _ rfl⟩
      · split at hy
        · rename_i es hes
          cases hy
          obtain ⟨a, c, rfl, _⟩ := (sliceEls_rep hx hes).sl_len
          exact ⟨_, by simp [Builtin.len_, run_underlying hu, goInt], Rep.sc _ rfl⟩
        · cases hy
    · rename_i hk
      have hu := hG.str h0 hk
      split at hy
      · cases hy
        obtain rfl := Rep.sc_inv hx
        exact ⟨_, by simp [Builtin.len_, run_underlying hu, goInt], Rep.sc _ rfl⟩
      · cases hy
    · cases hy

theorem scs_rep (h : Sim N w0 M0 β st a w) : ∀ {xs : List Operand} {vs : List Value}, scs (xs.map (evO st)) = some vs → xs.map a.eval = vs ∧ ∀ v ∈ vs, plainV v = true
  | [], vs, hq => by cases hq; exact ⟨rfl, by simp⟩
  | x :: r, vs, hq => by
    simp only [List.map_cons] at hq
    unfold scs at hq
    split at hq
    · rename_i h1; cases h1
    · rename_i v r' h1
      simp only [List.cons.injEq] at h1
      obtain ⟨h1, rfl⟩ := h1
      split at hq
      · rename_i vs' hvs
        cases hq
        obtain ⟨h2, h3⟩ := scs_rep h hvs
        have hr := evO_rep h x
        rw [h1] at hr
        have hv : a.eval x = v := Rep.sc_inv hr
        have hp : plainV v = true := by cases hr with | sc _ hp => exact hp
        exact ⟨by simp [hv, h2], by simpa [hp] using h3⟩
      · cases hq
    · cases hq

theorem ivsOf_rep (h : Sim N w0 M0 β st a w) : ∀ {xs : List Operand} {ys : List IV}, ivsOf (xs.map (evO st)) = some ys → RepL w (Mo M0 β st) ys (xs.map a.eval)
  | [], ys, hq => by cases hq; exact RepL.nil
  | x :: r, ys, hq => by
    simp only [List.map_cons] at hq
    unfold ivsOf at hq
    split at hq
    · rename_i y ys' h1 h2
      cases hq
      exact RepL.cons (ivOf_rep (evO_rep h x) h1) (ivsOf_rep h h2)
    · cases hq

theorem yv_run (hG : G.Ok) (h : Sim N w0 M0 β st a w) {o : Oper} (hy : yv G st o = some av) :
    ∃ v w', (execOp a.eval o).run G.P w = .ok (.value v) w' ∧ Below w.heap.size w w' ∧ RepA w' (Mo M0 β st) β st.toks av v := by
  have same : ∀ {s : Sem Value} {v : Value}, s.run G.P w = .ok v w → RepA w (Mo M0 β st) β st.toks av v →
      ∃ v w', (do pure (.value (← s)) : Sem Next).run G.P w = .ok (.value v) w' ∧ Below w.heap.size w w' ∧ RepA w' (Mo M0 β st) β st.toks av v :=
    fun {s v} h1 h2 => ⟨v, w, by simp [h1], Below.refl _ _, h2⟩
  have ev := evO_rep h
  unfold yv at hy
  unfold execOp
  split at hy <;> rename_i ho <;> first | (rw [ho]; simp only) | (cases hy; done)
  · cases hy; exact ⟨_, w, rfl, Below.refl _ _, ev _⟩
  · cases hy; exact ⟨_, w, rfl, Below.refl _ _, ev _⟩
  · -- pick
    rename_i c x y
    split at hy
    · rename_i t hc
      cases hy
      have := ev c; rw [hc] at this
      have hcv := Rep.sc_inv this
      refine ⟨if t = true then a.eval x else a.eval y, w, ?_, Below.refl _ _, ?_⟩
      · rw [hcv]; cases t <;> simp [asBool]
      · cases t
        · exact ev y
        · exact ev x
    · cases hy
  · -- binOp
    rename_i op t x y yt
    split at hy
    · rename_i u v hx hy'
      split at hy
      · rename_i r hr
        cases hy
        have hx2 := ev x; rw [hx] at hx2
        have hy2 := ev y; rw [hy'] at hy2
        have e1 := Rep.sc_inv hx2; have e2 := Rep.sc_inv hy2
        obtain ⟨h1, h2, _⟩ := scBin_run hG hr x y w
        refine same (v := r) ?_ (Rep.sc _ h2)
        rw [e1, e2]; exact h1
      · cases hy
    · rename_i xs ys hx hy'
      split at hy
      · rename_i r hr
        cases hy
        have hx2 := ev x; rw [hx] at hx2
        have hy2 := ev y; rw [hy'] at hy2
        obtain ⟨us, e1, hu, _⟩ := Rep.agg_inv hx2
        obtain ⟨vs, e2, hv, _⟩ := Rep.agg_inv hy2
        obtain ⟨h1, h2, _⟩ := aggBin_run hG hr hu hv x y
        refine same (v := r) ?_ (Rep.sc _ h2)
        rw [e1, e2]; exact h1
      · cases hy
    · cases hy
  · -- unOp
    rename_i op t x
    split at hy
    · rename_i u hx
      split at hy
      · rename_i r hr
        cases hy
        have hx2 := ev x; rw [hx] at hx2
        have e1 := Rep.sc_inv hx2
        obtain ⟨h1, h2, _⟩ := scUn_run (P := G.P) hr w
        refine same (v := r) ?_ (Rep.sc _ h2)
        rw [e1]; exact h1
      · cases hy
    · cases hy
  · -- nilCheck
    rename_i x
    split at hy
    · rename_i cs j hx
      cases hy
      have hx2 := ev x; rw [hx] at hx2
      obtain ⟨b, o', u, e, _⟩ := ip_inv hx2
      rw [e] at hx2 ⊢
      exact ⟨_, w, rfl, Below.refl _ _, hx2⟩
    · rename_i f cs hx
      cases hy
      have hx2 := ev x; rw [hx] at hx2
      obtain ⟨vs, e, _⟩ := Rep.clo_inv hx2
      rw [e] at hx2 ⊢
      exact ⟨_, w, rfl, Below.refl _ _, hx2⟩
    · rename_i d s i j hx
      cases hy
      have hx2 := ev x; rw [hx] at hx2
      obtain ⟨b, hb, e⟩ := hx2
      rw [e]
      exact ⟨_, w, rfl, Below.refl _ _, b, hb, rfl⟩
    · cases hy
  · -- load
    rename_i t p
    obtain ⟨v, h1, h2⟩ := yLoad_run hG h (ev p) hy
    exact same h1 h2
  · -- fieldAddr
    rename_i t x f
    split at hy
    · rename_i off ty hf
      split at hy
      · rename_i c j hx
        cases hy
        have hx2 := ev x; rw [hx] at hx2
        obtain ⟨b, o', e, hm⟩ := ip_move (k := off) hx2
        rw [e]
        exact same (fieldAt_run hG hf b o') hm
      · rename_i d s i j hx
        cases hy
        have hx2 := ev x; rw [hx] at hx2
        obtain ⟨b, hb, e⟩ := hx2
        rw [e]
        exact same (fieldAt_run hG hf b _) ⟨b, hb, by rw [Nat.add_assoc]⟩
      · cases hy
    · cases hy
  · -- field
    rename_i t x f
    split at hy
    · rename_i off ty hf
      split at hy
      · rename_i cs hx
        have hx2 := ev x; rw [hx] at hx2
        obtain ⟨us, e1, hu, hone⟩ := Rep.agg_inv hx2
        obtain ⟨gs, fd, hu2, hf2, rfl, rfl, h1⟩ := yField_run hG hf
        obtain ⟨v, y, hr, rfl, hyr⟩ := part_run (w := w) hG h1 hu hone hy
        rw [e1]
        refine same (v := v) ?_ hyr
        simp only [Instr.field, Sem.run_bind, run_underlying hu2, Result.andThen_ok, hf2, asAgg, Sem.run_pure, hr]
      · cases hy
    · cases hy
  · -- indexAddr
    rename_i t x i
    split at hy
    · rename_i k n hi
      have hi2 := ev i; rw [hi] at hi2
      rw [Rep.sc_inv hi2]
      obtain ⟨v, h1, h2⟩ := yIndexAddr_run (w := w) (k := k) hG (ev x) hy
      exact same h1 h2
    · cases hy
  · -- index
    rename_i t x i
    split at hy
    · rename_i k n hi
      have hi2 := ev i; rw [hi] at hi2
      rw [Rep.sc_inv hi2]
      obtain ⟨v, h1, h2⟩ := yIndex_run (w := w) (k := k) hG (ev x) hy
      exact same h1 h2
    · cases hy
  · -- extract
    rename_i x k
    split at hy
    · rename_i vs hx
      split at hy
      · rename_i y hyk
        cases hy
        have hx2 := ev x; rw [hx] at hx2
        obtain ⟨us, e1, hu⟩ := Rep.tup_inv hx2
        have hlt : k < us.size := by have := hu.1; have := (List.getElem?_eq_some_iff.1 hyk).1; simp at *; omega
        rw [e1]
        refine same (v := us[k]) ?_ (hu.2 k y _ hyk (by simp [hlt]))
        simp [Instr.extract, hlt]
      · cases hy
    · cases hy
  · -- build
    rename_i t ps
    split at hy
    · rename_i qs hq
      have hp := ivParts_rep h hq
      obtain ⟨v, h1, h2⟩ := yBuild_run (G := G) (w := w) (M := Mo M0 β st) (β := β) (toks := st.toks) (qs := ps.map fun p => (p.1, a.eval p.2)) hG (by simpa using hp) hy
      exact same h1 h2
    · cases hy
  · -- buildSlice
    rename_i t len ps
    split at hy
    · rename_i qs hq
      have hp := ivParts_rep h hq
      obtain ⟨v, w', h1, h2, h3⟩ := yBuildSlice_run (G := G) (w := w) (M := Mo M0 β st) (β := β) (toks := st.toks) (qs := ps.map fun p => (p.1, a.eval p.2)) hG (fun b o hm => h.mlt hm) (by simpa using hp) hy
      exact ⟨v, w', by simp [h1], h2, h3⟩
    · cases hy
  · -- convert
    rename_i src dst x
    split at hy
    · cases hy
    · rename_i hc
      split at hy
      · rename_i k k' n hk hx
        cases hy
        have hx2 := ev x; rw [hx] at hx2
        rw [Rep.sc_inv hx2]
        have hd : (G.ti dst).size ≠ 0 := fun e => hc (.inr e)
        have hs : (G.ti src).size ≠ 0 := fun e => hc (.inl e)
        have hud := hG.it hd hk
        have hus : ∃ d, G.P.underlying src = some d := by
          have := hG.kind hs
          unfold TK.okB at this
          cases hsu : G.P.underlying src with
          | some d => exact ⟨d, rfl⟩
          | none => rw [hsu] at this; split at this <;> simp_all
        obtain ⟨d, hus⟩ := hus
        refine same (v := .int k (k.wrap n)) ?_ (Rep.sc _ rfl)
        simp [convert, run_underlying hud, run_underlying hus, Conv.intToInt]
      · cases hy
  · -- slice
    rename_i t x lo hi mx
    split at hy
    · cases hy
    · rename_i hm
      have hmx : mx = none := by cases mx <;> simp_all
      subst hmx
      obtain ⟨v, h1, h2⟩ := ySlice_run (G := G) (w := w) hG (ev x) (lv := lo.map a.eval) (hv := hi.map a.eval)
        (fun y hy => by obtain ⟨o', ho', rfl⟩ := Option.map_eq_some_iff.1 hy; exact ⟨_, by rw [ho']; rfl, ev o'⟩) (fun h => by cases lo <;> simp_all)
        (fun y hy => by obtain ⟨o', ho', rfl⟩ := Option.map_eq_some_iff.1 hy; exact ⟨_, by rw [ho']; rfl, ev o'⟩) (fun h => by cases hi <;> simp_all) hy
      exact same h1 h2
  · -- makeFunc
    rename_i fn first caps
    split at hy
    · rename_i f
      split at hy
      · rename_i h0
        split at hy
        · rename_i xs hxs
          cases hy
          have hr := ivsOf_rep h hxs
          have hf0 : first = #[] := Array.eq_empty_of_size_eq_zero h0
          subst hf0
          refine same (v := .func (.func f) #[] (caps.map a.eval)) (by simp [Instr.makeFunc]) ?_
          exact .clo f xs _ (by have := hr.1; simpa using this) fun k x v hx hv => hr.2 k x v hx (by simpa using hv)
        · cases hy
      · cases hy
    · cases hy
  · -- call
    rename_i c
    split at hy
    · rename_i b hb
      split at hy
      · -- len
        split at hy
        · rename_i t x ht hx
          have hat : c.argTypes = #[t] := by apply Array.ext'; simpa using ht
          have hax : c.args = #[x] := by apply Array.ext'; simpa using hx
          obtain ⟨v, h1, h2⟩ := yLen_run (G := G) (w := w) (ty := o.type) hG (ev x) hy
          refine ⟨v, w, ?_, Below.refl _ _, h2⟩
          simp [resolve, hb, invoke, builtin, hat, hax, h1]
        · cases hy
      · split at hy
        · rename_i x r hs
          split at hy
          · rename_i v hv
            cases hy
            obtain ⟨h1, h2⟩ := scs_rep h (xs := c.args.toList) hs
            have hp : plainV x = true := h2 x (by simp)
            obtain ⟨h3, h4⟩ := scFold_run (P := G.P) (f := scMin2) (g := Builtin.min2) (fun x y z w hh => scMin2_run hh w) r x v w hp hv
            refine ⟨v, w, ?_, Below.refl _ _, Rep.sc _ h4⟩
            have e : (c.args.map a.eval).toList = x :: r := by simpa using h1
            simp only [resolve, hb, invoke, builtin, Sem.run_bind, Sem.run_pure, Result.andThen_ok, Builtin.min_]
            rw [e]
            simp [h3]
          · cases hy
        · cases hy
      · split at hy
        · rename_i x r hs
          split at hy
          · rename_i v hv
            cases hy
            obtain ⟨h1, h2⟩ := scs_rep h (xs := c.args.toList) hs
            have hp : plainV x = true := h2 x (by simp)
            obtain ⟨h3, h4⟩ := scFold_run (P := G.P) (f := scMax2) (g := Builtin.max2) (fun x y z w hh => scMax2_run hh w) r x v w hp hv
            refine ⟨v, w, ?_, Below.refl _ _, Rep.sc _ h4⟩
            have e : (c.args.map a.eval).toList = x :: r := by simpa using h1
            simp only [resolve, hb, invoke, builtin, Sem.run_bind, Sem.run_pure, Result.andThen_ok, Builtin.max_]
            rw [e]
            simp [h3]
          · cases hy
        · cases hy
      · cases hy
    · cases hy
end
end Go.Abs
