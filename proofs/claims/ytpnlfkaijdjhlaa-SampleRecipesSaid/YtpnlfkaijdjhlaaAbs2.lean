/-
  The state of a walk over trees: slots, the variables that the call itself has made, and what it means that a machine's state is as it says. Program-independent. The generic layer under all claims of this repo: 2 of several.
-/
import Derived.Test.YtpnlfkaijdjhlaaAbs1
namespace Go.Abs
set_option linter.all false
open Go.RowKit (Below)

/-! ### What is known of a type -/
inductive ZC where
  | int (k : IntKind) | bool | str | sl | no
  deriving DecidableEq, Inhabited
def ZC.iv : ZC → IV
  | .int k => .sc (.int k 0)
  | .bool => .sc (.bool false)
  | .str => .sc (.string ByteArray.empty)
  | _ => .sl []
def ofZV : Value → ZC
  | .int k 0 => .int k
  | .bool false => .bool
  | .string s => if s.size = 0 then .str else .no
  | .slice none 0 0 => .sl
  | _ => .no
inductive TK where
  | sl (e : TypeId) | arr (n : Nat) (e : TypeId) | st (fs : List (Nat × TypeId)) | bl | it (k : IntKind) | str | no
  deriving DecidableEq, Inhabited
structure TI where
  size : Nat
  bytes : Nat
  zero : List ZC
  kind : TK
  eq : Bool := false
  deriving Inhabited

def basicB (P : Program) (f : Field) : Bool :=
  f.name != "_" && match P.underlying f.type with
    | some (.int _) | some .bool | some .string => true
    | _ => false
def TK.okB (d : Option TypeDesc) (k : TK) : Bool :=
  match k, d with
  | .sl e, some (.slice e') => e == e'
  | .arr n e, some (.array n' e') => n == n' && e == e'
  | .st fs, some (.struct gs) => gs.toList.map (fun f => (f.offset, f.type)) == fs
  | .bl, some .bool => true
  | .it k, some (.int k') => k == k'
  | .str, some .string => true
  | .no, some (.struct _) | .no, some (.array _ _) => false
  | .no, some _ => true
  | _, _ => false
def TI.okB (P : Program) (t : TypeId) (x : TI) : Bool :=
  match P.info? t with
  | some i => i.size == x.size && i.bytes == x.bytes && x.kind.okB (P.underlying t) &&
      (match i.zero with
       | some z => z.cells.toList.map ofZV == x.zero && z.cells.size == x.size
       | none => false) &&
      (!x.eq || (match P.underlying t with
        | some (.struct gs) => gs.toList.all (basicB P) && gs.toList.map (·.offset) == List.range gs.size && gs.size == x.size && !P.stoodInHeld t && !P.eqGuardType P.depth t
        | _ => false))
  | none => false

structure Ctx where
  P : Program
  ti : TypeId → TI
  fns : Nat
def Ctx.Ok (G : Ctx) : Prop := ∀ t, (G.ti t).size ≠ 0 → (G.ti t).okB G.P t = true

/-! ### Slots and rows -/
inductive AV where
  | im (x : IV)
  | und
  | sx (es : List (List IV))
  | vec (d e s : Nat) (es : List (List IV))
  | osl (d s i n : Nat)
  | loc (d s i j : Nat)
  deriving Inhabited

def look {α : Type} : List (Nat × α) → Nat → Option α
  | [], _ => none
  | (j, v) :: r, k => if k = j then some v else look r k
def del {α : Type} (l : List (Nat × α)) (d : Nat) : List (Nat × α) := l.filter fun p => p.1 != d

structure St where
  fr : List (Nat × AV)
  rows : List (Nat × Nat × List (List IV))
  toks : List (Nat × Nat × Nat)
  deriving Inhabited

def St.get (st : St) (t : Nat) : AV := (look st.fr t).getD .und
def St.put (st : St) (dst : Option Nat) (v : AV) : St :=
  match dst with
  | some d => { st with fr := (d, v) :: st.fr }
  | none => st

/-- Which cells may still be written. -/
def Mo (M0 : Nat → Nat → Prop) (β : Nat → Option Nat) (st : St) (b o : Nat) : Prop :=
  M0 b o ∨ (∃ d s es, look st.rows d = some (s, es) ∧ β d = some b) ∨ (∃ d s n, look st.toks d = some (s, n) ∧ β d = some b ∧ n * s ≤ o)

def RepA (w : World) (M : Nat → Nat → Prop) (β : Nat → Option Nat) (toks : List (Nat × Nat × Nat)) : AV → Value → Prop
  | .im x, v => Rep w M x v
  | .und, _ => True
  | .sx es, v => Rep w M (.sl es) v ∧ ∃ a, v = .slice a es.length es.length
  | .vec d e s es, v => Rep w M (.sl es) v ∧ (∀ x ∈ es, x.length = s) ∧ (look toks d = some (s, es.length) →
      (∃ a, v = .slice a es.length es.length) ∨
      ∃ b cap cur, β d = some b ∧ v = .slice (some ⟨b, 0, none⟩) es.length cap ∧ w.heap[b]? = some (.cells cur e (0, 0)) ∧ es.length ≤ cap ∧ cap ≤ maxLen ∧ cur.size = cap * s)
  | .osl d s i n, v => ∃ ad c, n ≤ c ∧ v = .slice ad n c ∧ (n ≠ 0 → ∃ b, β d = some b ∧ ad = some ⟨b, i * s, none⟩)
  | .loc d s i j, v => ∃ b, β d = some b ∧ v = .pointer (some ⟨b, i * s + j, none⟩)

/-- Block b holds these elements, s cells each; it may be written. -/
def RowRep (w : World) (M : Nat → Nat → Prop) (b s : Nat) (es : List (List IV)) : Prop :=
  ∃ cur T, w.heap[b]? = some (.cells cur T (0, 0)) ∧ (∀ e ∈ es, e.length = s) ∧
    ∀ (i : Nat) e (j : Nat) x, es[i]? = some e → e[j]? = some x → x.one = true ∧ ∃ u, cur[i * s + j]? = some u ∧ Rep w M x u

structure Sim (N : Nat) (w0 : World) (M0 : Nat → Nat → Prop) (β : Nat → Option Nat) (st : St) (a : Act) (w : World) : Prop where
  size : a.tmps.size = N
  defers : a.defers = []
  below : Below w0.heap.size w0 w
  m0 : ∀ b o, M0 b o → b < w0.heap.size
  fr : ∀ t, RepA w (Mo M0 β st) β st.toks (st.get t) (a.tmps.getD t undef)
  rows : ∀ d s es, look st.rows d = some (s, es) → ∃ b, β d = some b ∧ w0.heap.size ≤ b ∧ RowRep w (Mo M0 β st) b s es
  toks : ∀ d s n, look st.toks d = some (s, n) → ∀ b, β d = some b → w0.heap.size ≤ b ∧ b < w.heap.size
  inj : ∀ d d' b, ((look st.rows d).isSome ∨ (look st.toks d).isSome) → ((look st.rows d').isSome ∨ (look st.toks d').isSome) → β d = some b → β d' = some b → d = d'
  excl : ∀ d, (look st.rows d).isSome → look st.toks d = none

/-! ### look, del -/
section
variable {α : Type}
theorem look_cons_same (l : List (Nat × α)) (d : Nat) (v : α) : look ((d, v) :: l) d = some v := by simp [look]
theorem look_cons_ne (l : List (Nat × α)) {d k : Nat} (v : α) (h : k ≠ d) : look ((d, v) :: l) k = look l k := by simp [look, h]
theorem look_del_same (l : List (Nat × α)) (d : Nat) : look (del l d) d = none := by
  induction l with
  | nil => rfl
  | cons p l ih =>
    obtain ⟨j, v⟩ := p
    by_cases h : j = d
    · subst h; simpa [del, List.filter_cons] using ih
    · simp [del, h, look, Ne.symm h] at ih ⊢; exact ih
theorem look_del_ne (l : List (Nat × α)) {d k : Nat} (h : k ≠ d) : look (del l d) k = look l k := by
  induction l with
  | nil => rfl
  | cons p l ih =>
    obtain ⟨j, v⟩ := p
    by_cases hj : j = d
    · subst hj
      have : look ((j, v) :: l) k = look l k := look_cons_ne l v h
      rw [this]; simpa [del, List.filter_cons] using ih
    · have e : del ((j, v) :: l) d = (j, v) :: del l d := by simp [del, hj]
      rw [e]
      by_cases hk : k = j
      · subst hk; simp [look]
      · simp [look, hk, ih]
theorem look_map (l : List (Nat × α)) (f : α → α) (k : Nat) : look (l.map fun p => (p.1, f p.2)) k = (look l k).map f := by
  induction l with
  | nil => rfl
  | cons p l ih =>
    obtain ⟨j, v⟩ := p
    by_cases hk : k = j
    · simp [look, hk]
    · simp [look, hk, ih]
end

/-! ### A step that leaves what is below the heap's end as it was -/
section
variable {N : Nat} {w0 w w' : World} {M M' M0 : Nat → Nat → Prop} {β : Nat → Option Nat} {st : St} {a : Act} {toks : List (Nat × Nat × Nat)} {av : AV} {v : Value}

theorem RepA.below (h : RepA w M β toks av v) (hb : Below w.heap.size w w') : RepA w' M β toks av v := by
  cases av with
  | im x => exact Rep.kept (w := w) h (Below.kept hb)
  | und => trivial
  | sx es => exact ⟨Rep.kept h.1 (Below.kept hb), h.2⟩
  | vec d e s es =>
    refine ⟨Rep.kept h.1 (Below.kept hb), h.2.1, fun ht => ?_⟩
    rcases h.2.2 ht with hc | ⟨b, cap, cur, h1, h2, h3, h4⟩
    · exact .inl hc
    · refine .inr ⟨b, cap, cur, h1, h2, ?_, h4⟩
      rw [hb.block b (Array.getElem?_eq_some_iff.1 h3).1]; exact h3
  | osl d s i n => exact h
  | loc d s i j => exact h

theorem RowRep.below {b s : Nat} {es : List (List IV)} (h : RowRep w M b s es) (hb : Below w.heap.size w w') : RowRep w' M b s es := by
  obtain ⟨cur, T, h1, h2, h3⟩ := h
  refine ⟨cur, T, ?_, h2, fun i e j x hi hj => ?_⟩
  · rw [hb.block b (Array.getElem?_eq_some_iff.1 h1).1]; exact h1
  · obtain ⟨ho, u, hu, hr⟩ := h3 i e j x hi hj
    exact ⟨ho, u, hu, hr.kept (Below.kept hb)⟩

theorem Sim.ext (h : Sim N w0 M0 β st a w) (hb : Below w.heap.size w w') : Sim N w0 M0 β st a w' where
  size := h.size
  defers := h.defers
  below := h.below.trans (hb.mono h.below.size)
  m0 := h.m0
  fr t := (h.fr t).below hb
  rows d s es hd := let ⟨b, h1, h2, h3⟩ := h.rows d s es hd; ⟨b, h1, h2, h3.below hb⟩
  toks d s n hd b hbd := let ⟨h1, h2⟩ := h.toks d s n hd b hbd; ⟨h1, Nat.lt_of_lt_of_le h2 hb.size⟩
  inj := h.inj
  excl := h.excl

theorem Sim.put {dst : Option Nat} (h : Sim N w0 M0 β st a w) (hd : ∀ d, dst = some d → d < N) (hv : RepA w (Mo M0 β st) β st.toks av v) : Sim N w0 M0 β (st.put dst av) (a.put dst v) w := by
  cases dst with
  | none => exact h
  | some d =>
    have hM : Mo M0 β (st.put (some d) av) = Mo M0 β st := rfl
    refine ⟨by simp [Act.put, h.size], h.defers, h.below, h.m0, fun t => ?_, h.rows, h.toks, h.inj, h.excl⟩
    rw [hM]
    show RepA w _ β st.toks _ _
    by_cases ht : t = d
    · subst ht
      have e1 : (st.put (some t) av).get t = av := by simp [St.put, St.get, look]
      have e2 : (a.put (some t) v).tmps.getD t undef = v := by
        have : t < a.tmps.size := by rw [h.size]; exact hd t rfl
        simp [Act.put, this]
      rw [e1, e2]; exact hv
    · have e1 : (st.put (some d) av).get t = st.get t := by simp [St.put, St.get, look, ht]
      have e2 : (a.put (some d) v).tmps.getD t undef = a.tmps.getD t undef := by
        simp [Act.put, Array.getElem?_setIfInBounds_ne (Ne.symm ht)]
      rw [e1, e2]; exact h.fr t

theorem Sim.drew (h : Sim N w0 M0 β st a w) : Sim N w0 M0 β st a { w with drawn := w.drawn + 1 } := h.ext ⟨rfl, rfl, rfl, Nat.le_refl _, fun _ _ => rfl⟩
end

/-! ### Operands -/
def ofCell : Value → Option IV
  | .slice none 0 0 => some (.sl [])
  | v => if plainV v && v.oneCell' then some (.sc v) else none
def ofCells : List Value → Option (List IV)
  | [] => some []
  | v :: r => match ofCell v, ofCells r with
    | some x, some xs => some (x :: xs)
    | _, _ => none
def ofV : Value → AV
  | .slice none 0 0 => .sx []
  | .agg cs => match ofCells cs.toList with
    | some xs => .im (.agg xs)
    | none => .und
  | v => if plainV v then .im (.sc v) else .und
def evO (st : St) : Operand → AV
  | .tmp t => st.get t
  | .const v => ofV v
  | .global _ => .und
  | .func f => .im (.clo f [])

theorem ofCell_rep {w M v x} (h : ofCell v = some x) : Rep w M x v ∧ x.one = true := by
  unfold ofCell at h
  split at h
  · cases h; exact ⟨.nil _ _, rfl⟩
  · split at h
    · rename_i hp
      cases h
      simp only [Bool.and_eq_true] at hp
      exact ⟨.sc _ hp.1, hp.2⟩
    · cases h
theorem ofCells_rep {w M} : ∀ {vs : List Value} {xs : List IV}, ofCells vs = some xs → RepL w M xs vs ∧ ∀ x ∈ xs, x.one = true
  | [], xs, h => by cases h; exact ⟨RepL.nil, by simp⟩
  | v :: r, xs, h => by
    unfold ofCells at h
    split at h
    · rename_i x xs' h1 h2
      cases h
      obtain ⟨h3, h4⟩ := ofCells_rep (w := w) (M := M) h2
      obtain ⟨h5, h6⟩ := ofCell_rep (w := w) (M := M) h1
      exact ⟨RepL.cons h5 h3, by simpa [h6] using h4⟩
    · cases h
theorem RepL.agg {w M} {xs : List IV} {vs : Array Value} (h : RepL w M xs vs.toList) (ho : ∀ x ∈ xs, x.one = true) : Rep w M (.agg xs) (.agg vs) :=
  .agg xs vs (by simpa using h.1) ho fun k x v hx hv => h.2 k x v hx (by simpa using hv)
theorem RepL.tup {w M} {xs : List IV} {vs : Array Value} (h : RepL w M xs vs.toList) : Rep w M (.tup xs) (.tuple vs) :=
  .tup xs vs (by simpa using h.1) fun k x v hx hv => h.2 k x v hx (by simpa using hv)
theorem Rep.agg_inv {w M} {xs : List IV} {v : Value} (h : Rep w M (.agg xs) v) : ∃ vs : Array Value, v = .agg vs ∧ RepL w M xs vs.toList ∧ ∀ x ∈ xs, x.one = true := by
  cases h with
  | agg _ vs hl ho h => exact ⟨vs, rfl, ⟨by simpa using hl, fun k x v hx hv => h k x v hx (by simpa using hv)⟩, ho⟩
theorem Rep.tup_inv {w M} {xs : List IV} {v : Value} (h : Rep w M (.tup xs) v) : ∃ vs : Array Value, v = .tuple vs ∧ RepL w M xs vs.toList := by
  cases h with
  | tup _ vs hl h => exact ⟨vs, rfl, ⟨by simpa using hl, fun k x v hx hv => h k x v hx (by simpa using hv)⟩⟩
theorem Rep.sc_inv {w M v u} (h : Rep w M (.sc v) u) : u = v := by cases h; rfl
theorem Rep.clo_inv {w M f caps v} (h : Rep w M (.clo f caps) v) : ∃ vs : Array Value, v = .func (.func f) #[] vs ∧ RepL w M caps vs.toList := by
  cases h with
  | clo _ _ vs hl h => exact ⟨vs, rfl, ⟨by simpa using hl, fun k x v hx hv => h k x v hx (by simpa using hv)⟩⟩

theorem ofV_rep {w M β toks} (v : Value) : RepA w M β toks (ofV v) v := by
  unfold ofV
  split
  · exact ⟨.nil _ _, none, rfl⟩
  · split
    · rename_i h
      obtain ⟨h1, h2⟩ := ofCells_rep (w := w) (M := M) h
      exact RepL.agg h1 h2
    · trivial
  · split
    · exact Rep.sc _ ‹_›
    · trivial
theorem evO_rep {N w0 M0 β st a w} (h : Sim N w0 M0 β st a w) (x : Operand) : RepA w (Mo M0 β st) β st.toks (evO st x) (a.eval x) := by
  cases x with
  | tmp t => exact h.fr t
  | const v => exact ofV_rep v
  | global g => trivial
  | func f => exact Rep.clo f [] #[] rfl (fun k x v hx => by simp at hx)
end Go.Abs
