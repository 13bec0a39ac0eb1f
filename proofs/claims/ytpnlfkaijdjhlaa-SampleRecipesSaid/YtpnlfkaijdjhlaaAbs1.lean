/-
  Values as trees, and what it means that a value in memory reads as a tree. Program-independent. The generic layer under all claims of this repo: 1 of several.
-/
import Derived.WalkKit
import Derived.Orders
namespace Go.Abs
set_option linter.all false
open Go.RowKit (Below)

/-- A value that nobody writes to any more, as a tree. -/
inductive IV where
  | sc (v : Value)
  | sl (es : List (List IV))
  | ip (cs : List IV) (j : Nat)
  | clo (f : FuncId) (caps : List IV)
  | agg (cs : List IV)
  | tup (vs : List IV)
  deriving Inhabited

/-- A value without an address. -/
def plainV : Value → Bool
  | .bool _ | .int _ _ | .string _ | .float _ _ | .nilFunc => true
  | .tuple vs => vs.size == 0
  | _ => false

/-- It takes one cell of memory. -/
def IV.one : IV → Bool
  | .sc v => v.oneCell'
  | .sl _ | .ip _ _ | .clo _ _ => true
  | .agg _ | .tup _ => false

abbrev IV.int (n : Int) : IV := .sc (.int .i64 n)
abbrev IV.bool (b : Bool) : IV := .sc (.bool b)

/-- The value v reads as the tree in the world w; no cell that is read is one of M. -/
inductive Rep (w : World) (M : Nat → Nat → Prop) : IV → Value → Prop
  | sc (v : Value) : plainV v = true → Rep w M (.sc v) v
  | nil (a : Option Addr) (c : Nat) : Rep w M (.sl []) (.slice a 0 c)
  | sl (es : List (List IV)) (s b o c : Nat) (u : Nat → Nat → Value) : es ≠ [] → (∀ e ∈ es, e.length = s) → es.length ≤ c →
      (∀ i e j x, es[i]? = some e → e[j]? = some x → x.one = true ∧ w.cell? ⟨b, o + i * s + j, none⟩ = some (u i j) ∧ ¬ M b (o + i * s + j)) →
      (∀ i e j x, es[i]? = some e → e[j]? = some x → Rep w M x (u i j)) → Rep w M (.sl es) (.slice (some ⟨b, o, none⟩) es.length c)
  | ip (cs : List IV) (j b o : Nat) (u : Nat → Value) :
      (∀ k x, cs[k]? = some x → x.one = true ∧ w.cell? ⟨b, o + k, none⟩ = some (u k) ∧ ¬ M b (o + k)) →
      (∀ k x, cs[k]? = some x → Rep w M x (u k)) → Rep w M (.ip cs j) (.pointer (some ⟨b, o + j, none⟩))
  | clo (f : FuncId) (caps : List IV) (vs : Array Value) : caps.length = vs.size → (∀ (k : Nat) x v, caps[k]? = some x → vs[k]? = some v → Rep w M x v) →
      Rep w M (.clo f caps) (.func (.func f) #[] vs)
  | agg (cs : List IV) (vs : Array Value) : cs.length = vs.size → (∀ x ∈ cs, x.one = true) → (∀ (k : Nat) x v, cs[k]? = some x → vs[k]? = some v → Rep w M x v) → Rep w M (.agg cs) (.agg vs)
  | tup (cs : List IV) (vs : Array Value) : cs.length = vs.size → (∀ (k : Nat) x v, cs[k]? = some x → vs[k]? = some v → Rep w M x v) → Rep w M (.tup cs) (.tuple vs)

section
variable {w w' : World} {M M' : Nat → Nat → Prop} {x : IV} {v : Value}

/-- The cells of w that are not of M are the same in w', and not of M'. -/
def Kept (w : World) (M : Nat → Nat → Prop) (w' : World) (M' : Nat → Nat → Prop) : Prop :=
  ∀ b o u, w.cell? ⟨b, o, none⟩ = some u → ¬ M b o → w'.cell? ⟨b, o, none⟩ = some u ∧ ¬ M' b o

theorem Kept.refl (w : World) (M : Nat → Nat → Prop) : Kept w M w M := fun _ _ _ h hm => ⟨h, hm⟩
theorem Kept.trans {w1 w2 w3 : World} {M1 M2 M3 : Nat → Nat → Prop} (h : Kept w1 M1 w2 M2) (h' : Kept w2 M2 w3 M3) : Kept w1 M1 w3 M3 :=
  fun b o u hc hm => h' b o u (h b o u hc hm).1 (h b o u hc hm).2
theorem Kept.less (w : World) (h : ∀ b o, M' b o → M b o) : Kept w M w M' := fun b o _ hc hm => ⟨hc, fun h' => hm (h b o h')⟩

theorem Rep.kept (h : Rep w M x v) (hk : Kept w M w' M') : Rep w' M' x v := by
  induction h with
  | sc v hv => exact .sc v hv
  | nil a c => exact .nil a c
  | sl es s b o c u hne hs hc h1 h2 ih =>
    exact .sl es s b o c u hne hs hc (fun i e j x hi hj => ⟨(h1 i e j x hi hj).1, hk _ _ _ (h1 i e j x hi hj).2.1 (h1 i e j x hi hj).2.2⟩) ih
  | ip cs j b o u h1 h2 ih =>
    exact .ip cs j b o u (fun k x hx => ⟨(h1 k x hx).1, hk _ _ _ (h1 k x hx).2.1 (h1 k x hx).2.2⟩) ih
  | clo f caps vs hl h1 ih => exact .clo f caps vs hl ih
  | agg cs vs hl ho h1 ih => exact .agg cs vs hl ho ih
  | tup cs vs hl h1 ih => exact .tup cs vs hl ih

theorem Rep.oneCell (h : Rep w M x v) (ho : x.one = true) : v.oneCell' = true := by
  cases h <;> simp_all [IV.one, Value.oneCell']

theorem Rep.less (h : Rep w M x v) (hM : ∀ b o, M' b o → M b o) : Rep w M' x v := h.kept (Kept.less w hM)

/-- No address in it. -/
inductive IV.Flat : IV → Prop
  | sc (v : Value) : IV.Flat (.sc v)
  | agg (cs : List IV) : (∀ x ∈ cs, IV.Flat x) → IV.Flat (.agg cs)
  | tup (cs : List IV) : (∀ x ∈ cs, IV.Flat x) → IV.Flat (.tup cs)

def flat1 : IV → Bool
  | .sc _ => true
  | _ => false
def flatB : IV → Bool
  | .sc _ => true
  | .agg cs => cs.all flat1
  | .tup cs => cs.all fun x => match x with | .sc _ => true | .agg cs => cs.all flat1 | _ => false
  | _ => false
theorem flat1_flat {x : IV} (h : flat1 x = true) : x.Flat := by cases x <;> simp [flat1] at h; exact .sc _
theorem flatB_flat {x : IV} (h : flatB x = true) : x.Flat := by
  cases x with
  | sc v => exact .sc v
  | agg cs => simp only [flatB, List.all_eq_true] at h; exact .agg _ fun y hy => flat1_flat (h y hy)
  | tup cs =>
    simp only [flatB, List.all_eq_true] at h
    refine .tup _ fun y hy => ?_
    have := h y hy
    cases y with
    | sc v => exact .sc v
    | agg cs => simp only [List.all_eq_true] at this; exact .agg _ fun z hz => flat1_flat (this z hz)
    | _ => simp at this
  | _ => simp [flatB] at h

theorem Rep.flat (h : Rep w M x v) (hf : x.Flat) : Rep w' M' x v := by
  induction h with
  | sc v hv => exact .sc v hv
  | agg cs vs hl ho h1 ih =>
    cases hf with
    | agg _ hf => exact .agg cs vs hl ho fun k x v hx hv => ih k x v hx hv (hf x (List.mem_of_getElem? hx))
  | tup cs vs hl h1 ih =>
    cases hf with
    | tup _ hf => exact .tup cs vs hl fun k x v hx hv => ih k x v hx hv (hf x (List.mem_of_getElem? hx))
  | _ => cases hf
end

/-- A list of trees, a list of values. -/
def RepL (w : World) (M : Nat → Nat → Prop) (xs : List IV) (vs : List Value) : Prop :=
  xs.length = vs.length ∧ ∀ (k : Nat) x v, xs[k]? = some x → vs[k]? = some v → Rep w M x v

theorem RepL.kept {w w' : World} {M M' : Nat → Nat → Prop} {xs vs} (h : RepL w M xs vs) (hk : Kept w M w' M') : RepL w' M' xs vs :=
  ⟨h.1, fun k x v hx hv => (h.2 k x v hx hv).kept hk⟩
theorem RepL.nil {w M} : RepL w M [] [] := ⟨rfl, fun k x v hx => by simp at hx⟩
theorem RepL.cons {w M x v xs vs} (h : Rep w M x v) (hs : RepL w M xs vs) : RepL w M (x :: xs) (v :: vs) :=
  ⟨by simp [hs.1], fun k y u hy hu => by
    cases k with
    | zero => simp at hy hu; subst hy; subst hu; exact h
    | succ k => exact hs.2 k y u (by simpa using hy) (by simpa using hu)⟩
theorem RepL.uncons {w M x xs vs} (h : RepL w M (x :: xs) vs) : ∃ v vs', vs = v :: vs' ∧ Rep w M x v ∧ RepL w M xs vs' := by
  obtain ⟨hl, h⟩ := h
  cases vs with
  | nil => simp at hl
  | cons v vs' => exact ⟨v, vs', rfl, h 0 x v rfl rfl, by simpa using hl, fun k y u hy hu => h (k + 1) y u (by simpa using hy) (by simpa using hu)⟩
theorem RepL.of_nil {w M vs} (h : RepL w M [] vs) : vs = [] := List.eq_nil_of_length_eq_zero h.1.symm

/-- WHAT A FUNCTION DOES: called with values that read as the trees, it returns a value that reads as a tree with φ; below, the world is as it was. -/
def Ctr (P : Program) (f : FuncId) (args : List IV) (φ : IV → Prop) : Prop :=
  ∀ (w : World) (M : Nat → Nat → Prop) (vs : List Value), (∀ b o, M b o → b < w.heap.size) → RepL w M args vs →
    Calls P f vs.toArray w fun e w' => ∃ r v, φ r ∧ e = .returned v ∧ Rep w' M r v ∧ Below w.heap.size w w'

theorem Ctr.mono {P f args} {φ ψ : IV → Prop} (h : Ctr P f args φ) (hi : ∀ r, φ r → ψ r) : Ctr P f args ψ :=
  fun w M vs hM hr => (h w M vs hM hr).mono fun _ _ ⟨r, v, h1, h2⟩ => ⟨r, v, hi r h1, h2⟩

theorem Below.kept {w w' : World} {M : Nat → Nat → Prop} (h : Below w.heap.size w w') : Kept w M w' M := fun b o u hc hm => by
  refine ⟨?_, hm⟩
  have hb : b < w.heap.size := World.block_lt_of_cell? (a := ⟨b, o, none⟩) w hc
  rw [← hc]; exact h.cell hb
end Go.Abs
