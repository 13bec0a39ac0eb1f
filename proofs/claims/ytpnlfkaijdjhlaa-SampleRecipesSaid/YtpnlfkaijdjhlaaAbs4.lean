/-
  The operations that compute a value, all of them in one function, and that the machine does what it says. Program-independent. The generic layer under all claims of this repo: 4 of several.
-/
import Derived.Test.YtpnlfkaijdjhlaaAbs3
namespace Go.Abs
set_option linter.all false
open Go.RowKit (Below)

/-! ### Cells -/
def cellsOf : IV → List IV
  | .agg cs => cs
  | x => [x]
theorem cellsOf_rep {w M x v} (h : Rep w M x v) (hx : (cellsOf x).all IV.one = true) : RepL w M (cellsOf x) v.cells.toList ∧ ∀ y ∈ v.cells.toList, y.oneCell' = true := by
  cases h with
  | agg cs vs hl ho h =>
    refine ⟨⟨by simpa [cellsOf, Value.cells] using hl, fun k x v hx hv => h k x v hx (by simpa [Value.cells] using hv)⟩, fun y hy => ?_⟩
    obtain ⟨k, hk⟩ := List.getElem?_of_mem hy
    have hk' : vs[k]? = some y := by simpa [Value.cells] using hk
    have hkl : k < cs.length := by rw [hl]; exact (Array.getElem?_eq_some_iff.1 hk').1
    exact (h k _ y (List.getElem?_eq_getElem hkl) hk').oneCell (ho _ (List.getElem_mem hkl))
  | sc v hv =>
    have h1 : v.oneCell' = true := by simpa [cellsOf, IV.one] using hx
    have hc : v.cells = #[v] := by cases v <;> simp_all [Value.cells, Value.oneCell']
    rw [hc]
    exact ⟨RepL.cons (.sc v hv) RepL.nil, by simpa using h1⟩
  | nil a c => exact ⟨RepL.cons (.nil a c) RepL.nil, by simp [Value.cells, Value.oneCell']⟩
  | sl es s b o c u h1 h2 h3 h4 h5 => exact ⟨RepL.cons (.sl es s b o c u h1 h2 h3 h4 h5) RepL.nil, by simp [Value.cells, Value.oneCell']⟩
  | ip cs j b o u h1 h2 => exact ⟨RepL.cons (.ip cs j b o u h1 h2) RepL.nil, by simp [Value.cells, Value.oneCell']⟩
  | clo f caps vs h1 h2 => exact ⟨RepL.cons (.clo f caps vs h1 h2) RepL.nil, by simp [Value.cells, Value.oneCell']⟩
  | tup cs vs h1 h2 => simp [cellsOf, IV.one] at hx

def cellsAt (G : Ctx) (t : TypeId) (c : List IV) (j : Nat) : Option AV :=
  if aggK (G.ti t).kind then
    if j + (G.ti t).size ≤ c.length then some (.im (.agg ((c.drop j).take (G.ti t).size))) else none
  else match c[j]? with
    | some x => some (.im x)
    | none => none

theorem run_loadVar_cells {G : Ctx} (hG : G.Ok) {t : TypeId} (h0 : (G.ti t).size ≠ 0) {w : World} {M : Nat → Nat → Prop} {c : List IV} {j b o : Nat} {u : Nat → Value} {av : AV}
    (h : ∀ k x, c[k]? = some x → x.one = true ∧ w.cell? ⟨b, o + k, none⟩ = some (u k) ∧ Rep w M x (u k)) (hc : cellsAt G t c j = some av) :
    ∃ v x, (loadVar t ⟨b, o + j, none⟩).run G.P w = .ok v w ∧ av = .im x ∧ Rep w M x v := by
  unfold cellsAt at hc
  unfold loadVar
  simp only [Sem.run_bind, hG.isAgg h0, Result.andThen_ok]
  split at hc
  · rename_i hk
    split at hc
    · rename_i hl
      cases hc
      have hcells : ∀ k, k < (G.ti t).size → w.cell? ((⟨b, o + j, none⟩ : Addr).add k) = some (u (j + k)) := fun k hk' => by
        have : j + k < c.length := by omega
        rw [Addr.add_lit, Nat.add_assoc]
        exact (h (j + k) _ (List.getElem?_eq_getElem this)).2.1
      have hr := run_loadCells (P := G.P) w ⟨b, o + j, none⟩ (G.ti t).size (fun k => u (j + k)) hcells
      refine ⟨.agg ((List.range (G.ti t).size).map fun k => u (j + k)).toArray, _, ?_, rfl, ?_⟩
      · simp only [hk, if_true, Sem.run_bind, hG.size h0, Result.andThen_ok, hr, Sem.run_pure]
      · refine .agg _ _ (by simp; omega) (fun x hx => ?_) (fun k x v hx hv => ?_)
        · obtain ⟨k, hk'⟩ := List.getElem?_of_mem hx
          rw [List.getElem?_take] at hk'
          split at hk'
          · rw [List.getElem?_drop] at hk'; exact (h _ _ hk').1
          · cases hk'
        · rw [List.getElem?_take] at hx
          split at hx
          · rename_i hkl
            rw [List.getElem?_drop] at hx
            have : v = u (j + k) := by
              simp [hkl] at hv
              exact hv.symm
            rw [this]; exact (h _ _ hx).2.2
          · cases hx
    · cases hc
  · rename_i hk
    split at hc
    · rename_i x hx
      cases hc
      refine ⟨u j, x, ?_, rfl, (h j x hx).2.2⟩
      simp only [hk, Bool.false_eq_true, if_false]
      simp [run_load, (h j x hx).2.1]
    · cases hc

/-! ### fill -/
def setCells (cs : List IV) (off : Nat) : List IV → List IV
  | [] => cs
  | x :: r => setCells (cs.set off x) (off + 1) r
def fillA (place : Nat → Option (Nat × Nat)) (cs : List IV) : List (Nat × IV) → Option (List IV)
  | [] => some cs
  | (i, x) :: r => match place i with
    | none => none
    | some (off, size) => if (cellsOf x).length = size ∧ off + size ≤ cs.length ∧ (cellsOf x).all IV.one = true then fillA place (setCells cs off (cellsOf x)) r else none

theorem RepL.set {w M cs vs x v} (h : RepL w M cs vs) (hx : Rep w M x v) (k : Nat) : RepL w M (cs.set k x) (vs.set k v) :=
  ⟨by simp [h.1], fun i y u hy hu => by
    rw [List.getElem?_set] at hy hu
    split at hy
    · rename_i hk
      simp only [hk, if_true] at hu
      subst hk
      split at hy <;> split at hu <;> simp_all
    · rename_i hk
      simp only [hk, if_false] at hu
      exact h.2 i y u hy hu⟩
theorem foldl_zipIdx (off : Nat) : ∀ (l : List Value) (k : Nat) (cs : Array Value),
    ((l.zipIdx k).foldl (fun cs p => cs.setIfInBounds (off + p.2) p.1) cs).toList = l.zipIdx.foldl (fun cs p => cs.set (off + k + p.2) p.1) cs.toList
  | [], k, cs => rfl
  | v :: l, k, cs => by
    simp only [List.zipIdx_cons, List.foldl_cons]
    rw [foldl_zipIdx off l (k + 1)]
    have e : List.zipIdx l (0 + 1) = (List.zipIdx l).map fun p => (p.1, p.2 + 1) := by
      rw [List.zipIdx_eq_map_add]; simp [Nat.add_comm]
    rw [e, List.foldl_map]
    simp only [Array.toList_setIfInBounds, Nat.add_zero]
    congr 1
    funext cs p
    congr 1
    omega
theorem setCells_rep {w M} (off : Nat) : ∀ {xs : List IV} {us : List Value} {cs : List IV} {vs : List Value}, RepL w M xs us → RepL w M cs vs → ∀ k, k = 0 →
    RepL w M (setCells cs off xs) (us.zipIdx.foldl (fun cs p => cs.set (off + p.2) p.1) vs) := by
  intro xs
  induction xs generalizing off with
  | nil => intro us cs vs hx hc _ _; obtain rfl := hx.of_nil; exact hc
  | cons x xs ih =>
    intro us cs vs hx hc k hk
    obtain ⟨v, us, rfl, h1, h2⟩ := hx.uncons
    simp only [setCells, List.zipIdx_cons, List.foldl_cons]
    have e : List.zipIdx us (0 + 1) = (List.zipIdx us).map fun p => (p.1, p.2 + 1) := by
      rw [List.zipIdx_eq_map_add]; simp [Nat.add_comm]
    rw [e, List.foldl_map]
    have := ih (off + 1) h2 (hc.set h1 off) 0 rfl
    simp only [Nat.add_zero]
    have e2 : (fun (cs : List Value) (p : Value × Nat) => cs.set (off + (p.2 + 1)) p.1) = fun cs p => cs.set (off + 1 + p.2) p.1 := by
      funext cs p; congr 1; omega
    rw [e2]; exact this
theorem setCells_length (off : Nat) : ∀ (xs cs : List IV), (setCells cs off xs).length = cs.length
  | [], cs => rfl
  | x :: xs, cs => by simp [setCells, setCells_length (off + 1) xs]
theorem setCells_one (off : Nat) : ∀ (xs cs : List IV), (∀ x ∈ cs, x.one = true) → (∀ x ∈ xs, x.one = true) → ∀ x ∈ setCells cs off xs, x.one = true
  | [], cs, h, _ => h
  | y :: xs, cs, h, hx => by
    refine setCells_one (off + 1) xs _ (fun x hx' => ?_) (fun x hx' => hx x (by simp [hx']))
    rcases List.mem_or_eq_of_mem_set hx' with h' | h'
    · exact h x h'
    · subst h'; exact hx _ (by simp)

def RepP (w : World) (M : Nat → Nat → Prop) (ps : List (Nat × IV)) (qs : List (Nat × Value)) : Prop :=
  ps.length = qs.length ∧ ∀ (k : Nat) p q, ps[k]? = some p → qs[k]? = some q → p.1 = q.1 ∧ Rep w M p.2 q.2
theorem fill_rep {w M} (place : Nat → Option (Nat × Nat)) : ∀ (ps : List (Nat × IV)) (qs : List (Nat × Value)) (cs : List IV) (vs : Array Value) (out : List IV),
    RepP w M ps qs → RepL w M cs vs.toList → (∀ x ∈ cs, x.one = true) → fillA place cs ps = some out →
    ∃ ws, Instr.fill place vs qs = some ws ∧ RepL w M out ws.toList ∧ (∀ x ∈ out, x.one = true) ∧ out.length = cs.length
  | [], qs, cs, vs, out, hp, hc, ho, h => by
    simp only [fillA, Option.some.injEq] at h
    subst h
    obtain rfl : qs = [] := List.eq_nil_of_length_eq_zero hp.1.symm
    exact ⟨vs, rfl, hc, ho, rfl⟩
  | (i, x) :: ps, qs, cs, vs, out, hp, hc, ho, h => by
    cases qs with
    | nil => exact absurd hp.1 (by simp)
    | cons q qs =>
      obtain ⟨j, v⟩ := q
      obtain ⟨e, hx⟩ := hp.2 0 (i, x) (j, v) rfl rfl
      simp only at e
      subst e
      have hp' : RepP w M ps qs := ⟨by simpa using hp.1, fun k p q h1 h2 => hp.2 (k + 1) p q (by simpa using h1) (by simpa using h2)⟩
      simp only [fillA] at h
      unfold Instr.fill
      split at h
      · cases h
      · rename_i off size hpl
        split at h
        · rename_i hcond
          obtain ⟨h1, h2, h3⟩ := hcond
          obtain ⟨hr, hone⟩ := cellsOf_rep hx h3
          have hsz : v.cells.size = size := by have := hr.1; simp at this; omega
          have hcl : cs.length = vs.size := by have := hc.1; simpa using this
          simp only [hpl]
          have hno : (decide (v.cells.size ≠ size) || decide (off + v.cells.size > vs.size)) = false := by
            simp; omega
          simp only [hno, Bool.false_eq_true, if_false]
          have hset := setCells_rep (w := w) (M := M) off hr hc 0 rfl
          have hfold : (v.cells.zipIdx.foldl (fun cs (c, j) => cs.setIfInBounds (off + j) c) vs).toList = v.cells.toList.zipIdx.foldl (fun cs p => cs.set (off + p.2) p.1) vs.toList := by
            rw [← Array.foldl_toList]
            have := foldl_zipIdx off v.cells.toList 0 vs
            simpa using this
          have hone' : ∀ y ∈ setCells cs off (cellsOf x), y.one = true := setCells_one off _ _ ho (by simpa using h3)
          obtain ⟨ws, h4, h5, h6, h7⟩ := fill_rep place ps qs _ (v.cells.zipIdx.foldl (fun cs (c, j) => cs.setIfInBounds (off + j) c) vs) out hp' (by rw [hfold]; exact hset) hone' h
          exact ⟨ws, h4, h5, h6, by rw [h7, setCells_length]⟩
        · cases h
end Go.Abs
