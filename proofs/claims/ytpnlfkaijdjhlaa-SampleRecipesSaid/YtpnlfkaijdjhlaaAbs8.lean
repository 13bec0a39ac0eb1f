/-
  That the machine does what 'yv' says: literals, slices of slices, and all together. Program-independent. The generic layer under all claims of this repo: 8 of several.
-/
import Derived.Test.YtpnlfkaijdjhlaaAbs7
namespace Go.Abs
set_option linter.all false
open Go.RowKit (Below)

section
variable {G : Ctx} {N : Nat} {w0 w : World} {M M0 : Nat → Nat → Prop} {β : Nat → Option Nat} {st : St} {a : Act} {toks : List (Nat × Nat × Nat)} {av : AV} {v : Value}

/-! ### literals -/
theorem ofZV_rep {z : Value} (h : ofZV z ≠ .no) : Rep w M (ofZV z).iv z ∧ (ofZV z).iv.one = true := by
  unfold ofZV at h ⊢
  split at h
  · exact ⟨.sc _ rfl, rfl⟩
  · exact ⟨.sc _ rfl, rfl⟩
  · rename_i s
    split at h
    · rename_i hs
      simp only [hs, if_true]
      have : s = ByteArray.empty := by
        obtain ⟨⟨l⟩⟩ := s
        have : l = [] := List.eq_nil_of_length_eq_zero hs
        subst this; rfl
      subst this
      exact ⟨.sc _ rfl, rfl⟩
    · exact absurd rfl h
  · exact ⟨.nil _ _, rfl⟩
  · exact absurd rfl h
theorem zero_rep : ∀ (vs : List Value), (vs.map ofZV).contains .no = false → RepL w M ((vs.map ofZV).map ZC.iv) vs ∧ ∀ x ∈ (vs.map ofZV).map ZC.iv, x.one = true
  | [], _ => ⟨RepL.nil, by simp⟩
  | v :: vs, h => by
    simp only [List.map_cons, List.contains_cons, Bool.or_eq_false_iff] at h
    obtain ⟨h1, h2⟩ := zero_rep vs h.2
    have h3 : ofZV v ≠ .no := fun e => by rw [e] at h; simp at h
    obtain ⟨h4, h5⟩ := ofZV_rep (w := w) (M := M) h3
    exact ⟨RepL.cons h4 h1, by simpa [h5] using h2⟩
theorem zeroIV_run (hG : G.Ok) {t : TypeId} {z : List IV} (h : zeroIV G t = some z) (w : World) (M : Nat → Nat → Prop) :
    ∃ zv, (zeroValue t).run G.P w = .ok zv w ∧ RepL w M z zv.cells.toList ∧ (∀ x ∈ z, x.one = true) ∧ (G.ti t).size ≠ 0 ∧ zv.cells.size = (G.ti t).size := by
  unfold zeroIV at h
  split at h
  · cases h
  · rename_i h0
    split at h
    · cases h
    · rename_i hn
      cases h
      obtain ⟨i, zv, hi, _, _, hz, hzz, hsz⟩ := hG.info h0
      rw [← hzz] at hn ⊢
      obtain ⟨h1, h2⟩ := zero_rep (w := w) (M := M) zv.cells.toList (by simpa using hn)
      exact ⟨zv, by simp [zeroValue, typeInfo, hi, hz], h1, h2, h0, hsz⟩

theorem ivParts_rep (h : Sim N w0 M0 β st a w) : ∀ {ps : List (Nat × Operand)} {qs : List (Nat × IV)}, ivParts st ps = some qs → RepP w (Mo M0 β st) qs (ps.map fun p => (p.1, a.eval p.2))
  | [], qs, hq => by cases hq; exact ⟨rfl, fun k p q hp => by simp at hp⟩
  | (i, x) :: r, qs, hq => by
    unfold ivParts at hq
    split at hq
    · rename_i y ys h1 h2
      cases hq
      have ih := ivParts_rep h h2
      refine ⟨by simp [ih.1], fun k p q hp hq => ?_⟩
      cases k with
      | zero =>
        simp at hp hq
        subst hp; subst hq
        exact ⟨rfl, ivOf_rep (evO_rep h x) h1⟩
      | succ k => exact ih.2 k p q (by simpa using hp) (by simpa using hq)
    · cases hq

theorem mapM_run {α β : Type} {P : Program} {w : World} (f : α → Sem β) (g : α → β) : ∀ (l : List α), (∀ x ∈ l, (f x).run P w = .ok (g x) w) → (l.mapM f).run P w = .ok (l.map g) w
  | [], _ => rfl
  | x :: l, h => by
    rw [List.mapM_cons, Sem.run_bind, h x (by simp), Result.andThen_ok, Sem.run_bind, mapM_run f g l (fun y hy => h y (by simp [hy])), Result.andThen_ok]
    rfl

theorem yBuild_run (hG : G.Ok) {t : TypeId} {ps : List (Nat × IV)} {qs : Array (Nat × Value)} (hp : RepP w M ps qs.toList) (hy : yBuild G t ps = some av) :
    ∃ v, (Instr.build t qs).run G.P w = .ok v w ∧ RepA w M β toks av v := by
  unfold yBuild at hy
  split at hy
  · cases hy
  · rename_i z hz
    obtain ⟨zv, hzr, hz1, hz2, h0, _⟩ := zeroIV_run hG hz w M
    split at hy
    · rename_i fs hk
      obtain ⟨gs, hu, hgs⟩ := hG.st h0 hk
      split at hy
      · rename_i hall
        split at hy
        · rename_i cs hf
          cases hy
          have hpl : (gs.mapM fun f => do pure (f.offset, ← sizeOf f.type) : Sem (Array (Nat × Nat))).run G.P w = .ok (gs.map fun f => (f.offset, (G.ti f.type).size)) w := by
            rw [Array.mapM_eq_mapM_toList, Sem.run_map, mapM_run _ (fun f => (f.offset, (G.ti f.type).size)) gs.toList (fun f hf' => ?_)]
            · simp only [Result.andThen]
              congr 1
              apply Array.ext'
              simp
            · have : (G.ti f.type).size ≠ 0 := by
                have := List.all_eq_true.1 hall (f.offset, f.type) (by rw [← hgs]; exact List.mem_map_of_mem hf')
                simpa using this
              simp [hG.size this]
          have hpe : (fun i => (gs.map fun f => (f.offset, (G.ti f.type).size))[i]?) = structPlace G fs := by
            funext i
            unfold structPlace
            rw [← hgs, List.getElem?_map]
            simp
            cases gs[i]? <;> rfl
          obtain ⟨ws, h1, h2, h3, _⟩ := fill_rep (w := w) (M := M) (structPlace G fs) ps qs.toList z zv.cells cs hp hz1 hz2 hf
          refine ⟨.agg ws, ?_, RepL.agg h2 h3⟩
          simp only [Instr.build, Sem.run_bind, hzr, Result.andThen_ok, run_underlying hu]
          rw [hpl, Result.andThen_ok, hpe, h1]
          rfl
        · cases hy
      · cases hy
    · rename_i n e hk
      have hu := hG.arr h0 hk
      split at hy
      · cases hy
      · rename_i h1
        split at hy
        · rename_i cs hf
          cases hy
          obtain ⟨ws, h4, h2, h3, _⟩ := fill_rep (w := w) (M := M) _ ps qs.toList z zv.cells cs hp hz1 hz2 hf
          refine ⟨.agg ws, ?_, RepL.agg h2 h3⟩
          simp only [Instr.build, Sem.run_bind, hzr, Result.andThen_ok, run_underlying hu, hG.size h1, h4, Sem.run_pure]
        · cases hy
    · cases hy

/-! ### buildSlice -/
theorem setCells_mid : ∀ (xs A B : List IV), xs.length ≤ B.length → setCells (A ++ B) A.length xs = A ++ xs ++ B.drop xs.length
  | [], A, B, _ => by simp [setCells]
  | x :: xs, A, [], h => by simp at h
  | x :: xs, A, b :: B, h => by
    have e : (A ++ b :: B).set A.length x = (A ++ [x]) ++ B := by simp
    rw [setCells, e]
    have := setCells_mid xs (A ++ [x]) B (by simpa using h)
    simp only [List.length_append, List.length_singleton] at this
    rw [this]; simp
theorem fullEls_fill (s : Nat) (hs : s ≠ 0) : ∀ (ps : List (Nat × IV)) (k : Nat) (es : List (List IV)) (A B : List IV), fullEls s k ps = some es → A.length = k * s → B.length = es.length * s →
    fillA (fun i => some (i * s, s)) (A ++ B) ps = some (A ++ es.flatten) ∧ (∀ e ∈ es, e.length = s)
  | [], k, es, A, B, h, hA, hB => by
    simp only [fullEls, Option.some.injEq] at h
    subst h
    have : B = [] := List.eq_nil_of_length_eq_zero (by simpa using hB)
    subst this
    exact ⟨by simp [fillA], by simp⟩
  | (i, x) :: r, k, es, A, B, h, hA, hB => by
    unfold fullEls at h
    split at h
    · rename_i hc
      obtain ⟨rfl, hl, ho⟩ := hc
      split at h
      · rename_i es' hes
        cases h
        have hBs : s ≤ B.length := by rw [hB]; simp only [List.length_cons, Nat.add_mul, Nat.one_mul]; omega
        have hcond : (cellsOf x).length = s ∧ i * s + s ≤ (A ++ B).length ∧ (cellsOf x).all IV.one = true := ⟨hl, by simp [hA]; omega, ho⟩
        have hset : setCells (A ++ B) (i * s) (cellsOf x) = (A ++ cellsOf x) ++ B.drop s := by
          rw [← hA, setCells_mid _ _ _ (by omega), hl]
        obtain ⟨h1, h2⟩ := fullEls_fill s hs r (i + 1) es' (A ++ cellsOf x) (B.drop s) hes (by simp [hA, hl, Nat.add_mul]) (by
          simp only [List.length_drop, hB, List.length_cons, Nat.add_mul, Nat.one_mul]; omega)
        refine ⟨?_, by simpa [hl] using h2⟩
        simp only [fillA, hcond, and_self, if_true, hset, h1]
        simp
      · cases h
    · cases h
theorem flatten_at {α : Type} {s : Nat} : ∀ {es : List (List α)} {i j : Nat} {e : List α} {x : α}, (∀ e ∈ es, e.length = s) → es[i]? = some e → e[j]? = some x → es.flatten[i * s + j]? = some x
  | [], i, j, e, x, _, hi, _ => by simp at hi
  | e0 :: es, i, j, e, x, hs, hi, hj => by
    have h0 : e0.length = s := hs e0 (by simp)
    cases i with
    | zero =>
      simp at hi; subst hi
      have hjl : j < e0.length := (List.getElem?_eq_some_iff.1 hj).1
      simp [List.getElem?_append_left hjl, hj]
    | succ i =>
      simp only [List.flatten_cons]
      rw [List.getElem?_append_right (by rw [h0, Nat.add_mul]; omega)]
      have : (i + 1) * s + j - e0.length = i * s + j := by rw [h0, Nat.add_mul]; omega
      rw [this]
      exact flatten_at (fun e he => hs e (by simp [he])) (by simpa using hi) hj

theorem zeros_rep {zs : List IV} {zv : Array Value} (h : RepL w M zs zv.toList) (ho : ∀ x ∈ zs, x.one = true) (hne : zv.size ≠ 0) (n : Nat) :
    ∃ B : List IV, B.length = n ∧ RepL w M B ((Array.range n).map (fun i => zv[i % zv.size]!)).toList ∧ ∀ x ∈ B, x.one = true := by
  have hl : zs.length = zv.size := by simpa using h.1
  refine ⟨(List.range n).map fun i => zs.getD (i % zs.length) default, by simp, ⟨by simp, fun k x v hx hv => ?_⟩, fun x hx => ?_⟩
  · simp only [List.getElem?_map] at hx
    obtain ⟨k', hk', rfl⟩ := Option.map_eq_some_iff.1 hx
    have hkn : k < n := by have := (List.getElem?_eq_some_iff.1 hk').1; simpa using this
    obtain rfl : k = k' := by simpa [hkn] using hk'
    have hm : k % zv.size < zv.size := Nat.mod_lt _ (by omega)
    have hv' : v = zv[k % zv.size]! := by simp [hkn] at hv; exact hv.symm
    subst hv'
    rw [hl]
    have hg : zs.getD (k % zv.size) default = zs[k % zv.size]'(by omega) := by simp [List.getD, hl, hm]
    rw [hg]
    refine h.2 (k % zv.size) _ _ (List.getElem?_eq_getElem _) ?_
    simp [hm]
  · obtain ⟨i, _, rfl⟩ := List.mem_map.1 hx
    have hm : i % zs.length < zs.length := Nat.mod_lt _ (by omega)
    have : zs.getD (i % zs.length) default = zs[i % zs.length] := by simp [List.getD, hm]
    rw [this]; exact ho _ (List.getElem_mem hm)

theorem yBuildSlice_run (hG : G.Ok) {t : TypeId} {len : Nat} {ps : List (Nat × IV)} {qs : Array (Nat × Value)} (hM : ∀ b o, M b o → b < w.heap.size) (hp : RepP w M ps qs.toList) (hy : yBuildSlice G t len ps = some av) :
    ∃ v w', (Instr.buildSlice t len qs).run G.P w = .ok v w' ∧ Below w.heap.size w w' ∧ RepA w' M β toks av v := by
  unfold yBuildSlice at hy
  split at hy
  · cases hy
  · rename_i h0
    split at hy
    · rename_i e hk
      have hu := hG.sl h0 hk
      split at hy
      · cases hy
      · rename_i z hz
        obtain ⟨zv, hzr, hz1, hz2, h1, hzs⟩ := zeroIV_run hG hz w M
        split at hy
        · rename_i es hes
          split at hy
          · rename_i hc
            obtain ⟨hlen, h24⟩ := hc
            cases hy
            subst hlen
            by_cases hnil : es.length * (G.ti e).size = 0
            · have he : es = [] := by
                rcases Nat.mul_eq_zero.1 hnil with h | h
                · exact List.eq_nil_of_length_eq_zero h
                · exact absurd h h1
              subst he
              have hps : ps = [] := by
                cases ps with
                | nil => rfl
                | cons p r =>
                  obtain ⟨i, x⟩ := p
                  unfold fullEls at hes
                  split at hes
                  · split at hes <;> cases hes
                  · cases hes
              subst hps
              have hqs : qs.toList = [] := List.eq_nil_of_length_eq_zero hp.1.symm
              refine ⟨.slice (some ⟨w.heap.size, 0, none⟩) 0 0, w.alloc (.cells #[] e), ?_, (Below.refl _ _).alloc (Nat.le_refl _) _, .nil _ _, _, rfl⟩
              simp [Instr.buildSlice, run_underlying hu, hG.size h1, hqs, Instr.fill, newRow, Array.range_zero']
            · have hne : zv.cells.size ≠ 0 := by omega
              obtain ⟨B, hBl, hBr, hB1⟩ := zeros_rep hz1 hz2 hne (es.length * (G.ti e).size)
              obtain ⟨hf, hall⟩ := fullEls_fill (G.ti e).size h1 ps 0 es [] B hes (by simp) hBl
              simp only [List.nil_append] at hf
              obtain ⟨ws, h4, h5, h6, h7⟩ := fill_rep (w := w) (M := M) _ ps qs.toList B _ es.flatten hp hBr hB1 hf
              have hnot : ¬ (es.length * (G.ti e).size > 2 ^ 24) := by
                have : (2 : Nat) ^ 24 = 16777216 := by decide
                omega
              refine ⟨.slice (some ⟨w.heap.size, 0, none⟩) es.length es.length, w.alloc (.cells ws e), ?_, (Below.refl _ _).alloc (Nat.le_refl _) _, ?_, _, rfl⟩
              · simp only [Instr.buildSlice, Sem.run_bind, run_underlying hu, Result.andThen_ok, hG.size h1, hnot, if_false, Sem.run_pure, hnil, hzr, h4, newRow, run_newObj, World.alloc_eq]
              · have hk : Kept w M (w.alloc (.cells ws e)) M := Below.kept ((Below.refl _ _).alloc (Nat.le_refl _) _)
                have hes' : es ≠ [] := fun h => by subst h; simp at hnil
                refine Rep.sl es (G.ti e).size w.heap.size 0 es.length (fun i j => ws.getD (i * (G.ti e).size + j) undef) hes' hall (Nat.le_refl _) ?_ ?_
                · intro i e' j x hi hj
                  have hx := flatten_at hall hi hj
                  have hlt : i * (G.ti e).size + j < ws.size := by
                    have := h5.1; have := (List.getElem?_eq_some_iff.1 hx).1; simp at this; simp at *; omega
                  refine ⟨h6 x (List.mem_of_getElem? hx), ?_, fun hm => absurd (hM _ _ hm) (by omega)⟩
                  rw [World.cell?_alloc_new]; simp [hlt]
                · intro i e' j x hi hj
                  have hx := flatten_at hall hi hj
                  have hlt : i * (G.ti e).size + j < ws.size := by
                    have := h5.1; have := (List.getElem?_eq_some_iff.1 hx).1; simp at this; simp at *; omega
                  exact (h5.2 _ x _ hx (by simp [hlt])).kept hk
          · cases hy
        · cases hy
    · cases hy
end
end Go.Abs
