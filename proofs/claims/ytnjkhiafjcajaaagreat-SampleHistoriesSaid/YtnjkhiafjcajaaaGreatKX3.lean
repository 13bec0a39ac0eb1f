/-
  append to a whole slice whose elements may be written. Program-independent. The generic layer under all claims of this repo: behind 12.
-/
import Derived.Test.YtnjkhiafjcajaaaGreatKX2
namespace Go.Abs
set_option linter.all false
open Go.RowKit (Below)

section
variable {G : Ctx} {N : Nat} {w0 : Base} {w w' : World} {M M' M0 : Nat → Nat → Prop} {β β' : Nat → Option Nat} {st : St} {a : Act} {toks toks' : List (Nat × Nat × Nat)} {av : AV} {v : Value}

/-- The row src, grown, is known as dst from now on. -/
def growSt (st : St) (src dst s : Nat) (es : List (List IV)) : St := ⟨st.fr.map fun p => (p.1, (p.2.purge src).purge dst), (dst, s, es) :: del (del st.rows src) dst, del st.toks dst⟩
theorem get_growSt (st : St) (src dst s : Nat) (es : List (List IV)) (t : Nat) : (growSt st src dst s es).get t = ((st.get t).purge src).purge dst := by
  simp only [St.get, growSt]
  rw [look_map st.fr (fun v => (v.purge src).purge dst)]
  cases look st.fr t <;> rfl
theorem row_growSt {src dst s : Nat} {es : List (List IV)} {k : Nat} {x : Nat × List (List IV)} (hk : k ≠ dst) (h : look (growSt st src dst s es).rows k = some x) : k ≠ src ∧ look st.rows k = some x := by
  simp only [growSt, look, hk, if_false, look_del_ne _ hk] at h
  by_cases e : k = src
  · subst e; rw [look_del_same] at h; cases h
  · exact ⟨e, by rwa [look_del_ne _ e] at h⟩
theorem tok_growSt {src dst s : Nat} {es : List (List IV)} {k : Nat} {x : Nat × Nat} (h : look (growSt st src dst s es).toks k = some x) : k ≠ dst ∧ look st.toks k = some x := by
  simp only [growSt] at h
  by_cases e : k = dst
  · subst e; rw [look_del_same] at h; cases h
  · exact ⟨e, by rwa [look_del_ne _ e] at h⟩
theorem Mo_growSt {src dst s X : Nat} {es : List (List IV)} {b o : Nat} (h : Mo M0 (upd β dst (some X)) (growSt st src dst s es) b o) (hb : b ≠ X) : Mo M0 β st b o := by
  rcases h with hm | ⟨k, s', es', hk, hkb⟩ | ⟨k, s', n', hk, hkb, ho⟩
  · exact .inl hm
  · by_cases e : k = dst
    · subst e; rw [upd_same] at hkb; cases hkb; exact absurd rfl hb
    · rw [upd_ne _ _ e] at hkb
      exact .inr (.inl ⟨k, s', es', (row_growSt e hk).2, hkb⟩)
  · obtain ⟨e, hk'⟩ := tok_growSt hk
    rw [upd_ne _ _ e] at hkb
    exact .inr (.inr ⟨k, s', n', hk', hkb, ho⟩)

theorem Sim.grow (h : Sim N w0 M0 β st a w) {src dst s X : Nat} {es : List (List IV)}
    (hk : Kept w (Mo M0 β st) w' (Mo M0 (upd β dst (some X)) (growSt st src dst s es))) (hbelow : w0.Fr w') (hshp : Shp w w') (hsize : w.heap.size ≤ w'.heap.size)
    (hheap : ∀ k b, β k = some b → k ≠ src → ((look st.rows k).isSome ∨ (look st.toks k).isSome) → w'.heap[b]? = w.heap[b]?)
    (hX : ¬ w0.P X ∧ ∀ k, k ≠ src → k ≠ dst → ((look st.rows k).isSome ∨ (look st.toks k).isSome) → β k ≠ some X)
    (htok : look st.toks src = none) (hdN : dst < N) (hrow : RowRep w' (Mo M0 (upd β dst (some X)) (growSt st src dst s es)) X s es) :
    Sim N w0 M0 (upd β dst (some X)) (growSt st src dst s es) a w' := by
  refine ⟨h.size, h.defers, hbelow, h.m0, fun t => ?_, fun k s' es' hk' => ?_, fun k s' n' hk' b hb => ?_, fun k k' b h1 h2 hb hb' => ?_, fun k hk' => ?_, fun k hN hN' hk' => ?_, h.np, perm_upd h.perm (.inl (Nat.lt_of_lt_of_le hdN h.np))⟩
  case refine_6 =>
    have e : k ≠ dst := by omega
    obtain ⟨x, hx⟩ := Option.isSome_iff_exists.1 hk'
    rw [upd_ne _ _ e]
    exact h.nam k hN hN' (by rw [(row_growSt e hx).2]; rfl)
  · rw [get_growSt]
    refine (((h.fr t).purge src).purge dst).move hk (fun k hr => upd_ne _ _ (purge_refs_ne hr).2) (fun k s' n' hr hl => (tok_growSt hl).2) (fun k b hl hr hb => ?_) hshp
    obtain ⟨⟨s', n'⟩, hl'⟩ := Option.isSome_iff_exists.1 hl
    obtain ⟨h1, h2⟩ := tok_growSt hl'
    exact hheap k b hb (fun e => by subst e; rw [htok] at h2; cases h2) (.inr (by simp [h2]))
  · by_cases e : k = dst
    · subst e
      simp only [growSt, look, if_true, Option.some.injEq, Prod.mk.injEq] at hk'
      obtain ⟨rfl, rfl⟩ := hk'
      exact ⟨X, upd_same _ _ _, hX.1, hrow⟩
    · obtain ⟨hne, hk2⟩ := row_growSt e hk'
      obtain ⟨b, h1, h2, h3⟩ := h.rows k s' es' hk2
      exact ⟨b, by rw [upd_ne _ _ e]; exact h1, h2, h3.move hk (hheap k b h1 hne (.inl (by simp [hk2])))⟩
  · obtain ⟨hne, hk2⟩ := tok_growSt hk'
    rw [upd_ne _ _ hne] at hb
    obtain ⟨h1, h2⟩ := h.toks k s' n' hk2 b hb
    exact ⟨h1, by omega⟩
  · have dom : ∀ k, ((look (growSt st src dst s es).rows k).isSome ∨ (look (growSt st src dst s es).toks k).isSome) → k ≠ dst → ((look st.rows k).isSome ∨ (look st.toks k).isSome) ∧ k ≠ src := fun k hk hne => by
      rcases hk with hk | hk
      · obtain ⟨x, hx⟩ := Option.isSome_iff_exists.1 hk
        have := row_growSt hne hx
        exact ⟨.inl (by simp [this.2]), this.1⟩
      · obtain ⟨x, hx⟩ := Option.isSome_iff_exists.1 hk
        have := tok_growSt hx
        exact ⟨.inr (by simp [this.2]), fun e => by subst e; rw [htok] at this; cases this.2⟩
    by_cases e : k = dst <;> by_cases e' : k' = dst
    · omega
    · subst e
      rw [upd_same] at hb; rw [upd_ne _ _ e'] at hb'
      cases hb
      obtain ⟨d1, d2⟩ := dom k' h2 e'
      exact absurd hb' (hX.2 k' d2 e' d1)
    · subst e'
      rw [upd_same] at hb'; rw [upd_ne _ _ e] at hb
      cases hb'
      obtain ⟨d1, d2⟩ := dom k h1 e
      exact absurd hb (hX.2 k d2 e d1)
    · rw [upd_ne _ _ e] at hb; rw [upd_ne _ _ e'] at hb'
      exact h.inj k k' b (dom k h1 e).1 (dom k' h2 e').1 hb hb'
  · obtain ⟨x, hx⟩ := Option.isSome_iff_exists.1 hk'
    by_cases e : k = dst
    · subst e; simp only [growSt, look_del_same]
    · obtain ⟨hne, hk2⟩ := row_growSt e hx
      simp only [growSt, look_del_ne _ e]
      exact h.excl k (by simp [hk2])

/-- The row src, grown, lies in the block X from now on. -/
def growStH (st : St) (src X s : Nat) (es : List (List IV)) : St := ⟨st.fr, (hp X, s, es) :: del st.rows src, st.toks⟩
theorem row_growStH {src X s : Nat} {es : List (List IV)} {k : Nat} {x : Nat × List (List IV)} (hk : k ≠ hp X) (h : look (growStH st src X s es).rows k = some x) : k ≠ src ∧ look st.rows k = some x := by
  simp only [growStH, look, hk, if_false] at h
  by_cases e : k = src
  · subst e; rw [look_del_same] at h; cases h
  · exact ⟨e, by rwa [look_del_ne _ e] at h⟩
theorem Mo_growStH (hβ : ∀ b, β (hp b) = some b) {src s X : Nat} {es : List (List IV)} {b o : Nat} (h : Mo M0 β (growStH st src X s es) b o) (hb : b ≠ X) : Mo M0 β st b o := by
  rcases h with hm | ⟨k, s', es', hk, hkb⟩ | ⟨k, s', n', hk, hkb, ho⟩
  · exact .inl hm
  · by_cases e : k = hp X
    · subst e; rw [hβ] at hkb; cases hkb; exact absurd rfl hb
    · exact .inr (.inl ⟨k, s', es', (row_growStH e hk).2, hkb⟩)
  · exact .inr (.inr ⟨k, s', n', hk, hkb, ho⟩)
theorem Sim.growH (h : Sim N w0 M0 β st a w) {src s X : Nat} {es : List (List IV)}
    (hk : Kept w (Mo M0 β st) w' (Mo M0 β (growStH st src X s es))) (hbelow : w0.Fr w') (hshp : Shp w w') (hsize : w.heap.size ≤ w'.heap.size)
    (hheap : ∀ k b, β k = some b → k ≠ src → ((look st.rows k).isSome ∨ (look st.toks k).isSome) → w'.heap[b]? = w.heap[b]?)
    (hX : ¬ w0.P X ∧ ∀ k, k ≠ src → ((look st.rows k).isSome ∨ (look st.toks k).isSome) → β k ≠ some X)
    (htok : look st.toks src = none) (hrow : RowRep w' (Mo M0 β (growStH st src X s es)) X s es) :
    Sim N w0 M0 β (growStH st src X s es) a w' := by
  have hsrc : ∀ k, (look st.toks k).isSome → k ≠ src := fun k hq e => by rw [e, htok] at hq; cases hq
  refine ⟨h.size, h.defers, hbelow, h.m0, fun t => ?_, fun k s' es' hk' => ?_, fun k s' n' hk' b hb => ?_, fun k k' b h1 h2 hb hb' => ?_, fun k hk' => ?_, fun k hN hN' hk' => ?_, h.np, h.perm⟩
  case refine_6 =>
    have e : k ≠ hp X := fun e => by unfold hp at e; omega
    obtain ⟨x, hx⟩ := Option.isSome_iff_exists.1 hk'
    exact h.nam k hN hN' (by rw [(row_growStH e hx).2]; rfl)
  · exact (h.fr t).move hk (fun k hr => rfl) (fun k s' n' hr hl => hl) (fun k b hl hr hb => hheap k b hb (hsrc k hl) (.inr hl)) hshp
  · by_cases e : k = hp X
    · subst e
      simp only [growStH, look, if_true, Option.some.injEq, Prod.mk.injEq] at hk'
      obtain ⟨rfl, rfl⟩ := hk'
      exact ⟨X, h.perm X, hX.1, hrow⟩
    · obtain ⟨hne, hk2⟩ := row_growStH e hk'
      obtain ⟨b, h1, h2, h3⟩ := h.rows k s' es' hk2
      exact ⟨b, h1, h2, h3.move hk (hheap k b h1 hne (.inl (by simp [hk2])))⟩
  · obtain ⟨h1, h2⟩ := h.toks k s' n' hk' b hb
    exact ⟨h1, by omega⟩
  · have dom : ∀ k, ((look (growStH st src X s es).rows k).isSome ∨ (look (growStH st src X s es).toks k).isSome) → k ≠ hp X → ((look st.rows k).isSome ∨ (look st.toks k).isSome) ∧ k ≠ src := fun k hk hne => by
      rcases hk with hk | hk
      · obtain ⟨x, hx⟩ := Option.isSome_iff_exists.1 hk
        have := row_growStH hne hx
        exact ⟨.inl (by simp [this.2]), this.1⟩
      · exact ⟨.inr hk, hsrc k hk⟩
    by_cases e : k = hp X <;> by_cases e' : k' = hp X
    · omega
    · subst e
      rw [h.perm] at hb
      cases hb
      obtain ⟨d1, d2⟩ := dom k' h2 e'
      exact absurd hb' (hX.2 k' d2 d1)
    · subst e'
      rw [h.perm] at hb'
      cases hb'
      obtain ⟨d1, d2⟩ := dom k h1 e
      exact absurd hb (hX.2 k d2 d1)
    · exact h.inj k k' b (dom k h1 e).1 (dom k' h2 e').1 hb hb'
  · obtain ⟨x, hx⟩ := Option.isSome_iff_exists.1 hk'
    by_cases e : k = hp X
    · subst e
      cases ht : look st.toks (hp X) with
      | none => exact ht
      | some y => exact absurd (h.perm X) (hX.2 _ (hsrc _ (by simp [ht])) (.inr (by simp [ht])))
    · obtain ⟨hne, hk2⟩ := row_growStH e hx
      exact h.excl k (by simp [hk2])

theorem appendX_run (hG : G.Ok) (h : Sim N w0 M0 β st a w) {t e ty : TypeId} {sv xv : Value} {es xs : List (List IV)} {src n : Nat} (ST : Nat → St) (B' : Nat → Nat → Option Nat)
    (hMo : ∀ X b o, Mo M0 (B' X) (ST X) b o → b ≠ X → Mo M0 β st b o)
    (hgrow : ∀ X w', Kept w (Mo M0 β st) w' (Mo M0 (B' X) (ST X)) → w0.Fr w' → Shp w w' → w.heap.size ≤ w'.heap.size →
      (∀ k b, β k = some b → k ≠ src → ((look st.rows k).isSome ∨ (look st.toks k).isSome) → w'.heap[b]? = w.heap[b]?) →
      (¬ w0.P X ∧ ∀ k, k ≠ src → ((look st.rows k).isSome ∨ (look st.toks k).isSome) → β k ≠ some X) → look st.toks src = none → RowRep w' (Mo M0 (B' X) (ST X)) X (G.ti e).size (es.take n ++ xs) → Sim N w0 M0 (B' X) (ST X) a w')
    (h0 : (G.ti t).size ≠ 0) (hk : (G.ti t).kind = .sl e) (h1 : (G.ti e).size ≠ 0) (hby : (G.ti e).bytes ≠ 0) (hlx : ∀ c ∈ xs, c.length = (G.ti e).size)
    (hd : look st.rows src = some ((G.ti e).size, es)) (hn : n ≤ es.length) (hbound : (n + xs.length) * (G.ti e).bytes ≤ 140737488355328)
    (hs : RepA w (Mo M0 β st) β st.toks (.gsl src e (G.ti e).size n) sv) (hx : Rep w (Mo M0 β st) (.sl xs) xv) :
    ∃ v' w' X, (Builtin.append_ #[t, t] ty #[sv, xv]).run G.P w = .ok v' w' ∧ (∀ k, k ≠ src → ((look st.rows k).isSome ∨ (look st.toks k).isSome) → β k ≠ some X) ∧ Sim N w0 M0 (B' X) (ST X) a w' ∧
      ∃ cap cur, v' = .slice (some ⟨X, 0, none⟩) (n + xs.length) cap ∧ w'.heap[X]? = some (.cells cur e (0, 0)) ∧ n + xs.length ≤ cap ∧ cap ≤ maxLen ∧ cur.size = cap * (G.ti e).size := by
  have hu := hG.sl h0 hk
  obtain ⟨i, z, hi, hsz, hbt, hz, _, hzs⟩ := hG.info h1
  obtain ⟨xad, xc, gx, rfl, _, hxc⟩ := sl_cells h1 hx hlx
  obtain ⟨b, cap, cur, hb, rfl, hcur, hcap, hcm, hcs⟩ := hs
  obtain ⟨b', hb', hPb, cur', T', hcur', hes, hcell⟩ := h.rows src _ es hd
  rw [hb] at hb'; cases hb'
  rw [hcur] at hcur'; cases hcur'
  have htok : look st.toks src = none := h.excl src (by simp [hd])
  generalize hS : (G.ti e).size = S at *
  have hlt : (es.take n).length = n := by simp; omega
  have hle : ∀ c ∈ es.take n, c.length = S := fun c hc => hes c (List.mem_of_mem_take hc)
  have hle2 : ∀ c ∈ es.take n ++ xs, c.length = S := fun c hc => (List.mem_append.1 hc).elim (hle c) (hlx c)
  have hfe : (es.take n).flatten.length = n * S := by rw [flatten_len hle, hlt]
  have hfx : xs.flatten.length = xs.length * S := flatten_len hlx
  have hlen : (es.take n ++ xs).length = n + xs.length := by rw [List.length_append, hlt]
  have hmax : n + xs.length ≤ 140737488355328 := Nat.le_trans (Nat.le_mul_of_pos_right _ (Nat.pos_of_ne_zero hby)) hbound
  have hmob : ∀ o, Mo M0 β st b o := fun o => .inr (.inl ⟨src, S, es, hd, hb⟩)
  -- the old cells
  have hold : ∀ k x, (es.take n).flatten[k]? = some x → x.one = true ∧ cur[k]? = some (cur.getD k undef) ∧ Rep w (Mo M0 β st) x (cur.getD k undef) := by
    intro k x hkx
    obtain ⟨c, h2, h3⟩ := flatten_split h1 hle hkx
    rw [List.getElem?_take] at h2
    split at h2
    · obtain ⟨ho, u, hu', hr⟩ := hcell _ c _ x h2 h3
      have hidx : k / S * S + k % S = k := by have := Nat.div_add_mod k S; rw [Nat.mul_comm] at this; omega
      rw [hidx] at hu'
      have : cur.getD k undef = u := by simp [hu']
      exact ⟨ho, by rw [this]; exact hu', by rw [this]; exact hr⟩
    · cases h2
  have hinj : ∀ k, k ≠ src → ((look st.rows k).isSome ∨ (look st.toks k).isSome) → β k ≠ some b := fun k hne hlk hkb => hne (h.inj k src b hlk (.inl (by simp [hd])) hkb hb)
  have hnS : n * S ≤ cur.size := by rw [hcs]; exact Nat.mul_le_mul_right _ hcap
  -- a row out of its cells
  have mkRow : ∀ (w2 : World) (M2 : Nat → Nat → Prop) (cells : Array Value) (X : Nat), w2.heap[X]? = some (.cells cells e (0, 0)) → Kept w (Mo M0 β st) w2 M2 →
      (∀ k, k < n * S → cells[k]? = some (cur.getD k undef)) → (∀ k, k < xs.length * S → cells[n * S + k]? = some (gx k)) → RowRep w2 M2 X S (es.take n ++ xs) := by
    intro w2 M2 cells X hX hkp hc1 hc2
    refine ⟨cells, e, hX, hle2, fun i' c j x hi' hj => ?_⟩
    have hfl := flatten_at hle2 hi' hj
    have hfl' := hfl
    rw [List.flatten_append] at hfl
    by_cases hk' : i' * S + j < n * S
    · rw [List.getElem?_append_left (by omega)] at hfl
      obtain ⟨h2, h3, h4⟩ := hold _ x hfl
      exact ⟨h2, _, hc1 _ hk', h4.kept hkp⟩
    · rw [List.getElem?_append_right (by omega), hfe] at hfl
      have hxne : xs ≠ [] := fun e' => by subst e'; simp at hfl
      obtain ⟨b2, o2, _, hcx⟩ := hxc hxne
      obtain ⟨h2, _, h3⟩ := hcx _ x hfl
      have hkl := (List.getElem?_eq_some_iff.1 hfl).1
      have := hc2 (i' * S + j - n * S) (by omega)
      rw [show n * S + (i' * S + j - n * S) = i' * S + j by omega] at this
      exact ⟨h2, _, this, h3.kept hkp⟩
  by_cases hx0 : xs = []
  · -- nothing is appended
    subst hx0
    have hrun : (Builtin.append_ #[t, t] ty #[.slice (some ⟨b, 0, none⟩) n cap, .slice xad 0 xc]).run G.P w = .ok (.slice (some ⟨b, 0, none⟩) n cap) w := by
      cases xad <;> simp [Builtin.append_, run_underlying hu, sizeOf, typeInfo, hi, Builtin.lenOf, Builtin.firstCells, loadCells, loadCellsFrom, storeCells, hcap]
    have hkept : Kept w (Mo M0 β st) w (Mo M0 (B' b) (ST b)) := Kept.less w fun b' o hm => by
      by_cases e' : b' = b
      · subst e'; exact hmob o
      · exact hMo _ _ _ hm e'
    refine ⟨_, w, b, hrun, hinj, hgrow b w hkept h.below (Shp.refl _) (Nat.le_refl _) (fun _ _ _ _ _ => rfl) ⟨hPb, hinj⟩ htok ?_, cap, cur, rfl, hcur, by simpa using hcap, hcm, hcs⟩
    exact mkRow w _ cur b hcur hkept (fun k hk' => by have : k < cur.size := by omega
                                                      simp [this]) (fun k hk' => by simp at hk')
  · have hxpos : 0 < xs.length := List.length_pos_iff.2 hx0
    obtain ⟨xb, xo, rfl, hxcells⟩ := hxc hx0
    have hnews : ∀ j u, ((List.range xs.flatten.length).map gx)[j]? = some u → w.cell? ((⟨xb, xo, none⟩ : Addr).add j) = some u := list_cells hxcells
    have hnl : ((List.range xs.flatten.length).map gx).length = xs.length * i.size := by simp [hfx, hsz]
    have h1c : ∀ u ∈ (List.range xs.flatten.length).map gx, u.oneCell' = true := by
      intro u hu'
      obtain ⟨j, hj, rfl⟩ := List.mem_map.1 hu'
      have hjl : j < xs.flatten.length := by simpa using hj
      obtain ⟨h2, _, h3⟩ := hxcells j _ (List.getElem?_eq_getElem hjl)
      exact h3.oneCell h2
    by_cases hroom : n + xs.length ≤ cap
    · -- in place
      have hfit : n * i.size + ((List.range xs.flatten.length).map gx).length ≤ cur.size := by
        rw [hnl, hcs, ← Nat.add_mul, hsz]; exact Nat.mul_le_mul_right _ hroom
      have hrun := run_append_room (P := G.P) w t ty e i hu hi b n cap cur hcur ⟨xb, xo, none⟩ xs.length xc _ hnl hnews h1c hroom hfit
      rw [hnl, hsz] at hrun
      rw [hnl, hsz] at hfit
      generalize hcells : (cur.toList.take (n * S) ++ (List.range xs.flatten.length).map gx ++ cur.toList.drop (n * S + xs.length * S)).toArray = cells at hrun
      have hother : ∀ k, k ≠ b → (w.setRow b cells).heap[k]? = w.heap[k]? := fun k hk => setRow_other w b k cells hk
      have hb' : (w.setRow b cells).heap[b]? = some (.cells cells e (0, 0)) := heap_setRow w b cells cur e hcur
      have hcsz : cells.size = cur.size := by
        rw [← hcells]
        simp only [List.size_toArray, List.length_append, List.length_take, List.length_drop, Array.length_toList, List.length_map, List.length_range, hfx]
        omega
      have hshp : Shp w (w.setRow b cells) := fun k cur' T' hk => by
        by_cases e : k = b
        · subst e
          rw [hcur] at hk; cases hk
          exact ⟨cells, hb', hcsz⟩
        · exact ⟨cur', by rw [hother k e]; exact hk, rfl⟩
      have hkept : Kept w (Mo M0 β st) (w.setRow b cells) (Mo M0 (B' b) (ST b)) := by
        refine ⟨fun b' o u hc hnm => ?_, fun b' es2 c hc hnm => ?_, hshp⟩
        · have hne : b' ≠ b := fun e' => by subst e'; exact hnm (hmob o)
          exact ⟨by rw [World.cell?_of_block (w := w) (a := ⟨b', o, none⟩) (hother b' hne)]; exact hc, fun hm => hnm (hMo _ _ _ hm hne)⟩
        · have hne : b' ≠ b := fun e' => by subst e'; exact hnm (hmob 0)
          exact ⟨by rw [hother b' hne]; exact hc, fun hm => hnm (hMo _ _ _ hm hne)⟩
      have hsim := hgrow b _ hkept (h.below.set hPb rfl rfl rfl (by simp) hother hshp) hshp (by simp)
        (fun k b' hkb hne hlk => hother b' (fun e' => by subst e'; exact hne (h.inj k src b' hlk (.inl (by simp [hd])) hkb hb))) ⟨hPb, hinj⟩ htok
        (mkRow _ _ cells b hb' hkept (fun k hk' => by
          rw [← hcells]
          simp only [List.getElem?_toArray]
          rw [List.append_assoc, List.getElem?_append_left (by simp; omega), List.getElem?_take, if_pos hk']
          have : k < cur.size := by omega
          simp [this]) (fun k hk' => by
          rw [← hcells]
          simp only [List.getElem?_toArray]
          have hl : (List.take (n * S) cur.toList).length = n * S := by simp; omega
          rw [List.append_assoc, List.getElem?_append_right (by omega), hl, Nat.add_sub_cancel_left, List.getElem?_append_left (by simp [hfx]; exact hk'), List.getElem?_map, List.getElem?_range (by rw [hfx]; exact hk')]
          rfl))
      exact ⟨_, _, _, hrun, hinj, hsim, cap, cells, rfl, hb', hroom, hcm, by rw [hcsz, hcs]⟩
    · -- a new array
      have holds : ∀ j u, ((List.range (es.take n).flatten.length).map fun k => cur.getD k undef)[j]? = some u → w.cell? ((⟨b, 0, none⟩ : Addr).add j) = some u := by
        intro j u hu'
        rw [List.getElem?_map] at hu'
        obtain ⟨j', hj', rfl⟩ := Option.map_eq_some_iff.1 hu'
        have hjl : j < (es.take n).flatten.length := by have := (List.getElem?_eq_some_iff.1 hj').1; simpa using this
        obtain rfl : j = j' := by have := (List.getElem?_eq_some_iff.1 hj').2; rw [List.getElem_range] at this; exact this
        obtain ⟨_, h3, _⟩ := hold j _ (List.getElem?_eq_getElem hjl)
        rw [Addr.add_lit, Nat.zero_add, cell_of_row w b _ cur e _ hcur]
        exact h3
      have hol : ((List.range (es.take n).flatten.length).map fun k => cur.getD k undef).length = n * i.size := by simp [hfe, hsz]
      have hm63 : n + xs.length ≤ maxLen := by unfold maxLen; omega
      have hr := run_append_grow (P := G.P) w t ty e i z hu hi hz ⟨b, 0, none⟩ n cap _ hol holds ⟨xb, xo, none⟩ xs.length xc _ hnl hnews (by omega) (by omega) (growslice_fits (by omega) (by rw [hbt]; exact hbound))
      have hcap' := grownCap_ge w (n + xs.length) cap e
      have hcm' := grownCap_le_maxLen w (n + xs.length) cap e hm63
      generalize hcells : (((List.range (es.take n).flatten.length).map fun k => cur.getD k undef).toArray ++ ((List.range xs.flatten.length).map gx).toArray ++ Builtin.zeroCells z.cells (grownCap w (n + xs.length) cap e - (n + xs.length))) = cells at hr
      have hcsz : cells.size = grownCap w (n + xs.length) cap e * S := by
        rw [← hcells]
        simp only [Array.size_append, List.size_toArray, List.length_map, List.length_range, hfe, hfx, size_zeroCells, hzs]
        rw [← Nat.add_mul, ← Nat.add_mul]
        congr 1; omega
      have hnew : ∀ k, k < w.heap.size → (w.drew.alloc (.cells cells e)).heap[k]? = w.heap[k]? := fun k hk => Below.heap_alloc w.drew _ k hk
      have hb' : (w.drew.alloc (.cells cells e)).heap[w.heap.size]? = some (.cells cells e (0, 0)) := heap_alloc_new w.drew _
      have hkept : Kept w (Mo M0 β st) (w.drew.alloc (.cells cells e)) (Mo M0 (B' w.heap.size) (ST w.heap.size)) := by
        refine ⟨fun b' o u hc hnm => ?_, fun b' es2 c hc hnm => ?_, Shp.old hnew⟩
        · have hlt' : b' < w.heap.size := World.block_lt_of_cell? (a := ⟨b', o, none⟩) w hc
          exact ⟨by rw [World.cell?_of_block (w := w) (a := ⟨b', o, none⟩) (hnew b' hlt')]; exact hc, fun hm => hnm (hMo _ _ _ hm (by omega))⟩
        · have hlt' : b' < w.heap.size := (Array.getElem?_eq_some_iff.1 hc).1
          exact ⟨by rw [hnew b' hlt']; exact hc, fun hm => hnm (hMo _ _ _ hm (by omega))⟩
      have hdomlt : ∀ k b, ((look st.rows k).isSome ∨ (look st.toks k).isSome) → β k = some b → b < w.heap.size := fun k b hd' hkb => by
        rcases hd' with hd' | hd'
        · obtain ⟨⟨s', es'⟩, hl⟩ := Option.isSome_iff_exists.1 hd'
          exact h.mlt (o := 0) (.inr (.inl ⟨k, s', es', hl, hkb⟩))
        · obtain ⟨⟨s', n'⟩, hl⟩ := Option.isSome_iff_exists.1 hd'
          exact (h.toks k s' n' hl b hkb).2
      have hsim := hgrow w.heap.size (w.drew.alloc (.cells cells e)) hkept ((h.below.drew).alloc _) (Shp.old hnew) (by simp)
        (fun k b' hkb _ hlk => hnew b' (hdomlt k b' hlk hkb)) ⟨fun hp => absurd (Nat.lt_of_lt_of_le (w0.lt _ hp) h.below.size) (Nat.lt_irrefl _), fun k _ hlk hkb => absurd (hdomlt k _ hlk hkb) (Nat.lt_irrefl _)⟩ htok
        (mkRow _ _ cells w.heap.size hb' hkept (fun k hk' => by
          rw [← hcells, Array.getElem?_append_left (by simp [hfe]; omega), Array.getElem?_append_left (by simp [hfe]; omega)]
          simp [hfe, hk']) (fun k hk' => by
          rw [← hcells, Array.getElem?_append_left (by simp [hfe, hfx]; omega), Array.getElem?_append_right (by simp [hfe])]
          simp [hfe, hfx, hk']))
      exact ⟨_, _, _, hr, fun k _ hlk hkb => absurd (hdomlt k _ hlk hkb) (Nat.lt_irrefl _), hsim, _, cells, rfl, hb', hcap', hcm', hcsz⟩
theorem appendG_run (hG : G.Ok) (h : Sim N w0 M0 β st a w) {t e ty : TypeId} {sv xv : Value} {es xs : List (List IV)} {src dst n : Nat} (hdN : dst < N)
    (h0 : (G.ti t).size ≠ 0) (hk : (G.ti t).kind = .sl e) (h1 : (G.ti e).size ≠ 0) (hby : (G.ti e).bytes ≠ 0) (hlx : ∀ c ∈ xs, c.length = (G.ti e).size)
    (hd : look st.rows src = some ((G.ti e).size, es)) (hn : n ≤ es.length) (hbound : (n + xs.length) * (G.ti e).bytes ≤ 140737488355328)
    (hs : RepA w (Mo M0 β st) β st.toks (.gsl src e (G.ti e).size n) sv) (hx : Rep w (Mo M0 β st) (.sl xs) xv) :
    ∃ v' w' β', (Builtin.append_ #[t, t] ty #[sv, xv]).run G.P w = .ok v' w' ∧ Sim N w0 M0 β' (growSt st src dst (G.ti e).size (es.take n ++ xs)) a w' ∧
      RepA w' (Mo M0 β' (growSt st src dst (G.ti e).size (es.take n ++ xs))) β' (growSt st src dst (G.ti e).size (es.take n ++ xs)).toks (.gsl dst e (G.ti e).size (n + xs.length)) v' := by
  obtain ⟨v', w', X, h2, _, h3, cap, cur, rfl, h4, h5, h6, h7⟩ := appendX_run (ty := ty) hG h (fun _ => growSt st src dst (G.ti e).size (es.take n ++ xs)) (fun X => upd β dst (some X)) (fun X b o => Mo_growSt)
    (fun X w' g1 g2 g3 g4 g5 g6 g7 g8 => h.grow g1 g2 g3 g4 g5 ⟨g6.1, fun k hk _ => g6.2 k hk⟩ g7 hdN g8) h0 hk h1 hby hlx hd hn hbound hs hx
  exact ⟨_, w', _, h2, h3, X, cap, cur, upd_same _ _ _, rfl, h4, h5, h6, h7⟩
/-- The same, of a row that lies in a block. -/
theorem appendH_run (hG : G.Ok) (h : Sim N w0 M0 β st a w) {t e ty : TypeId} {sv xv : Value} {es xs : List (List IV)} {b n : Nat}
    (h0 : (G.ti t).size ≠ 0) (hk : (G.ti t).kind = .sl e) (h1 : (G.ti e).size ≠ 0) (hby : (G.ti e).bytes ≠ 0) (hlx : ∀ c ∈ xs, c.length = (G.ti e).size)
    (hd : look st.rows (hp b) = some ((G.ti e).size, es)) (hn : n ≤ es.length) (hbound : (n + xs.length) * (G.ti e).bytes ≤ 140737488355328)
    (hs : Rep w (Mo M0 β st) (.ref b e (G.ti e).size n) sv) (hx : Rep w (Mo M0 β st) (.sl xs) xv) :
    ∃ v' w' X, (Builtin.append_ #[t, t] ty #[sv, xv]).run G.P w = .ok v' w' ∧ look (del st.rows (hp b)) (hp X) = none ∧ Sim N w0 M0 β (growStH st (hp b) X (G.ti e).size (es.take n ++ xs)) a w' ∧
      Rep w' (Mo M0 β (growStH st (hp b) X (G.ti e).size (es.take n ++ xs))) (.ref X e (G.ti e).size (n + xs.length)) v' := by
  have hs' : RepA w (Mo M0 β st) β st.toks (.gsl (hp b) e (G.ti e).size n) sv := by
    cases hs with
    | ref _ _ _ _ cap cur g1 g2 g3 g4 => exact ⟨b, cap, cur, h.perm b, rfl, g1, g2, g3, g4⟩
  obtain ⟨v', w', X, h2, hf, h3, cap, cur, rfl, h4, h5, h6, h7⟩ := appendX_run (ty := ty) hG h (fun X => growStH st (hp b) X (G.ti e).size (es.take n ++ xs)) (fun X => β) (fun X b o => Mo_growStH h.perm)
    (fun X w' g1 g2 g3 g4 g5 g6 g7 g8 => h.growH g1 g2 g3 g4 g5 g6 g7 g8) h0 hk h1 hby hlx hd hn hbound hs' hx
  refine ⟨_, w', X, h2, ?_, h3, .ref X e _ _ cap cur h4 h5 h6 h7⟩
  by_cases e' : hp X = hp b
  · rw [e', look_del_same]
  · rw [look_del_ne _ e']
    cases hl : look st.rows (hp X) with
    | none => rfl
    | some x => exact absurd (h.perm X) (hf (hp X) e' (.inl (by simp [hl])))
end
end Go.Abs

namespace Go.Abs
set_option linter.all false
open Go.RowKit (Below)

abbrev Rows := List (Nat × Nat × List (List IV))
/-- A row's name, renamed. -/
def rnm (ρ : List (Nat × Nat)) (k : Nat) : Nat := (look ρ k).getD k
def AV.rn (ρ : List (Nat × Nat)) : AV → AV
  | .osl d s i n => .osl (rnm ρ d) s i n
  | .gsl d e s n => .gsl (rnm ρ d) e s n
  | .loc d s i j => .loc (rnm ρ d) s i j
  | .mpo d sc kvs => .mpo (rnm ρ d) sc kvs
  | x => x
def AV.toArg : AV → AV
  | .sx es => .im (.sl es)
  | .vec _ _ _ es => .im (.sl es)
  | .mpo _ _ _ => .und
  | x => x
def MoR (M : Nat → Nat → Prop) (β : Nat → Option Nat) (L : Rows) (b o : Nat) : Prop := M b o ∨ ∃ k s es, look L k = some (s, es) ∧ β k = some b
def MoN (M : Nat → Nat → Prop) (β β' : Nat → Option Nat) (L : Rows) (new : Option (Nat × List (List IV))) (b o : Nat) : Prop := MoR M β L b o ∨ (new.isSome ∧ β' 901 = some b)
def Base.ex (w : World) (β : Nat → Option Nat) (L : Rows) : Base := { w := w, P := fun b => b < w.heap.size ∧ ∀ k, (look L k).isSome → β k ≠ some b, lt := fun _ h => h.1, β := β }

/-- WHAT A FUNCTION DOES that writes to the rows L, and may return a slice or a pointer into one of them or into a new row, 901: what it returns, what the rows hold then, and what the new one holds. -/
def CtrM (P : Program) (f : FuncId) (args : List AV) (L : Rows) (φ : AV → List (List (List IV)) → Option (Nat × List (List IV)) → Prop) : Prop :=
  ∀ (w : World) (M : Nat → Nat → Prop) (β : Nat → Option Nat) (vs : List Value), (∀ b o, M b o → b < w.heap.size) →
    (∀ k s es, look L k = some (s, es) → ∃ b, β k = some b ∧ (∀ o, ¬ M b o) ∧ RowRep w (MoR M β L) b s es) →
    (∀ k k' b, (look L k).isSome → (look L k').isSome → β k = some b → β k' = some b → k = k') → (∀ b, β (hp b) = some b) →
    vs.length = args.length → (∀ (i : Nat) av v, args[i]? = some av → vs[i]? = some v → RepA w (MoR M β L) β [] av v) →
    Calls P f vs.toArray w fun en w' => ∃ r v Es new β', φ r Es new ∧ en = .returned v ∧ Es.length = L.length ∧ (r.toArg = r ∧ ∀ k, r.refs k → (look L k).isSome ∨ (new.isSome ∧ k = 901)) ∧ (Base.ex w β L).Fr w' ∧ (∀ k, (look L k).isSome → β' k = β k) ∧
      (∀ (i k s : Nat) es es', L[i]? = some (k, s, es) → Es[i]? = some es' → ∃ b, β k = some b ∧ RowRep w' (MoN M β β' L new) b s es') ∧
      (∀ s es, new = some (s, es) → ∃ b, β' 901 = some b ∧ w.heap.size ≤ b ∧ RowRep w' (MoN M β β' L new) b s es) ∧ RepA w' (MoN M β β' L new) β' [] r v

def setAll (ρ : List (Nat × Nat)) : Rows → Rows → List (List (List IV)) → Rows
  | rs, [], _ => rs
  | rs, _ :: _, [] => rs
  | rs, (k, s, _) :: L, es :: Es => setAll ρ (setRow rs (rnm ρ k) s es) L Es
theorem setAll_ne {ρ : List (Nat × Nat)} {d : Nat} : ∀ (L : Rows) (rs : Rows) (Es : List (List (List IV))), (∀ p ∈ L, rnm ρ p.1 ≠ d) → look (setAll ρ rs L Es) d = look rs d
  | [], rs, Es, _ => by simp [setAll]
  | p :: L, rs, [], _ => by simp [setAll]
  | (k, s, es0) :: L, rs, es :: Es, h => by
    simp only [setAll]
    rw [setAll_ne L _ Es fun p hp => h p (List.mem_cons_of_mem _ hp), look_setRow_ne (Ne.symm (h _ (List.mem_cons_self ..)))]
theorem setAll_some {ρ : List (Nat × Nat)} {d : Nat} : ∀ (L : Rows) (rs : Rows) (Es : List (List (List IV))), (look (setAll ρ rs L Es) d).isSome = (look rs d).isSome
  | [], rs, Es => by simp [setAll]
  | p :: L, rs, [] => by simp [setAll]
  | (k, s, es0) :: L, rs, es :: Es => by
    simp only [setAll]
    rw [setAll_some L, look_setRow_some]
theorem setAll_at {ρ : List (Nat × Nat)} : ∀ (L : Rows) (rs : Rows) (Es : List (List (List IV))) (i k s : Nat) (es es' : List (List IV)), (L.map fun p => rnm ρ p.1).Nodup → L[i]? = some (k, s, es) → Es[i]? = some es' →
    (look rs (rnm ρ k)).isSome → look (setAll ρ rs L Es) (rnm ρ k) = some (s, es')
  | [], rs, Es, i, k, s, es, es', _, h, _, _ => by simp at h
  | p :: L, rs, [], i, k, s, es, es', _, _, h, _ => by simp at h
  | (k0, s0, es0) :: L, rs, e0 :: Es, 0, k, s, es, es', hN, h, h', hs => by
    simp at h h'
    obtain ⟨rfl, rfl, rfl⟩ := h
    subst h'
    simp only [setAll]
    rw [List.map_cons, List.nodup_cons] at hN
    rw [setAll_ne L _ Es fun p hp e => hN.1 (List.mem_map.2 ⟨p, hp, e⟩)]
    exact look_setRow_same hs
  | (k0, s0, es0) :: L, rs, e0 :: Es, i + 1, k, s, es, es', hN, h, h', hs => by
    simp only [setAll]
    rw [List.map_cons, List.nodup_cons] at hN
    exact setAll_at L _ Es i k s es es' hN.2 (by simpa using h) (by simpa using h') (by rw [look_setRow_some]; exact hs)

/-- The state behind such a call. -/
def afterM (st : St) (ρ : List (Nat × Nat)) (L : Rows) (Es : List (List (List IV))) (new : Option (Nat × List (List IV))) (dst : Option Nat) (r : AV) : Option St :=
  match new with
  | none => some ((⟨st.fr, setAll ρ st.rows L Es, st.toks⟩ : St).put dst (r.rn ρ))
  | some (s, es) => match dst with
    | some t => some ⟨(t, r.rn ((901, t) :: ρ)) :: ((⟨st.fr, setAll ρ st.rows L Es, st.toks⟩ : St).fresh t).fr, (t, s, es) :: ((⟨st.fr, setAll ρ st.rows L Es, st.toks⟩ : St).fresh t).rows, ((⟨st.fr, setAll ρ st.rows L Es, st.toks⟩ : St).fresh t).toks⟩
    | none => none

section
variable {G : Ctx} {N : Nat} {w0 : Base} {w w' : World} {M M' M0 : Nat → Nat → Prop} {β β' : Nat → Option Nat} {st : St} {a : Act} {toks toks' : List (Nat × Nat × Nat)} {av : AV} {v : Value}

theorem RepA.toArg (h : RepA w M β toks av v) : RepA w M β toks av.toArg v := by
  cases av <;> first | exact h | exact h.1 | trivial
theorem look_of_mem {α : Type} {l : List (Nat × α)} {k : Nat} {x : α} (hN : (l.map (·.1)).Nodup) (h : (k, x) ∈ l) : look l k = some x := by
  induction l with
  | nil => cases h
  | cons p l ih =>
    obtain ⟨j, y⟩ := p
    rw [List.map_cons, List.nodup_cons] at hN
    rcases List.mem_cons.1 h with e | h
    · cases e; simp [look]
    · have : k ≠ j := fun e => hN.1 (List.mem_map.2 ⟨_, h, e⟩)
      simp only [look, this, if_false]
      exact ih hN.2 h
theorem mem_of_look {α : Type} {l : List (Nat × α)} {k : Nat} {x : α} (h : look l k = some x) : (k, x) ∈ l := by
  induction l with
  | nil => simp [look] at h
  | cons p l ih =>
    obtain ⟨j, y⟩ := p
    by_cases e : k = j
    · subst e; simp only [look, if_true, Option.some.injEq] at h; subst h; exact List.mem_cons_self ..
    · simp only [look, e, if_false] at h; exact List.mem_cons_of_mem _ (ih h)

/-- What the caller hands on. -/
structure Hands (st : St) (ρ : List (Nat × Nat)) (L : Rows) : Prop where
  names : (L.map (·.1)).Nodup
  nodup : (L.map fun p => rnm ρ p.1).Nodup
  rows : ∀ p ∈ L, look st.rows (rnm ρ p.1) = some p.2
  low : ∀ p ∈ ρ, p.1 < 100000
theorem Hands.hp {ρ : List (Nat × Nat)} {L : Rows} (H : Hands st ρ L) (b : Nat) : rnm ρ (hp b) = hp b := by
  unfold rnm
  cases hl : look ρ (Abs.hp b) with
  | none => rfl
  | some x => exact absurd rfl (hp_ne (H.low _ (mem_of_look hl)))
theorem Hands.at {ρ : List (Nat × Nat)} {L : Rows} (H : Hands st ρ L) {k : Nat} (h : (look L k).isSome) : (look st.rows (rnm ρ k)).isSome := by
  obtain ⟨x, hx⟩ := Option.isSome_iff_exists.1 h
  have := H.rows _ (mem_of_look hx)
  rw [this]; rfl
theorem Hands.inj {ρ : List (Nat × Nat)} {L : Rows} (H : Hands st ρ L) {k k' : Nat} (h : (look L k).isSome) (h' : (look L k').isSome) (e : rnm ρ k = rnm ρ k') : k = k' := by
  obtain ⟨x, hx⟩ := Option.isSome_iff_exists.1 h
  obtain ⟨y, hy⟩ := Option.isSome_iff_exists.1 h'
  have h1 := mem_of_look hx
  have h2 := mem_of_look hy
  have hN := H.nodup
  clear H hx hy h h'
  induction L with
  | nil => cases h1
  | cons p L ih =>
    rw [List.map_cons, List.nodup_cons] at hN
    rcases List.mem_cons.1 h1 with e1 | g1 <;> rcases List.mem_cons.1 h2 with e2 | g2
    · rw [← e2] at e1; cases e1; rfl
    · subst e1; exact absurd (List.mem_map.2 ⟨_, g2, e.symm⟩) hN.1
    · subst e2; exact absurd (List.mem_map.2 ⟨_, g1, e⟩) hN.1
    · exact ih g1 g2 hN.2
/-- The cells that the callee must leave alone. -/
def Mh (M0 : Nat → Nat → Prop) (β : Nat → Option Nat) (st : St) (ρ : List (Nat × Nat)) (L : Rows) (b o : Nat) : Prop := Mo M0 β st b o ∧ ∀ k, (look L k).isSome → β (rnm ρ k) ≠ some b

theorem MoR_hand {ρ : List (Nat × Nat)} {L : Rows} (H : Hands st ρ L) {b o : Nat} (h : MoR (Mh M0 β st ρ L) (fun k => β (rnm ρ k)) L b o) : Mo M0 β st b o := by
  rcases h with h | ⟨k, s, es, hk, hb⟩
  · exact h.1
  · obtain ⟨⟨s', es'⟩, hl⟩ := Option.isSome_iff_exists.1 (H.at (k := k) (by simp [hk]))
    exact .inr (.inl ⟨_, s', es', hl, hb⟩)
theorem Sim.hand (h : Sim N w0 M0 β st a w) {ρ : List (Nat × Nat)} {L : Rows} (H : Hands st ρ L) :
    (∀ b o, Mh M0 β st ρ L b o → b < w.heap.size) ∧
    (∀ k s es, look L k = some (s, es) → ∃ b, β (rnm ρ k) = some b ∧ (∀ o, ¬ Mh M0 β st ρ L b o) ∧ RowRep w (MoR (Mh M0 β st ρ L) (fun k => β (rnm ρ k)) L) b s es) ∧
    (∀ k k' b, (look L k).isSome → (look L k').isSome → β (rnm ρ k) = some b → β (rnm ρ k') = some b → k = k') := by
  refine ⟨fun b o hm => h.mlt hm.1, fun k s es hk => ?_, fun k k' b h1 h2 hb hb' => ?_⟩
  · have hl := H.rows _ (mem_of_look hk)
    obtain ⟨b, h1, _, h2⟩ := h.rows _ s es hl
    exact ⟨b, h1, fun o hm => hm.2 k (by simp [hk]) h1, h2.move (Kept.less w fun b o hm => MoR_hand H hm) rfl⟩
  · exact H.inj h1 h2 (h.inj _ _ b (.inl (H.at h1)) (.inl (H.at h2)) hb hb')
theorem RepA.hand {ρ : List (Nat × Nat)} {L : Rows} (H : Hands st ρ L) {av' : AV} (h : RepA w (Mo M0 β st) β st.toks av v) (he : av'.rn ρ = av.toArg) : RepA w (MoR (Mh M0 β st ρ L) (fun k => β (rnm ρ k)) L) (fun k => β (rnm ρ k)) [] av' v := by
  have hk : Kept w (Mo M0 β st) w (MoR (Mh M0 β st ρ L) (fun k => β (rnm ρ k)) L) := Kept.less w fun b o hm => MoR_hand H hm
  have h' := h.toArg
  rw [← he] at h'
  cases av' with
  | im x => exact Rep.kept (w := w) h' hk
  | und => trivial
  | sx es => exact ⟨Rep.kept h'.1 hk, h'.2⟩
  | vec d e s es => exact ⟨Rep.kept h'.1 hk, h'.2.1, fun hl => by simp [look] at hl⟩
  | osl d s i n => exact h'
  | gsl d e s n => exact h'
  | loc d s i j => exact h'
  | mpo d sc kvs => cases av <;> simp [AV.toArg, AV.rn] at he

theorem Base.Fr.ex {B : Base} {βc : Nat → Option Nat} {L : Rows} (h : B.Fr w) (hf : (Base.ex w βc L).Fr w') (hP : ∀ k b, (look L k).isSome → βc k = some b → ¬ B.P b) : B.Fr w' :=
  ⟨hf.os.trans h.os, hf.tape.trans h.tape, hf.output.trans h.output, Nat.le_trans h.size hf.size, fun b hb => by
    rw [← h.block b hb]
    exact hf.block b ⟨Nat.lt_of_lt_of_le (B.lt b hb) h.size, fun k hk e => hP k b hk e hb⟩, h.shp.trans hf.shp⟩

/-- The world behind the call is as the state says, but for a new row. -/
theorem Sim.behind (h : Sim N w0 M0 β st a w) {ρ : List (Nat × Nat)} {L : Rows} (H : Hands st ρ L) {Es : List (List (List IV))} {new : Option (Nat × List (List IV))} (hEl : Es.length = L.length)
    (hf : (Base.ex w (fun k => β (rnm ρ k)) L).Fr w')
    (hE : ∀ (i k s : Nat) es es', L[i]? = some (k, s, es) → Es[i]? = some es' → ∃ b, β (rnm ρ k) = some b ∧ RowRep w' (MoN (Mh M0 β st ρ L) (fun k => β (rnm ρ k)) β' L new) b s es') :
    Sim N w0 M0 β ⟨st.fr, setAll ρ st.rows L Es, st.toks⟩ a w' ∧ (∀ b o, Mo M0 β ⟨st.fr, setAll ρ st.rows L Es, st.toks⟩ b o → MoR (Mh M0 β st ρ L) (fun k => β (rnm ρ k)) L b o) := by
  have hrowP : ∀ k b, (look L k).isSome → β (rnm ρ k) = some b → ¬ w0.P b := fun k b hk hb => by
    obtain ⟨⟨s, es⟩, hl⟩ := Option.isSome_iff_exists.1 (H.at hk)
    obtain ⟨b', h1, h2, _⟩ := h.rows _ s es hl
    rw [hb] at h1; cases h1; exact h2
  have hlive : ∀ d b, ((look st.rows d).isSome ∨ (look st.toks d).isSome) → β d = some b → (∀ k, (look L k).isSome → rnm ρ k ≠ d) → ∀ k, (look L k).isSome → β (rnm ρ k) ≠ some b := fun d b hd hb hne k hk hkb =>
    hne k hk (h.inj _ d b (.inl (H.at hk)) hd hkb hb)
  have hlt : ∀ d b, ((look st.rows d).isSome ∨ (look st.toks d).isSome) → β d = some b → b < w.heap.size := fun d b hd hb => by
    rcases hd with hd | hd
    · obtain ⟨⟨s', es'⟩, hl⟩ := Option.isSome_iff_exists.1 hd
      exact h.mlt (o := 0) (.inr (.inl ⟨d, s', es', hl, hb⟩))
    · obtain ⟨⟨s', n'⟩, hl⟩ := Option.isSome_iff_exists.1 hd
      exact (h.toks d s' n' hl b hb).2
  have htokne : ∀ d, (look st.toks d).isSome → ∀ k, (look L k).isSome → rnm ρ k ≠ d := fun d hd k hk e => by
    subst e
    rw [h.excl _ (H.at hk)] at hd; cases hd
  have hmo : ∀ b o, Mo M0 β ⟨st.fr, setAll ρ st.rows L Es, st.toks⟩ b o → Mo M0 β st b o := by
    rintro b o (hm | ⟨d, s, es, hd, hb⟩ | hm)
    · exact .inl hm
    · have : (look st.rows d).isSome := by rw [← setAll_some L st.rows Es, hd]; rfl
      obtain ⟨⟨x, y⟩, hxy⟩ := Option.isSome_iff_exists.1 this
      exact .inr (.inl ⟨d, x, y, hxy, hb⟩)
    · exact .inr (.inr hm)
  have hback : ∀ b o, Mo M0 β ⟨st.fr, setAll ρ st.rows L Es, st.toks⟩ b o → MoR (Mh M0 β st ρ L) (fun k => β (rnm ρ k)) L b o := by
    intro b o hm
    by_cases hex : ∃ k, (look L k).isSome ∧ β (rnm ρ k) = some b
    · obtain ⟨k, hk, hb⟩ := hex
      obtain ⟨⟨x, y⟩, hxy⟩ := Option.isSome_iff_exists.1 hk
      exact .inr ⟨k, x, y, hxy, hb⟩
    · exact .inl ⟨hmo b o hm, fun k hk hb => hex ⟨k, hk, hb⟩⟩
  have hsame : ∀ b, b < w.heap.size → (∀ k, (look L k).isSome → β (rnm ρ k) ≠ some b) → w'.heap[b]? = w.heap[b]? := fun b hb hne => hf.block b ⟨hb, hne⟩
  have hkept : Kept w (Mo M0 β st) w' (Mo M0 β ⟨st.fr, setAll ρ st.rows L Es, st.toks⟩) := by
    refine ⟨fun b o u hc hn => ?_, fun b es2 c hc hn => ?_, hf.shp⟩
    · have hb : b < w.heap.size := World.block_lt_of_cell? (a := ⟨b, o, none⟩) w hc
      refine ⟨?_, fun hm => hn (hmo b o hm)⟩
      rw [World.cell?_of_block (w := w) (a := ⟨b, o, none⟩) (hsame b hb fun k hk hkb => ?_)]
      · exact hc
      · obtain ⟨⟨s, es⟩, hl⟩ := Option.isSome_iff_exists.1 (H.at hk)
        exact hn (.inr (.inl ⟨_, s, es, hl, hkb⟩))
    · have hb : b < w.heap.size := (Array.getElem?_eq_some_iff.1 hc).1
      refine ⟨?_, fun hm => hn (hmo b 0 hm)⟩
      rw [hsame b hb fun k hk hkb => ?_]
      · exact hc
      · obtain ⟨⟨s, es⟩, hl⟩ := Option.isSome_iff_exists.1 (H.at hk)
        exact hn (.inr (.inl ⟨_, s, es, hl, hkb⟩))
  refine ⟨⟨h.size, h.defers, h.below.ex hf hrowP, h.m0, fun t => ?_, fun d s es hd => ?_, fun d s n hd b hb => ?_, fun d d' b h1 h2 => ?_, fun d hd => ?_, fun k hN hN' hk => h.nam k hN hN' (by rw [← setAll_some L st.rows Es]; exact hk), h.np, h.perm⟩, hback⟩
  · exact (h.fr t).move hkept (fun _ _ => rfl) (fun _ _ _ _ hl => hl) (fun d b hl _ hb => hsame b (hlt d b (.inr hl) hb) (hlive d b (.inr hl) hb (htokne d hl))) hf.shp
  · by_cases hex : ∃ k, (look L k).isSome ∧ rnm ρ k = d
    · obtain ⟨k, hk, rfl⟩ := hex
      obtain ⟨⟨s0, es0⟩, hx⟩ := Option.isSome_iff_exists.1 hk
      obtain ⟨i, hi⟩ := List.getElem?_of_mem (mem_of_look hx)
      have hil : i < Es.length := by rw [hEl]; exact (List.getElem?_eq_some_iff.1 hi).1
      obtain ⟨b, hb, hr⟩ := hE i k s0 es0 _ hi (List.getElem?_eq_getElem hil)
      have := setAll_at (ρ := ρ) L st.rows Es i k s0 es0 _ H.nodup hi (List.getElem?_eq_getElem hil) (H.at hk)
      rw [this] at hd
      simp only [Option.some.injEq, Prod.mk.injEq] at hd
      obtain ⟨rfl, rfl⟩ := hd
      exact ⟨b, hb, hrowP k b hk hb, hr.move (Kept.less w' fun b o hm => .inl (hback b o hm)) rfl⟩
    · rw [setAll_ne L st.rows Es fun p hp e => hex ⟨p.1, by rw [look_of_mem H.names (show (p.1, p.2) ∈ L from hp)]; rfl, e⟩] at hd
      obtain ⟨b, h1, h2, h3⟩ := h.rows d s es hd
      have hne := hlive d b (.inl (by simp [hd])) h1 fun k hk e => hex ⟨k, hk, e⟩
      exact ⟨b, h1, h2, h3.move hkept (hsame b (hlt d b (.inl (by simp [hd])) h1) hne)⟩
  · obtain ⟨h1, h2⟩ := h.toks d s n hd b hb
    exact ⟨h1, Nat.lt_of_lt_of_le h2 hf.size⟩
  · rw [setAll_some] at h1 h2
    exact h.inj d d' b h1 h2
  · rw [setAll_some] at hd
    exact h.excl d hd

/-- A row that the callee has made. -/
theorem Sim.addRow (h : Sim N w0 M0 β st a w) {d s b : Nat} {es : List (List IV)} (hdN : d < N) (hc : st.Clean d) (hb : ¬ w0.P b) (hno : ∀ k, ((look st.rows k).isSome ∨ (look st.toks k).isSome) → β k ≠ some b)
    (hfr : ∀ t, RepA w (Mo M0 (upd β d (some b)) { st with rows := (d, s, es) :: st.rows }) β st.toks (st.get t) (a.tmps.getD t undef))
    (hrows : ∀ k s' es', look st.rows k = some (s', es') → ∃ b', β k = some b' ∧ RowRep w (Mo M0 (upd β d (some b)) { st with rows := (d, s, es) :: st.rows }) b' s' es')
    (hr : RowRep w (Mo M0 (upd β d (some b)) { st with rows := (d, s, es) :: st.rows }) b s es) :
    Sim N w0 M0 (upd β d (some b)) { st with rows := (d, s, es) :: st.rows } a w := by
  refine ⟨h.size, h.defers, h.below, h.m0, fun t => ?_, fun k s' es' hk' => ?_, fun k s' n hk' b' hb' => ?_, fun k k' b' h1 h2 hb1 hb2 => ?_, fun k hk' => ?_, fun k hN hN' hk' => ?_, h.np, perm_upd h.perm (.inl (Nat.lt_of_lt_of_le hdN h.np))⟩
  case refine_6 =>
    have e : k ≠ d := by omega
    rw [upd_ne _ _ e]
    exact h.nam k hN hN' (by simpa [look, e] using hk')
  · exact (hfr t).move (Kept.refl _ _) (fun k hr => upd_ne _ _ (fun e => hc.refs t (e ▸ hr))) (fun k s' n _ hl => hl) (fun _ _ _ _ _ => rfl) (Shp.refl _)
  · by_cases e : k = d
    · subst e
      simp only [look, if_true, Option.some.injEq, Prod.mk.injEq] at hk'
      obtain ⟨rfl, rfl⟩ := hk'
      exact ⟨b, upd_same _ _ _, hb, hr⟩
    · have hk2 : look st.rows k = some (s', es') := by simpa [look, e] using hk'
      obtain ⟨b', h1, h2, _⟩ := h.rows k s' es' hk2
      obtain ⟨b2, h3, h4⟩ := hrows k s' es' hk2
      rw [h1] at h3; cases h3
      exact ⟨b', by rw [upd_ne _ _ e]; exact h1, h2, h4⟩
  · have e : k ≠ d := fun e => by subst e; rw [hc.toks] at hk'; cases hk'
    rw [upd_ne _ _ e] at hb'
    exact h.toks k s' n hk' b' hb'
  · have dom : ∀ k, ((look ((d, s, es) :: st.rows) k).isSome ∨ (look st.toks k).isSome) → k ≠ d → ((look st.rows k).isSome ∨ (look st.toks k).isSome) := fun k hk hne => by
      simpa [look, hne] using hk
    by_cases e : k = d <;> by_cases e' : k' = d
    · omega
    · subst e
      rw [upd_same] at hb1; rw [upd_ne _ _ e'] at hb2
      cases hb1
      exact absurd hb2 (hno k' (dom k' h2 e'))
    · subst e'
      rw [upd_same] at hb2; rw [upd_ne _ _ e] at hb1
      cases hb2
      exact absurd hb1 (hno k (dom k h1 e))
    · rw [upd_ne _ _ e] at hb1; rw [upd_ne _ _ e'] at hb2
      exact h.inj k k' b' (dom k h1 e) (dom k' h2 e') hb1 hb2
  · by_cases e : k = d
    · subst e; exact hc.toks
    · exact h.excl k (by simpa [look, e] using hk')

theorem RepA.back {M2 : Nat → Nat → Prop} {β2 : Nat → Option Nat} {ρ : List (Nat × Nat)} {r : AV} (h : RepA w M β [] r v) (hr : r.toArg = r) (hβ : ∀ k, r.refs k → β k = β2 (rnm ρ k)) (hM : ∀ b o, M2 b o → M b o) : RepA w M2 β2 toks (r.rn ρ) v := by
  cases r with
  | im x => exact Rep.kept (w := w) h (Kept.less w hM)
  | und => trivial
  | sx es => simp [AV.toArg] at hr
  | vec d e s es => simp [AV.toArg] at hr
  | osl d s i n =>
    obtain ⟨ad, c, h1, h2, h3⟩ := h
    exact ⟨ad, c, h1, h2, fun hn => let ⟨b, h4, h5⟩ := h3 hn; ⟨b, by rw [← hβ d rfl]; exact h4, h5⟩⟩
  | gsl d e s n =>
    obtain ⟨b, cap, cur, h1, h2⟩ := h
    exact ⟨b, cap, cur, by rw [← hβ d rfl]; exact h1, h2⟩
  | loc d s i j =>
    obtain ⟨b, h1, h2⟩ := h
    exact ⟨b, by rw [← hβ d rfl]; exact h1, h2⟩
  | mpo d sc kvs => simp [AV.toArg] at hr
theorem rnm_cons (ρ : List (Nat × Nat)) (t k : Nat) : rnm ((901, t) :: ρ) k = if k = 901 then t else rnm ρ k := by
  by_cases h : k = 901
  · subst h; simp [rnm, look]
  · simp only [rnm, look, h, if_false]

/-- Behind a call that writes. -/
theorem Sim.after (h : Sim N w0 M0 β st a w) {ρ : List (Nat × Nat)} {L : Rows} (H : Hands st ρ L) {Es : List (List (List IV))} {new : Option (Nat × List (List IV))} {r : AV} {dst : Option Nat} {st' : St}
    (hd : ∀ d, dst = some d → d < N) (hL : (look L 901) = none) (hdL : ∀ k, (look L k).isSome → dst ≠ some (rnm ρ k)) (hEl : Es.length = L.length) (hr : r.toArg = r ∧ ∀ k, r.refs k → (look L k).isSome ∨ (new.isSome ∧ k = 901))
    (hf : (Base.ex w (fun k => β (rnm ρ k)) L).Fr w') (hβ : ∀ k, (look L k).isSome → β' k = β (rnm ρ k))
    (hE : ∀ (i k s : Nat) es es', L[i]? = some (k, s, es) → Es[i]? = some es' → ∃ b, β (rnm ρ k) = some b ∧ RowRep w' (MoN (Mh M0 β st ρ L) (fun k => β (rnm ρ k)) β' L new) b s es')
    (hN : ∀ s es, new = some (s, es) → ∃ b, β' 901 = some b ∧ w.heap.size ≤ b ∧ RowRep w' (MoN (Mh M0 β st ρ L) (fun k => β (rnm ρ k)) β' L new) b s es)
    (hv : RepA w' (MoN (Mh M0 β st ρ L) (fun k => β (rnm ρ k)) β' L new) β' [] r v) (hst : afterM st ρ L Es new dst r = some st') :
    ∃ β2, Sim N w0 M0 β2 st' (a.put dst v) w' := by
  obtain ⟨hs, hback⟩ := h.behind H hEl hf hE
  cases new with
  | none =>
    simp only [afterM, Option.some.injEq] at hst
    subst hst
    refine ⟨β, hs.put hd (hv.back hr.1 (fun k hk => ?_) fun b o hm => .inl (hback b o hm))⟩
    rcases hr.2 k hk with h1 | ⟨h1, _⟩
    · exact hβ k h1
    · cases h1
  | some p =>
    obtain ⟨s, esn⟩ := p
    cases dst with
    | none => simp [afterM] at hst
    | some t =>
      simp only [afterM, Option.some.injEq] at hst
      subst hst
      obtain ⟨b, hb1, hb2, hb3⟩ := hN s esn rfl
      have hs2 := hs.fresh t
      generalize hst2 : (⟨st.fr, setAll ρ st.rows L Es, st.toks⟩ : St).fresh t = st2 at hs2
      have hcl : st2.Clean t := by rw [← hst2]; exact clean_fresh _ t
      have hlt : ∀ d b, ((look st.rows d).isSome ∨ (look st.toks d).isSome) → β d = some b → b < w.heap.size := fun d b hd hb => by
        rcases hd with hd | hd
        · obtain ⟨⟨s', es'⟩, hl⟩ := Option.isSome_iff_exists.1 hd
          exact h.mlt (o := 0) (.inr (.inl ⟨d, s', es', hl, hb⟩))
        · obtain ⟨⟨s', n'⟩, hl⟩ := Option.isSome_iff_exists.1 hd
          exact (h.toks d s' n' hl b hb).2
      have hrow2 : ∀ k x, look st2.rows k = some x → k ≠ t ∧ look (setAll ρ st.rows L Es) k = some x := fun k x hk => by
        rw [← hst2] at hk
        by_cases e : k = t
        · subst e; simp [St.fresh, look_del_same] at hk
        · exact ⟨e, by simpa [St.fresh, look_del_ne _ e] using hk⟩
      have htok2 : ∀ k x, look st2.toks k = some x → look st.toks k = some x := fun k x hk => by
        rw [← hst2] at hk
        by_cases e : k = t
        · subst e; simp [St.fresh, look_del_same] at hk
        · simpa [St.fresh, look_del_ne _ e] using hk
      have hlive2 : ∀ k, ((look st2.rows k).isSome ∨ (look st2.toks k).isSome) → ((look st.rows k).isSome ∨ (look st.toks k).isSome) := fun k hk => by
        rcases hk with hk | hk
        · obtain ⟨x, hx⟩ := Option.isSome_iff_exists.1 hk
          have := (hrow2 k x hx).2
          exact .inl (by rw [← setAll_some L st.rows Es (ρ := ρ), this]; rfl)
        · obtain ⟨x, hx⟩ := Option.isSome_iff_exists.1 hk
          exact .inr (by rw [htok2 k x hx]; rfl)
      have hM1 : ∀ b' o, Mo M0 (upd β t (some b)) { st2 with rows := (t, s, esn) :: st2.rows } b' o → b' = b ∨ Mo M0 β ⟨st.fr, setAll ρ st.rows L Es, st.toks⟩ b' o := by
        rintro b' o (hm | ⟨k, s', es', hk, hkb⟩ | ⟨k, s', n', hk, hkb, ho⟩)
        · exact .inr (.inl hm)
        · by_cases e : k = t
          · subst e; rw [upd_same] at hkb; cases hkb; exact .inl rfl
          · rw [upd_ne _ _ e] at hkb
            have hk2 : look st2.rows k = some (s', es') := by simpa [look, e] using hk
            exact .inr (.inr (.inl ⟨k, s', es', (hrow2 k _ hk2).2, hkb⟩))
        · have e : k ≠ t := fun e => by
            subst e
            have : look st2.toks k = none := hcl.toks
            rw [this] at hk; cases hk
          rw [upd_ne _ _ e] at hkb
          exact .inr (.inr (.inr ⟨k, s', n', htok2 k _ hk, hkb, ho⟩))
      have hM2 : ∀ b' o, Mo M0 (upd β t (some b)) { st2 with rows := (t, s, esn) :: st2.rows } b' o → MoN (Mh M0 β st ρ L) (fun k => β (rnm ρ k)) β' L (some (s, esn)) b' o := fun b' o hm => by
        rcases hM1 b' o hm with rfl | hm
        · exact .inr ⟨rfl, hb1⟩
        · exact .inl (hback b' o hm)
      have hlive : ∀ d b, ((look st.rows d).isSome ∨ (look st.toks d).isSome) → β d = some b → (∀ k, (look L k).isSome → rnm ρ k ≠ d) → ∀ k, (look L k).isSome → β (rnm ρ k) ≠ some b := fun d b hd hb hne k hk hkb =>
        hne k hk (h.inj _ d b (.inl (H.at hk)) hd hkb hb)
      have hmo : ∀ b o, Mo M0 β ⟨st.fr, setAll ρ st.rows L Es, st.toks⟩ b o → Mo M0 β st b o := fun b o hm => MoR_hand H (hback b o hm)
      have hkept : Kept w (Mo M0 β st) w' (Mo M0 (upd β t (some b)) { st2 with rows := (t, s, esn) :: st2.rows }) := by
        refine ⟨fun b' o u hc hn => ?_, fun b' es2 c hc hn => ?_, hf.shp⟩
        · have hbl : b' < w.heap.size := World.block_lt_of_cell? (a := ⟨b', o, none⟩) w hc
          refine ⟨?_, fun hm => ?_⟩
          · rw [World.cell?_of_block (w := w) (a := ⟨b', o, none⟩) (hf.block b' ⟨hbl, fun k hk hkb => ?_⟩)]
            · exact hc
            · obtain ⟨⟨s', es'⟩, hl⟩ := Option.isSome_iff_exists.1 (H.at hk)
              exact hn (.inr (.inl ⟨_, s', es', hl, hkb⟩))
          · rcases hM1 b' o hm with rfl | hm
            · omega
            · exact hn (hmo b' o hm)
        · have hbl : b' < w.heap.size := (Array.getElem?_eq_some_iff.1 hc).1
          refine ⟨?_, fun hm => ?_⟩
          · rw [hf.block b' ⟨hbl, fun k hk hkb => ?_⟩]
            · exact hc
            · obtain ⟨⟨s', es'⟩, hl⟩ := Option.isSome_iff_exists.1 (H.at hk)
              exact hn (.inr (.inl ⟨_, s', es', hl, hkb⟩))
          · rcases hM1 b' 0 hm with rfl | hm
            · omega
            · exact hn (hmo b' 0 hm)
      have hsim := hs2.addRow (d := t) (s := s) (b := b) (es := esn) (hd t rfl) hcl (fun hp => absurd (Nat.lt_of_lt_of_le (w0.lt _ hp) h.below.size) (by omega)) (fun k hk hkb => by have := hlt k b (hlive2 k hk) hkb; omega)
        (fun u => by
          rw [← hst2, get_fresh]
          rw [hst2]
          refine ((h.fr u).purge t).move hkept (fun _ _ => rfl) (fun k s' n' _ hl => htok2 k _ hl) (fun k b' hl _ hkb => ?_) hf.shp
          obtain ⟨x, hx⟩ := Option.isSome_iff_exists.1 hl
          have hl' : (look st.toks k).isSome := by rw [htok2 k x hx]; rfl
          refine hf.block b' ⟨hlt k b' (.inr hl') hkb, hlive k b' (.inr hl') hkb fun k' hk' e => ?_⟩
          subst e
          rw [h.excl _ (H.at hk')] at hl'; cases hl')
        (fun k s' es' hk => by
          obtain ⟨hne, hk2⟩ := hrow2 k _ hk
          by_cases hex : ∃ k', (look L k').isSome ∧ rnm ρ k' = k
          · obtain ⟨k', hk', rfl⟩ := hex
            obtain ⟨⟨s0, es0⟩, hx⟩ := Option.isSome_iff_exists.1 hk'
            obtain ⟨i, hi⟩ := List.getElem?_of_mem (mem_of_look hx)
            have hil : i < Es.length := by rw [hEl]; exact (List.getElem?_eq_some_iff.1 hi).1
            obtain ⟨b', hb', hr'⟩ := hE i k' s0 es0 _ hi (List.getElem?_eq_getElem hil)
            have := setAll_at (ρ := ρ) L st.rows Es i k' s0 es0 _ H.nodup hi (List.getElem?_eq_getElem hil) (H.at hk')
            rw [this] at hk2
            simp only [Option.some.injEq, Prod.mk.injEq] at hk2
            obtain ⟨rfl, rfl⟩ := hk2
            exact ⟨b', hb', hr'.move (Kept.less w' hM2) rfl⟩
          · rw [setAll_ne L st.rows Es fun p hp e => hex ⟨p.1, by rw [look_of_mem H.names (show (p.1, p.2) ∈ L from hp)]; rfl, e⟩] at hk2
            obtain ⟨b', h1, h2, h3⟩ := h.rows k s' es' hk2
            have hn := hlive k b' (.inl (by simp [hk2])) h1 fun k' hk' e => hex ⟨k', hk', e⟩
            exact ⟨b', h1, h3.move hkept (hf.block b' ⟨hlt k b' (.inl (by simp [hk2])) h1, hn⟩)⟩)
        (hb3.move (Kept.less w' hM2) rfl)
      refine ⟨_, hsim.put (dst := some t) (av := r.rn ((901, t) :: ρ)) hd (hv.back hr.1 (fun k hk => ?_) hM2)⟩
      rw [rnm_cons]
      rcases hr.2 k hk with h1 | ⟨_, h1⟩
      · have hk9 : k ≠ 901 := fun e => by subst e; rw [hL] at h1; cases h1
        rw [if_neg hk9, hβ k h1, upd_ne _ _ (fun e => hdL k h1 (by rw [e]))]
      · subst h1
        rw [if_pos rfl, upd_same, hb1]
end
end Go.Abs

namespace Go.Abs
set_option linter.all false
open Go.RowKit (Below)

def AV.setM (d : Nat) (sc : Nat × Bool) (kvs : List (List Int × List Int)) : AV → AV
  | .mpo d' sc' kvs' => if d' = d then .mpo d sc kvs else .mpo d' sc' kvs'
  | .vec d' e s es => .vec d' e s es
  | .osl d' s i n => .osl d' s i n
  | .gsl d' e s n => .gsl d' e s n
  | .loc d' s i j => .loc d' s i j
  | .im x => .im x
  | .und => .und
  | .sx es => .sx es
def setMFr (d : Nat) (sc : Nat × Bool) (kvs : List (List Int × List Int)) : List (Nat × AV) → List (Nat × AV)
  | [] => []
  | (k, v) :: r => (k, v.setM d sc kvs) :: setMFr d sc kvs r

theorem look_setMFr (d : Nat) (sc : Nat × Bool) (kvs : List (List Int × List Int)) (k : Nat) (l : List (Nat × AV)) : look (setMFr d sc kvs l) k = (look l k).map (AV.setM d sc kvs) := by
  induction l with
  | nil => rfl
  | cons p l ih =>
    obtain ⟨j, v⟩ := p
    by_cases hk : k = j
    · subst hk; simp [setMFr, look]
    · simp [setMFr, look, hk, ih]

section
variable {G : Ctx} {N : Nat} {w0 : Base} {w w' : World} {M M' M0 : Nat → Nat → Prop} {β β' : Nat → Option Nat} {st : St} {a : Act} {toks toks' : List (Nat × Nat × Nat)} {av : AV} {v : Value}

/-- The map d gets new entries. -/
theorem Sim.setMap (h : Sim N w0 M0 β st a w) {d b : Nat} {sc : Nat × Bool} {kvs : List (List Int × List Int)} {es es' : Array MapEntry} {c c' : Nat} (ht : look st.toks d = some (0, 0)) (hb : β d = some b)
    (hm : w.heap[b]? = some (.map es c)) (he : Ents sc kvs es') :
    Sim N w0 M0 β { st with fr := setMFr d sc kvs st.fr } a { w with heap := w.heap.setIfInBounds b (.map es' c') } := by
  have hlt : b < w.heap.size := (Array.getElem?_eq_some_iff.1 hm).1
  have hother : ∀ k, k ≠ b → ({ w with heap := w.heap.setIfInBounds b (.map es' c') } : World).heap[k]? = w.heap[k]? := fun k hk => by
    simp [Array.getElem?_setIfInBounds_ne (Ne.symm hk)]
  have hnew : ({ w with heap := w.heap.setIfInBounds b (.map es' c') } : World).heap[b]? = some (.map es' c') := by simp [hlt]
  have hcne : ∀ (b' : Nat) (cur : Array Value) (T : TypeId), w.heap[b']? = some (.cells cur T (0, 0)) → b' ≠ b := fun b' cur T h1 e => by
    subst e; rw [hm] at h1; cases h1
  have hshp : Shp w { w with heap := w.heap.setIfInBounds b (.map es' c') } := fun k cur T hk => ⟨cur, by rw [hother k (hcne k cur T hk)]; exact hk, rfl⟩
  have hmob : ∀ o, Mo M0 β st b o := fun o => .inr (.inr ⟨d, 0, 0, ht, hb, by simp⟩)
  have hk : Kept w (Mo M0 β st) { w with heap := w.heap.setIfInBounds b (.map es' c') } (Mo M0 β { st with fr := setMFr d sc kvs st.fr }) :=
    ⟨fun b' o u hc hn => by
      have e : b' ≠ b := fun e => by subst e; exact hn (hmob o)
      exact ⟨by rw [World.cell?_of_block (w := w) (a := ⟨b', o, none⟩) (hother b' e)]; exact hc, hn⟩,
     fun b' es2 c2 hc hn => by
      have e : b' ≠ b := fun e => by subst e; exact hn (hmob 0)
      exact ⟨by rw [hother b' e]; exact hc, hn⟩, hshp⟩
  refine ⟨h.size, h.defers, h.below.set (h.toks d 0 0 ht b hb).1 rfl rfl rfl (by simp) hother hshp, h.m0, fun t => ?_, fun k s es2 hk' => ?_, fun k s n hk' b' hb' => ?_, h.inj, h.excl, h.nam, h.np, h.perm⟩
  · have hg : ({ st with fr := setMFr d sc kvs st.fr } : St).get t = (st.get t).setM d sc kvs := by
      simp only [St.get]
      rw [look_setMFr]
      cases look st.fr t <;> rfl
    rw [hg]
    have hfr := h.fr t
    generalize st.get t = av at hfr
    generalize a.tmps.getD t undef = v at hfr
    cases av with
    | im x => exact Rep.kept (w := w) hfr hk
    | und => trivial
    | sx es => exact ⟨Rep.kept hfr.1 hk, hfr.2⟩
    | vec d' e s es2 =>
      refine ⟨Rep.kept hfr.1 hk, hfr.2.1, fun hl => ?_⟩
      rcases hfr.2.2 hl with hc | ⟨b', cap, cur, h1, h2, h3, h4⟩
      · exact .inl hc
      · exact .inr ⟨b', cap, cur, h1, h2, by rw [hother b' (hcne b' cur e h3)]; exact h3, h4⟩
    | osl d' s i n => exact hfr
    | gsl d' e s n =>
      obtain ⟨b', cap, cur, h1, h2, h3, h4⟩ := hfr
      exact ⟨b', cap, cur, h1, h2, by rw [hother b' (hcne b' cur e h3)]; exact h3, h4⟩
    | loc d' s i j => exact hfr
    | mpo d' sc' kvs' =>
      obtain ⟨b', h1, rfl, h3⟩ := hfr
      simp only [AV.setM]
      split
      · rename_i e; subst e
        rw [hb] at h1; cases h1
        exact ⟨b, hb, rfl, fun _ => ⟨es', c', hnew, he⟩⟩
      · rename_i e
        refine ⟨b', h1, rfl, fun hl => ?_⟩
        have hne : b' ≠ b := fun e' => by
          subst e'
          exact e (h.inj d' d b' (.inr (by rw [hl]; rfl)) (.inr (by rw [ht]; rfl)) h1 hb)
        rw [hother b' hne]
        exact h3 hl
  · obtain ⟨b', h1, h2, h3⟩ := h.rows k s es2 hk'
    refine ⟨b', h1, h2, h3.move hk (hother b' ?_)⟩
    obtain ⟨cur, T, h4, _⟩ := h3
    exact hcne b' cur T h4
  · obtain ⟨h1, h2⟩ := h.toks k s n hk' b' hb'
    exact ⟨h1, by simpa using h2⟩

theorem valI_rep {x : AV} {v : Value} {b : Bool} {vs : List Int} (hi : valI x = some (b, vs)) (h : RepA w M β toks x v) : v = elemV b vs := by
  unfold valI at hi
  split at hi
  · cases hi
    exact Rep.sc_inv h
  · split at hi
    · rename_i ns hns
      cases hi
      obtain ⟨us, e, hu, _⟩ := Rep.agg_inv h
      rw [e]
      have := intsI_rep hns hu
      show _ = keyV _
      unfold keyV
      rw [← this]
    · cases hi
  · cases hi
theorem mfind_some : ∀ {l : List (List Int × List Int)} {x v u : List Int} {j i : Nat}, mfind l x j = some (i, v) → ∃ k, i = j + k ∧ l[k]? = some (x, v) ∧ mput l x u = l.set k (x, u)
  | [], x, v, u, j, i, h => by cases h
  | (k, y) :: r, x, v, u, j, i, h => by
    simp only [mfind] at h
    split at h
    · rename_i e
      cases h; subst e
      exact ⟨0, rfl, rfl, by simp [mput]⟩
    · rename_i e
      obtain ⟨k', h1, h2, h3⟩ := mfind_some (u := u) h
      exact ⟨k' + 1, by omega, by simpa using h2, by simp [mput, e, h3]⟩
theorem mfind_none : ∀ {l : List (List Int × List Int)} {x u : List Int} {j : Nat}, mfind l x j = none → mput l x u = l ++ [(x, u)]
  | [], x, u, j, h => rfl
  | (k, y) :: r, x, u, j, h => by
    simp only [mfind] at h
    split at h
    · cases h
    · rename_i e
      simp [mput, e, mfind_none (u := u) h]
theorem mapUpdate_run (hG : G.Ok) {t kt e : TypeId} {n b c : Nat} {sc : Nat × Bool} {kvs : List (List Int × List Int)} {es : Array MapEntry} {ks vs : List Int} (hu : G.P.underlying t = some (.map kt e)) (hk : keyN G kt = some n) (hks : ks.length = n)
    (hsc : sc.1 = n) (hb : w.heap[b]? = some (.map es c)) (he : Ents sc kvs es) :
    ∃ es' c', (Instr.mapUpdate t (.map (some b)) (keyV ks) (elemV sc.2 vs)).run G.P w = .ok () { w with heap := w.heap.setIfInBounds b (.map es' c') } ∧ Ents sc (mput kvs ks vs) es' := by
  have hg : (getObj b).run G.P w = .ok (.map es c) w := by simp [getObj, Sem.run, hb]
  have hs : ∀ o, (setObj b o).run G.P w = .ok () { w with heap := w.heap.setIfInBounds b o } := fun o => by simp [setObj, Sem.run, hb]
  have hf := run_findKey_rows (w := w) hG hk hks (sc := sc) (kvs := kvs) (es := es) (fun _ => hsc) he
  have hck := run_key_check hG hk hks false w
  have hlen : es.toList.length = kvs.length := by have := congrArg List.length he.2; simpa using this
  have hat : ∀ (i : Nat), (es.toList[i]?).map (fun e => (e.key, e.val)) = (kvs[i]?).map (fun p => (keyV p.1, elemV sc.2 p.2)) := fun i => by
    rw [← List.getElem?_map, ← List.getElem?_map, he.2]
  unfold Instr.mapUpdate
  rw [Sem.run_bind, run_underlying hu, Result.andThen_ok]
  simp only [Sem.run_bind, hg, Result.andThen_ok, hck, hf]
  cases hfi : mfind kvs ks 0 with
  | none =>
    refine ⟨es.push { key := keyV ks, val := elemV sc.2 vs, born := c }, c + 1, ?_, ?_, ?_⟩
    · simp only [Option.map_none, hs]
    · rw [mfind_none hfi]
      intro p hp
      rcases List.mem_append.1 hp with hp | hp
      · exact he.1 p hp
      · rw [List.mem_singleton] at hp; subst hp; show ks.length = _; omega
    · rw [mfind_none hfi, Array.toList_push, List.map_append, List.map_append, he.2]; rfl
  | some p =>
    obtain ⟨i, v⟩ := p
    obtain ⟨k, h1, h2, h3⟩ := mfind_some (u := vs) hfi
    rw [Nat.zero_add] at h1; subst h1
    have hkey : ((es[i]?).map (·.key)).getD (keyV ks) = keyV ks := by
      have := hat i
      rw [h2] at this
      simp only [Array.getElem?_toList, Option.map_some] at this
      cases hei : es[i]? with
      | none => rfl
      | some e0 =>
        rw [hei] at this
        simp only [Option.map_some, Option.some.injEq, Prod.mk.injEq] at this
        simp [this.1]
    refine ⟨es.modify i fun e => { e with key := keyV ks, val := elemV sc.2 vs }, c, ?_, ?_, ?_⟩
    · simp only [Option.map_some, Sem.run_bind, hkey, Instr.keyThatStays, sameBits_key, if_true, Sem.run_pure, Result.andThen_ok, hs]
    · rw [h3]
      intro p hp
      rcases List.mem_or_eq_of_mem_set hp with hp | hp
      · exact he.1 p hp
      · subst hp; show ks.length = _; omega
    · rw [h3]
      apply List.ext_getElem?
      intro j
      have hj := hat j
      rw [List.getElem?_map, List.getElem?_map, Array.getElem?_toList, Array.getElem?_modify, List.getElem?_set]
      rw [Array.getElem?_toList] at hj
      by_cases hij : i = j
      · subst hij
        have hik : i < kvs.length := (List.getElem?_eq_some_iff.1 h2).1
        have hil : i < es.size := by rw [← hlen, Array.length_toList] at hik; exact hik
        simp [hik, hil]
      · simp only [if_neg hij]; exact hj
/-- A new map. -/
theorem Sim.newMap (h : Sim N w0 M0 β st a w) {d : Nat} {sc : Nat × Bool} (hd : d < N) :
    Sim N w0 M0 (upd β d (some w.heap.size)) ((tokSt st d d 0 0).put (some d) (.mpo d sc [])) (a.put (some d) (.map (some w.heap.size))) (w.alloc (.map #[] 0)) := by
  have hold : ∀ b, b < w.heap.size → (w.alloc (.map #[] 0)).heap[b]? = w.heap[b]? := fun b hb => heap_alloc_old w _ hb
  have hrowlt : ∀ k b, ((look st.rows k).isSome ∨ (look st.toks k).isSome) → β k = some b → b < w.heap.size := fun k b hk hb => by
    rcases hk with hk | hk
    · obtain ⟨⟨s, es⟩, hl⟩ := Option.isSome_iff_exists.1 hk
      obtain ⟨b', hb', _, cur, T', h1, _⟩ := h.rows k s es hl
      rw [hb] at hb'; cases hb'
      exact (Array.getElem?_eq_some_iff.1 h1).1
    · obtain ⟨⟨s, n⟩, hl⟩ := Option.isSome_iff_exists.1 hk
      exact (h.toks k s n hl b hb).2
  have hmo : ∀ b o, b < w.heap.size → ¬ Mo M0 β st b o → ¬ Mo M0 (upd β d (some w.heap.size)) (tokSt st d d 0 0) b o := by
    intro b o hb hn hm
    rcases hm with hm | ⟨k, s', es', hk, hkb⟩ | ⟨k, s', n, hk, hkb, ho⟩
    · exact hn (.inl hm)
    · have hne : k ≠ d := fun e => by subst e; simp [tokSt, look_del_same] at hk
      rw [upd_ne _ _ hne] at hkb
      simp only [tokSt, look_del_ne _ hne] at hk
      exact hn (.inr (.inl ⟨k, s', es', hk, hkb⟩))
    · by_cases hne : k = d
      · subst hne
        rw [upd_same] at hkb; cases hkb
        exact Nat.lt_irrefl _ hb
      · rw [upd_ne _ _ hne] at hkb
        exact hn (.inr (.inr ⟨k, s', n, (tok_other hne hk).2, hkb, ho⟩))
  have h1 := h.newTok (w' := w.alloc (.map #[] 0)) (src := d) (dst := d) (s := 0) (n := 0) (X := some w.heap.size)
    ⟨fun b o u hc hn => by
      have hb : b < w.heap.size := World.block_lt_of_cell? (a := ⟨b, o, none⟩) w hc
      exact ⟨by rw [World.cell?_alloc_lt w _ _ hb]; exact hc, hmo b o hb hn⟩,
     fun b es c hc hn => by
      have hb := (Array.getElem?_eq_some_iff.1 hc).1
      exact ⟨by rw [hold b hb]; exact hc, hmo b 0 hb hn⟩, Shp.old hold⟩
    (h.below.alloc _) (Shp.old hold) (by simp) (fun k b hkb hk => hold b (hrowlt k b (hk.imp id And.left) hkb))
    (fun b hb => by
      cases hb
      exact ⟨fun hp => absurd (Nat.lt_of_lt_of_le (w0.lt _ hp) h.below.size) (Nat.lt_irrefl _), by simp, fun k _ _ hk hkb => absurd (hrowlt k _ hk hkb) (Nat.lt_irrefl _)⟩) (.inl rfl) (Nat.lt_of_lt_of_le hd h.np)
  exact h1.put (dst := some d) (fun d' e => by cases e; exact hd) ⟨w.heap.size, upd_same _ _ _, rfl, fun _ => ⟨#[], 0, heap_alloc_new w _, by simp, rfl⟩⟩

def aMakeMap (G : Ctx) (K : St → Prop) (st : St) (dst : Option Nat) (t : TypeId) : Prop :=
  match dst, (G.ti t).kind with
  | some d, .mp kt e => match keyN G kt with
    | some n => (G.ti t).size ≠ 0 ∧ K ((tokSt st d d 0 0).put (some d) (.mpo d (n, intK G e) []))
    | none => False
  | _, _ => False
def aMapUp (G : Ctx) (K : St → Prop) (st : St) (dst : Option Nat) (t : TypeId) (m k x : AV) : Prop :=
  match m, keyI k, valI x with
  | .mpo d sc kvs, some ks, some (b, vs) => match (G.ti t).kind with
    | .mp kt e => (G.ti t).size ≠ 0 ∧ look st.toks d = some (0, 0) ∧ keyN G kt = some (nlen ks) ∧ sc = (nlen ks, b) ∧ K (St.put { st with fr := setMFr d sc (mput kvs ks vs) st.fr } dst (.im (.sc undef)))
    | _ => False
  | _, _, _ => False
end
end Go.Abs
