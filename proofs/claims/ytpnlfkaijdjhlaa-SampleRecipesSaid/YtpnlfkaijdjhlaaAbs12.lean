/-
  append. Program-independent. The generic layer under all claims of this repo: 12 of several.
-/
import Derived.Test.YtpnlfkaijdjhlaaAbs11
namespace Go.Abs
set_option linter.all false
open Go.RowKit (Below)

section
variable {G : Ctx} {N : Nat} {w0 w w' : World} {M M' M0 : Nat → Nat → Prop} {β β' : Nat → Option Nat} {st : St} {a : Act} {toks toks' : List (Nat × Nat × Nat)} {av : AV} {v : Value}

/-- The cells l lie from ad on, with the values g. -/
def CellsAt (w : World) (M : Nat → Nat → Prop) (ad : Addr) (l : List IV) (g : Nat → Value) : Prop :=
  ∀ (k : Nat) x, l[k]? = some x → x.one = true ∧ w.cell? (ad.add k) = some (g k) ∧ Rep w M x (g k)

theorem flatten_len {α : Type} {s : Nat} : ∀ {es : List (List α)}, (∀ e ∈ es, e.length = s) → es.flatten.length = es.length * s
  | [], _ => by simp
  | e :: es, h => by
    have h0 : e.length = s := h e (by simp)
    simp only [List.flatten_cons, List.length_append, List.length_cons, Nat.add_mul, Nat.one_mul]
    rw [flatten_len (fun x hx => h x (by simp [hx])), h0]; omega
theorem flatten_split {α : Type} {s : Nat} (hs : s ≠ 0) : ∀ {es : List (List α)} {k : Nat} {x : α}, (∀ e ∈ es, e.length = s) → es.flatten[k]? = some x → ∃ e, es[k / s]? = some e ∧ e[k % s]? = some x
  | [], k, x, _, h => by simp at h
  | e :: es, k, x, hl, h => by
    have h0 : e.length = s := hl e (by simp)
    simp only [List.flatten_cons] at h
    by_cases hk : k < s
    · rw [List.getElem?_append_left (by omega)] at h
      exact ⟨e, by rw [Nat.div_eq_of_lt hk]; rfl, by rw [Nat.mod_eq_of_lt hk]; exact h⟩
    · rw [List.getElem?_append_right (by omega), h0] at h
      obtain ⟨e', h1, h2⟩ := flatten_split hs (fun x hx => hl x (by simp [hx])) h
      have e1 : k / s = (k - s) / s + 1 := by rw [← Nat.add_div_right (k - s) (by omega)]; congr 1; omega
      have e2 : k % s = (k - s) % s := by rw [Nat.mod_eq_sub_mod (by omega)]
      exact ⟨e', by rw [e1]; simpa using h1, by rw [e2]; exact h2⟩

theorem sl_cells {es : List (List IV)} {s : Nat} (hs : s ≠ 0) (h : Rep w M (.sl es) v) (hl : ∀ e ∈ es, e.length = s) :
    ∃ ad c g, v = .slice ad es.length c ∧ es.length ≤ c ∧ (es ≠ [] → ∃ b o, ad = some ⟨b, o, none⟩ ∧ CellsAt w M ⟨b, o, none⟩ es.flatten g) := by
  rcases h.sl_inv with ⟨rfl, ad, c, rfl⟩ | ⟨s', b, o, c, u, hne, hs', hc, h4, h5, rfl⟩
  · exact ⟨ad, c, fun _ => undef, rfl, Nat.zero_le _, fun h => absurd rfl h⟩
  · have hss : s = s' := by
      cases es with
      | nil => exact absurd rfl hne
      | cons e es => rw [← hl e (by simp), hs' e (by simp)]
    subst hss
    refine ⟨_, c, fun k => u (k / s) (k % s), rfl, hc, fun _ => ⟨b, o, rfl, fun k x hx => ?_⟩⟩
    obtain ⟨e, h1, h2⟩ := flatten_split hs hl hx
    obtain ⟨h6, h7, _⟩ := h4 _ e _ x h1 h2
    refine ⟨h6, ?_, h5 _ e _ x h1 h2⟩
    rw [Addr.add_lit]
    have : o + k = o + k / s * s + k % s := by have := Nat.div_add_mod k s; rw [Nat.mul_comm] at this; omega
    rw [this]; exact h7

theorem mk_sl {es : List (List IV)} {s b o c : Nat} {g : Nat → Value} (hne : es ≠ []) (hl : ∀ e ∈ es, e.length = s) (hc : es.length ≤ c)
    (h : ∀ (k : Nat) x, es.flatten[k]? = some x → x.one = true ∧ w.cell? ⟨b, o + k, none⟩ = some (g k) ∧ ¬ M b (o + k) ∧ Rep w M x (g k)) :
    Rep w M (.sl es) (.slice (some ⟨b, o, none⟩) es.length c) :=
  .sl es s b o c (fun i j => g (i * s + j)) hne hl hc
    (fun i e j x hi hj => by
      obtain ⟨h1, h2, h3, _⟩ := h _ x (flatten_at hl hi hj)
      rw [← Nat.add_assoc] at h2 h3
      exact ⟨h1, h2, h3⟩)
    (fun i e j x hi hj => (h _ x (flatten_at hl hi hj)).2.2.2)

def tokSt (st : St) (src dst s n : Nat) : St := ⟨st.fr.map fun p => (p.1, p.2.purge dst), del st.rows dst, (dst, s, n) :: del (del st.toks src) dst⟩

theorem get_tokSt (st : St) (src dst s n t : Nat) : (tokSt st src dst s n).get t = (st.get t).purge dst := by
  simp only [St.get, tokSt]
  rw [look_map]
  cases look st.fr t <;> rfl
theorem tok_other {src dst s n k : Nat} {x : Nat × Nat} (hk : k ≠ dst) (h : look (tokSt st src dst s n).toks k = some x) : k ≠ src ∧ look st.toks k = some x := by
  simp only [tokSt, look, hk, if_false, look_del_ne _ hk] at h
  by_cases e : k = src
  · subst e; rw [look_del_same] at h; cases h
  · exact ⟨e, by rwa [look_del_ne _ e] at h⟩

theorem Sim.newTok (h : Sim N w0 M0 β st a w) {src dst s n : Nat} {X : Option Nat}
    (hk : Kept w (Mo M0 β st) w' (Mo M0 (upd β dst X) (tokSt st src dst s n))) (hbelow : Below w0.heap.size w0 w') (hsize : w.heap.size ≤ w'.heap.size)
    (hheap : ∀ k b, β k = some b → ((look st.rows k).isSome ∨ ((look st.toks k).isSome ∧ k ≠ src)) → w'.heap[b]? = w.heap[b]?)
    (hX : ∀ b, X = some b → w0.heap.size ≤ b ∧ b < w'.heap.size ∧ ∀ k, k ≠ src → k ≠ dst → ((look st.rows k).isSome ∨ (look st.toks k).isSome) → β k ≠ some b) :
    (src = dst ∨ (look st.rows src) = none) → Sim N w0 M0 (upd β dst X) (tokSt st src dst s n) a w' := fun hsrc => by
  have hrow : ∀ k x, look (tokSt st src dst s n).rows k = some x → k ≠ dst ∧ look st.rows k = some x := fun k x hk => by
    by_cases e : k = dst
    · subst e; simp [tokSt, look_del_same] at hk
    · exact ⟨e, by simpa [tokSt, look_del_ne _ e] using hk⟩
  refine ⟨h.size, h.defers, hbelow, h.m0, fun t => ?_, fun k s' es hk' => ?_, fun k s' n' hk' b hb => ?_, fun k k' b h1 h2 hb hb' => ?_, fun k hk' => ?_⟩
  · rw [get_tokSt]
    refine ((h.fr t).purge dst).move hk (fun k hr => upd_ne _ _ (purge_refs_ne hr).2) (fun k s' n' hr hl => (tok_other (purge_refs_ne hr).2 hl).2) (fun k b hl hr hb => ?_)
    obtain ⟨⟨s', n'⟩, hl'⟩ := Option.isSome_iff_exists.1 hl
    obtain ⟨h1, h2⟩ := tok_other (purge_refs_ne hr).2 hl'
    exact hheap k b hb (.inr ⟨by simp [h2], h1⟩)
  · obtain ⟨hne, hk2⟩ := hrow k _ hk'
    obtain ⟨b, h1, h2, h3⟩ := h.rows k s' es hk2
    exact ⟨b, by rw [upd_ne _ _ hne]; exact h1, h2, h3.move hk (hheap k b h1 (.inl (by simp [hk2])))⟩
  · by_cases e : k = dst
    · subst e; rw [upd_same] at hb
      exact ⟨(hX b hb).1, (hX b hb).2.1⟩
    · rw [upd_ne _ _ e] at hb
      obtain ⟨h1, h2⟩ := h.toks k s' n' (tok_other e hk').2 b hb
      exact ⟨h1, by omega⟩
  · have dom : ∀ k, ((look (tokSt st src dst s n).rows k).isSome ∨ (look (tokSt st src dst s n).toks k).isSome) → k ≠ dst → ((look st.rows k).isSome ∨ (look st.toks k).isSome) ∧ (k ≠ src ∨ (look st.rows k).isSome) := fun k hk hne => by
      rcases hk with hk | hk
      · obtain ⟨x, hx⟩ := Option.isSome_iff_exists.1 hk
        have := (hrow k x hx).2
        exact ⟨.inl (by simp [this]), .inr (by simp [this])⟩
      · obtain ⟨x, hx⟩ := Option.isSome_iff_exists.1 hk
        have := tok_other hne hx
        exact ⟨.inr (by simp [this.2]), .inl this.1⟩
    have ns : ∀ k, k ≠ dst → (k ≠ src ∨ (look st.rows k).isSome) → k ≠ src := fun k hne hk e => by
      subst e
      rcases hsrc with e | e
      · exact hne e
      · simp [e] at hk
    by_cases e : k = dst <;> by_cases e' : k' = dst
    · omega
    · subst e
      rw [upd_same] at hb; rw [upd_ne _ _ e'] at hb'
      obtain ⟨d1, d2⟩ := dom k' h2 e'
      exact absurd hb' ((hX b hb).2.2 k' (ns k' e' d2) e' d1)
    · subst e'
      rw [upd_same] at hb'; rw [upd_ne _ _ e] at hb
      obtain ⟨d1, d2⟩ := dom k h1 e
      exact absurd hb ((hX b hb').2.2 k (ns k e d2) e d1)
    · rw [upd_ne _ _ e] at hb; rw [upd_ne _ _ e'] at hb'
      exact h.inj k k' b (dom k h1 e).1 (dom k' h2 e').1 hb hb'
  · obtain ⟨x, hx⟩ := Option.isSome_iff_exists.1 hk'
    obtain ⟨hne, hk2⟩ := hrow k x hx
    have := h.excl k (by simp [hk2])
    simp only [tokSt, look, hne, if_false, look_del_ne _ hne]
    by_cases e : k = src
    · subst e; exact look_del_same _ _
    · rw [look_del_ne _ e]; exact this

/-- What the slice that is appended to is: its capacity is its length, or its spare belongs to the token src. -/
def Spare (w : World) (β : Nat → Option Nat) (st : St) (e : TypeId) (src s n : Nat) (v : Value) : Prop :=
  (∃ ad, v = .slice ad n n) ∨
  (look st.toks src = some (s, n) ∧ ∃ b cap cur, β src = some b ∧ v = .slice (some ⟨b, 0, none⟩) n cap ∧ w.heap[b]? = some (.cells cur e (0, 0)) ∧ n ≤ cap ∧ cap ≤ maxLen ∧ cur.size = cap * s)

theorem list_cells {ad : Addr} {l : List IV} {g : Nat → Value} (h : CellsAt w M ad l g) : ∀ j u, ((List.range l.length).map g)[j]? = some u → w.cell? (ad.add j) = some u := by
  intro j u hu
  rw [List.getElem?_map] at hu
  obtain ⟨j', hj', rfl⟩ := Option.map_eq_some_iff.1 hu
  have hjl : j < l.length := by have := (List.getElem?_eq_some_iff.1 hj').1; simpa using this
  obtain rfl : j = j' := by simpa [hjl] using hj'
  exact (h j _ (List.getElem?_eq_getElem hjl)).2.1

theorem append_run (hG : G.Ok) (h : Sim N w0 M0 β st a w) {t e ty : TypeId} {sv xv : Value} {es xs : List (List IV)} {src dst : Nat}
    (h0 : (G.ti t).size ≠ 0) (hk : (G.ti t).kind = .sl e) (h1 : (G.ti e).size ≠ 0) (hby : (G.ti e).bytes ≠ 0) (hle : ∀ c ∈ es, c.length = (G.ti e).size) (hlx : ∀ c ∈ xs, c.length = (G.ti e).size)
    (hbound : (es.length + xs.length) * (G.ti e).bytes ≤ 140737488355328)
    (hs : Rep w (Mo M0 β st) (.sl es) sv) (hsp : Spare w β st e src (G.ti e).size es.length sv) (hsrc : src = dst ∨ look st.rows src = none)
    (hx : ∃ ad c g, xv = .slice ad xs.length c ∧ (xs ≠ [] → ∃ b o, ad = some ⟨b, o, none⟩ ∧ CellsAt w (Mo M0 β st) ⟨b, o, none⟩ xs.flatten g)) :
    ∃ v' w' β', (Builtin.append_ #[t, t] ty #[sv, xv]).run G.P w = .ok v' w' ∧ Sim N w0 M0 β' (tokSt st src dst (G.ti e).size (es.length + xs.length)) a w' ∧
      RepA w' (Mo M0 β' (tokSt st src dst (G.ti e).size (es.length + xs.length))) β' (tokSt st src dst (G.ti e).size (es.length + xs.length)).toks (.vec dst e (G.ti e).size (es ++ xs)) v' := by
  have hu := hG.sl h0 hk
  obtain ⟨i, z, hi, hsz, hbt, hz, _, hzs⟩ := hG.info h1
  obtain ⟨xad, xc, gx, rfl, hxc⟩ := hx
  obtain ⟨sad, sc, gs, rfl, hsc, hsc'⟩ := sl_cells h1 hs hle
  have hle2 : ∀ c ∈ es ++ xs, c.length = (G.ti e).size := fun c hc => (List.mem_append.1 hc).elim (hle c) (hlx c)
  have hlen : (es ++ xs).length = es.length + xs.length := List.length_append
  generalize hS : (G.ti e).size = S at *
  have hfe : es.flatten.length = es.length * S := flatten_len hle
  have hfx : xs.flatten.length = xs.length * S := flatten_len hlx
  have hmax : es.length + xs.length ≤ 140737488355328 := Nat.le_trans (Nat.le_mul_of_pos_right _ (Nat.pos_of_ne_zero hby)) hbound
  have hXlt : ∀ b, β src = some b → look st.toks src = some (S, es.length) → ∀ k, k ≠ src → k ≠ dst → ((look st.rows k).isSome ∨ (look st.toks k).isSome) → β k ≠ some b :=
    fun b hb ht k hne _ hd hkb => hne (h.inj k src b hd (.inr (by simp [ht])) hkb hb)
  by_cases hx0 : xs = []
  · -- nothing is appended
    subst hx0
    simp only [List.append_nil, List.length_nil, Nat.add_zero] at *
    have hrun : (Builtin.append_ #[t, t] ty #[.slice sad es.length sc, .slice xad 0 xc]).run G.P w = .ok (.slice sad es.length sc) w := by
      cases xad <;> cases sad <;> simp [Builtin.append_, run_underlying hu, sizeOf, typeInfo, hi, Builtin.lenOf, Builtin.firstCells, loadCells, loadCellsFrom, storeCells, hsc]
    let X : Option Nat := if look st.toks src = some (S, es.length) then β src else none
    have hMo : ∀ b o, Mo M0 (upd β dst X) (tokSt st src dst S es.length) b o → Mo M0 β st b o := by
      rintro b o (hm | ⟨k, s', es', hk', hkb⟩ | ⟨k, s', n', hk', hkb, ho⟩)
      · exact .inl hm
      · by_cases e' : k = dst
        · subst e'; simp [tokSt, look_del_same] at hk'
        · rw [upd_ne _ _ e'] at hkb
          exact .inr (.inl ⟨k, s', es', by simpa [tokSt, look_del_ne _ e'] using hk', hkb⟩)
      · by_cases e' : k = dst
        · subst e'
          rw [upd_same] at hkb
          simp only [tokSt, look, if_true, Option.some.injEq, Prod.mk.injEq] at hk'
          obtain ⟨rfl, rfl⟩ := hk'
          by_cases ht : look st.toks src = some (S, es.length)
          · have : X = β src := if_pos ht
            rw [this] at hkb
            exact .inr (.inr ⟨src, S, es.length, ht, hkb, ho⟩)
          · have : X = none := if_neg ht
            rw [this] at hkb; cases hkb
        · rw [upd_ne _ _ e'] at hkb
          exact .inr (.inr ⟨k, s', n', (tok_other e' hk').2, hkb, ho⟩)
    have hkept : Kept w (Mo M0 β st) w (Mo M0 (upd β dst X) (tokSt st src dst S es.length)) := Kept.less w hMo
    refine ⟨_, w, upd β dst X, hrun, h.newTok hkept h.below (Nat.le_refl _) (fun _ _ _ _ => rfl) (fun b hb => ?_) hsrc, hs.kept hkept, hle, fun _ => ?_⟩
    · by_cases ht : look st.toks src = some (S, es.length)
      · have : X = β src := if_pos ht
        rw [this] at hb
        obtain ⟨h2, h3⟩ := h.toks src _ _ ht b hb
        exact ⟨h2, h3, hXlt b hb ht⟩
      · have : X = none := if_neg ht
        rw [this] at hb; cases hb
    · rcases hsp with ⟨ad, hsp⟩ | ⟨ht, b, cap, cur, hb, hsp, hh, hcap⟩
      · exact .inl ⟨ad, hsp⟩
      · refine .inr ⟨b, cap, cur, ?_, hsp, hh, hcap⟩
        rw [upd_same]
        have : X = β src := if_pos ht
        rw [this]; exact hb
  · have hxpos : 0 < xs.length := List.length_pos_iff.2 hx0
    obtain ⟨xb, xo, rfl, hxcells⟩ := hxc hx0
    have hne2 : es ++ xs ≠ [] := by simp [hx0]
    have hnews : ∀ j u, ((List.range xs.flatten.length).map gx)[j]? = some u → w.cell? ((⟨xb, xo, none⟩ : Addr).add j) = some u := list_cells hxcells
    have hnl : ((List.range xs.flatten.length).map gx).length = xs.length * i.size := by simp [hfx, hsz]
    have hol : ((List.range es.flatten.length).map gs).length = es.length * i.size := by simp [hfe, hsz]
    have h1c : ∀ u ∈ (List.range xs.flatten.length).map gx, u.oneCell' = true := by
      intro u hu'
      obtain ⟨j, hj, rfl⟩ := List.mem_map.1 hu'
      have hjl : j < xs.flatten.length := by simpa using hj
      obtain ⟨h2, _, h3⟩ := hxcells j _ (List.getElem?_eq_getElem hjl)
      exact h3.oneCell h2
    -- the flattened cells and the values of both
    have hval : ∀ (w2 : World) (M2 : Nat → Nat → Prop), Kept w (Mo M0 β st) w2 M2 → ∀ k x, (es ++ xs).flatten[k]? = some x →
        x.one = true ∧ Rep w2 M2 x (if k < es.flatten.length then gs k else gx (k - es.flatten.length)) := by
      intro w2 M2 hkp k x hkx
      rw [List.flatten_append] at hkx
      by_cases hlt : k < es.flatten.length
      · rw [List.getElem?_append_left hlt] at hkx
        have hesne : es ≠ [] := fun e' => by subst e'; simp at hlt
        obtain ⟨b, o, _, hc⟩ := hsc' hesne
        obtain ⟨h2, _, h3⟩ := hc k x hkx
        rw [if_pos hlt]
        exact ⟨h2, h3.kept hkp⟩
      · rw [List.getElem?_append_right (by omega)] at hkx
        obtain ⟨h2, _, h3⟩ := hxcells _ x hkx
        rw [if_neg hlt]
        exact ⟨h2, h3.kept hkp⟩
    have hflen : (es ++ xs).flatten.length = (es.length + xs.length) * S := by rw [flatten_len hle2, hlen]
    have hseq : ∀ (R : List Value) k, k < (es ++ xs).flatten.length → ((List.range es.flatten.length).map gs ++ (List.range xs.flatten.length).map gx ++ R)[k]? = some (if k < es.flatten.length then gs k else gx (k - es.flatten.length)) := by
      intro R k hkl
      rw [List.flatten_append, List.length_append] at hkl
      rw [List.getElem?_append_left (by simp only [List.length_append, List.length_map, List.length_range]; omega)]
      by_cases hlt : k < es.flatten.length
      · rw [List.getElem?_append_left (by simp only [List.length_map, List.length_range]; exact hlt), if_pos hlt, List.getElem?_map, List.getElem?_range hlt]; rfl
      · rw [List.getElem?_append_right (by simp only [List.length_map, List.length_range]; omega), if_neg hlt]
        simp only [List.length_map, List.length_range]
        rw [List.getElem?_map, List.getElem?_range (by omega)]; rfl
    by_cases hroom : es.length + xs.length ≤ sc
    · -- in place
      rcases hsp with ⟨ad, hsp⟩ | ⟨ht, b, cap, cur, hb, hsp, hh, hcap, hcm, hcs⟩
      · exfalso; simp only [Value.slice.injEq] at hsp; omega
      · simp only [Value.slice.injEq, true_and] at hsp
        obtain ⟨rfl, rfl⟩ := hsp
        have hfit : es.length * i.size + ((List.range xs.flatten.length).map gx).length ≤ cur.size := by
          rw [hnl, hcs, ← Nat.add_mul, hsz]; exact Nat.mul_le_mul_right _ hroom
        have hrun := run_append_room (P := G.P) w t ty e i hu hi b es.length sc cur hh ⟨xb, xo, none⟩ xs.length xc _ hnl hnews h1c hroom hfit
        rw [hnl, hsz] at hrun
        generalize hcells : (cur.toList.take (es.length * S) ++ (List.range xs.flatten.length).map gx ++ cur.toList.drop (es.length * S + xs.length * S)).toArray = cells at hrun
        have hbw := h.toks src _ _ ht b hb
        have hother : ∀ k, k ≠ b → (w.setRow b cells).heap[k]? = w.heap[k]? := fun k hk => setRow_other w b k cells hk
        have hb' : (w.setRow b cells).heap[b]? = some (.cells cells e (0, 0)) := heap_setRow w b cells cur e hh
        have hcsz : cells.size = cur.size := by
          rw [← hcells]
          simp only [List.size_toArray, List.length_append, List.length_take, List.length_drop, Array.length_toList, List.length_map, List.length_range, hfx]
          rw [hnl, hsz] at hfit; omega
        have hcell : ∀ k, k < (es.length + xs.length) * S → cells[k]? = if k < es.length * S then cur[k]? else some (gx (k - es.length * S)) := by
          intro k hkl
          rw [Nat.add_mul] at hkl
          rw [← hcells]
          have hfit' : es.length * S + xs.length * S ≤ cur.size := by rw [hnl, hsz] at hfit; exact hfit
          simp only [List.getElem?_toArray]
          rw [List.getElem?_append_left (by simp [hfx]; omega)]
          by_cases hlt : k < es.length * S
          · rw [List.getElem?_append_left (by simp; omega), if_pos hlt, List.getElem?_take, if_pos hlt]; simp
          · rw [List.getElem?_append_right (by simp; omega), if_neg hlt]
            have : (List.take (es.length * S) cur.toList).length = es.length * S := by simp; omega
            rw [this, List.getElem?_map, List.getElem?_range (by rw [hfx]; omega)]; rfl
        have hMo : ∀ b' o, b' ≠ b ∨ o < es.length * S → ¬ Mo M0 β st b' o → ¬ Mo M0 (upd β dst (some b)) (tokSt st src dst S (es.length + xs.length)) b' o := by
          intro b' o hbo hn hm
          rcases hm with hm | ⟨k, s', es', hk', hkb⟩ | ⟨k, s', n', hk', hkb, ho⟩
          · exact hn (.inl hm)
          · by_cases e' : k = dst
            · subst e'; simp [tokSt, look_del_same] at hk'
            · rw [upd_ne _ _ e'] at hkb
              exact hn (.inr (.inl ⟨k, s', es', by simpa [tokSt, look_del_ne _ e'] using hk', hkb⟩))
          · by_cases e' : k = dst
            · subst e'
              rw [upd_same] at hkb
              cases hkb
              simp only [tokSt, look, if_true, Option.some.injEq, Prod.mk.injEq] at hk'
              obtain ⟨rfl, rfl⟩ := hk'
              rw [Nat.add_mul] at ho
              rcases hbo with hbo | hbo
              · exact hbo rfl
              · omega
            · rw [upd_ne _ _ e'] at hkb
              exact hn (.inr (.inr ⟨k, s', n', (tok_other e' hk').2, hkb, ho⟩))
        have hkept : Kept w (Mo M0 β st) (w.setRow b cells) (Mo M0 (upd β dst (some b)) (tokSt st src dst S (es.length + xs.length))) := by
          intro b' o u hc hn
          by_cases e' : b' = b
          · subst e'
            have holt : o < es.length * S := by
              rcases Nat.lt_or_ge o (es.length * S) with h' | h'
              · exact h'
              · exact absurd (.inr (.inr ⟨src, S, es.length, ht, hb, h'⟩)) hn
            refine ⟨?_, hMo _ _ (.inr holt) hn⟩
            rw [cell_of_row _ b' _ cells e _ hb', hcell o (by rw [Nat.add_mul]; omega), if_pos holt]
            rw [cell_of_row _ b' _ cur e _ hh] at hc
            exact hc
          · refine ⟨?_, hMo _ _ (.inl e') hn⟩
            rw [World.cell?_of_block (w := w) (a := ⟨b', o, none⟩) (hother b' e')]; exact hc
        have hsim := h.newTok (w' := w.setRow b cells) (src := src) (dst := dst) (s := S) (n := es.length + xs.length) (X := some b) hkept
          (h.below.trans ⟨rfl, rfl, rfl, by simp, fun k hk => hother k (by omega)⟩) (by simp)
          (fun k b' hkb hd => hother b' (fun e' => by
            subst e'
            rcases hd with hd | ⟨hd, hne⟩
            · have := h.inj k src b' (.inl hd) (.inr (by simp [ht])) hkb hb
              subst this
              rw [h.excl k hd] at ht; cases ht
            · exact hne (h.inj k src b' (.inr hd) (.inr (by simp [ht])) hkb hb)))
          (fun b' hb2 => by cases hb2; exact ⟨hbw.1, by simpa using hbw.2, hXlt _ hb ht⟩) hsrc
        refine ⟨_, _, _, hrun, hsim, ?_, hle2, fun _ => .inr ⟨b, sc, cells, upd_same _ _ _, by rw [hlen], hb', by rw [hlen]; exact hroom, hcm, by rw [hcsz, hcs]⟩⟩
        have hmk := mk_sl (w := w.setRow b cells) (M := Mo M0 (upd β dst (some b)) (tokSt st src dst S (es.length + xs.length))) (b := b) (o := 0) (c := sc)
          (g := fun k => if k < es.flatten.length then gs k else gx (k - es.flatten.length)) hne2 hle2 (by rw [hlen]; exact hroom) (fun k x hkx => ?_)
        · rw [hlen] at hmk; exact hmk
        have hkl := (List.getElem?_eq_some_iff.1 hkx).1
        obtain ⟨h2, h3⟩ := hval _ _ hkept k x hkx
        rw [Nat.zero_add]
        refine ⟨h2, ?_, ?_, h3⟩
        · rw [hflen] at hkl
          rw [cell_of_row _ b _ cells e _ hb', hcell k hkl, hfe]
          by_cases hlt : k < es.length * S
          · rw [if_pos hlt, if_pos hlt]
            have hesne : es ≠ [] := fun e' => by subst e'; simp at hlt
            obtain ⟨b2, o2, e2, hc⟩ := hsc' hesne
            simp only [Option.some.injEq, Addr.mk.injEq, and_true] at e2
            obtain ⟨rfl, rfl⟩ := e2
            obtain ⟨_, h4, _⟩ := hc k _ (List.getElem?_eq_getElem (by rw [hfe]; exact hlt))
            rw [Addr.add_lit, Nat.zero_add, cell_of_row _ b _ cur e _ hh] at h4
            exact h4
          · rw [if_neg hlt, if_neg hlt]
        · by_cases hlt : k < es.length * S
          · have hesne : es ≠ [] := fun e' => by subst e'; simp at hlt
            -- an old cell: it may be read, so it is none of M
            rcases hs.sl_inv with ⟨e', _⟩ | ⟨s', b2, o2, c2, u2, _, hs2, _, h4, _, he2⟩
            · exact absurd e' hesne
            · simp only [Value.slice.injEq, Option.some.injEq, Addr.mk.injEq, and_true, true_and] at he2
              obtain ⟨⟨rfl, rfl⟩, rfl⟩ := he2
              obtain ⟨e3, h5, h6⟩ := flatten_split h1 hle (List.getElem?_eq_getElem (l := es.flatten) (i := k) (by rw [hfe]; exact hlt))
              have hss : s' = S := by rw [← hs2 e3 (List.mem_of_getElem? h5), hle e3 (List.mem_of_getElem? h5)]
              subst hss
              have := (h4 _ e3 _ _ h5 h6).2.2
              have hidx : 0 + k / s' * s' + k % s' = k := by have := Nat.div_add_mod k s'; rw [Nat.mul_comm] at this; omega
              rw [hidx] at this
              exact hMo _ _ (.inr hlt) this
          · rw [hflen] at hkl
            intro hm
            rcases hm with hm | ⟨k2, s', es', hk', hkb⟩ | ⟨k2, s', n', hk', hkb, ho⟩
            · have := h.m0 b k hm; omega
            · by_cases e' : k2 = dst
              · subst e'; simp [tokSt, look_del_same] at hk'
              · rw [upd_ne _ _ e'] at hkb
                have hk2 : look st.rows k2 = some (s', es') := by simpa [tokSt, look_del_ne _ e'] using hk'
                have := h.inj k2 src b (.inl (by simp [hk2])) (.inr (by simp [ht])) hkb hb
                subst this
                rw [h.excl k2 (by simp [hk2])] at ht; cases ht
            · by_cases e' : k2 = dst
              · subst e'
                simp only [tokSt, look, if_true, Option.some.injEq, Prod.mk.injEq] at hk'
                obtain ⟨rfl, rfl⟩ := hk'
                omega
              · rw [upd_ne _ _ e'] at hkb
                have hk2 := tok_other e' hk'
                exact hk2.1 (h.inj k2 src b (.inr (by simp [hk2.2])) (.inr (by simp [ht])) hkb hb)
    · -- a new array
      have hgrow : ∃ cap cells, (Builtin.append_ #[t, t] ty #[.slice sad es.length sc, .slice (some ⟨xb, xo, none⟩) xs.length xc]).run G.P w =
            .ok (.slice (some ⟨w.heap.size, 0, none⟩) (es.length + xs.length) cap) (w.drew.alloc (.cells cells e)) ∧ es.length + xs.length ≤ cap ∧ cap ≤ maxLen ∧ cells.size = cap * S ∧
            ∃ R : List Value, cells.toList = (List.range es.flatten.length).map gs ++ (List.range xs.flatten.length).map gx ++ R := by
        have hm63 : es.length + xs.length ≤ maxLen := by unfold maxLen; omega
        have hcs : ∀ old, ((List.range es.flatten.length).map gs ++ (List.range xs.flatten.length).map gx).length + (Builtin.zeroCells z.cells (grownCap w (es.length + xs.length) old e - (es.length + xs.length))).size = grownCap w (es.length + xs.length) old e * S := by
          intro old
          have hge := grownCap_ge w (es.length + xs.length) old e
          simp only [List.length_append, List.length_map, List.length_range, hfe, hfx, size_zeroCells, hzs, ← Nat.add_mul]
          congr 1; omega
        cases sad with
        | none =>
          have hes0 : es = [] := by
            rcases Classical.em (es = []) with h' | h'
            · exact h'
            · obtain ⟨_, _, e', _⟩ := hsc' h'; cases e'
          subst hes0
          have hc0 : sc = 0 := by
            rcases hsp with ⟨ad, hsp⟩ | ⟨_, b, cap, cur, _, hsp, _⟩
            · simp only [Value.slice.injEq] at hsp; exact hsp.2.2
            · simp at hsp
          subst hc0
          simp only [List.length_nil, Nat.zero_add, List.flatten_nil, List.range_zero, List.map_nil, List.nil_append] at *
          have hr := run_append_nil (P := G.P) w t ty e i z hu hi hz ⟨xb, xo, none⟩ xs.length xc _ hnl hnews hxpos (by omega) (by rw [hbt]; omega)
          refine ⟨_, _, hr, grownCap_ge _ _ _ _, grownCap_le_maxLen _ _ _ _ hm63, ?_, (Builtin.zeroCells z.cells (grownCap w xs.length 0 e - xs.length)).toList, by rw [Array.toList_append]⟩
          rw [Array.size_append, List.size_toArray]
          exact hcs 0
        | some ad =>
          have holds : ∀ j u, ((List.range es.flatten.length).map gs)[j]? = some u → w.cell? (ad.add j) = some u := by
            rcases Classical.em (es = []) with h' | h'
            · subst h'; intro j u hu'; simp at hu'
            · obtain ⟨b, o, e', hc⟩ := hsc' h'
              cases e'
              exact list_cells hc
          have hr := run_append_grow (P := G.P) w t ty e i z hu hi hz ad es.length sc _ hol holds ⟨xb, xo, none⟩ xs.length xc _ hnl hnews (by omega) (by omega) (growslice_fits (by omega) (by rw [hbt]; exact hbound))
          refine ⟨_, _, hr, grownCap_ge _ _ _ _, grownCap_le_maxLen _ _ _ _ hm63, ?_, (Builtin.zeroCells z.cells (grownCap w (es.length + xs.length) sc e - (es.length + xs.length))).toList, by rw [Array.toList_append, Array.toList_append]⟩
          have := hcs sc
          rw [Array.size_append, Array.size_append, List.size_toArray, List.size_toArray, ← this, List.length_append]
      obtain ⟨cap, cells, hrun, hcap, hcm, hcs, R, hR⟩ := hgrow
      have hnb : ∀ b o, Mo M0 (upd β dst (some w.heap.size)) (tokSt st src dst S (es.length + xs.length)) b o → b ≠ w.heap.size → Mo M0 β st b o := by
        rintro b o (hm | ⟨k, s', es', hk', hkb⟩ | ⟨k, s', n', hk', hkb, ho⟩) hne
        · exact .inl hm
        · by_cases e' : k = dst
          · subst e'; simp [tokSt, look_del_same] at hk'
          · rw [upd_ne _ _ e'] at hkb
            exact .inr (.inl ⟨k, s', es', by simpa [tokSt, look_del_ne _ e'] using hk', hkb⟩)
        · by_cases e' : k = dst
          · subst e'; rw [upd_same] at hkb; cases hkb; exact absurd rfl hne
          · rw [upd_ne _ _ e'] at hkb
            exact .inr (.inr ⟨k, s', n', (tok_other e' hk').2, hkb, ho⟩)
      have hold : ∀ b, b < w.heap.size → (w.drew.alloc (.cells cells e)).heap[b]? = w.heap[b]? := fun b hb => Below.heap_alloc w.drew _ b hb
      have hkept : Kept w (Mo M0 β st) (w.drew.alloc (.cells cells e)) (Mo M0 (upd β dst (some w.heap.size)) (tokSt st src dst S (es.length + xs.length))) := by
        intro b o u hc hn
        have hb : b < w.heap.size := World.block_lt_of_cell? (a := ⟨b, o, none⟩) w hc
        exact ⟨by rw [World.cell?_of_block (w := w) (a := ⟨b, o, none⟩) (hold b hb)]; exact hc, fun hm => hn (hnb b o hm (by omega))⟩
      have hdomlt : ∀ k b, ((look st.rows k).isSome ∨ (look st.toks k).isSome) → β k = some b → b < w.heap.size := fun k b hd hkb => by
        rcases hd with hd | hd
        · obtain ⟨⟨s', es'⟩, hl⟩ := Option.isSome_iff_exists.1 hd
          exact h.mlt (o := 0) (.inr (.inl ⟨k, s', es', hl, hkb⟩))
        · obtain ⟨⟨s', n'⟩, hl⟩ := Option.isSome_iff_exists.1 hd
          exact (h.toks k s' n' hl b hkb).2
      have hsim := h.newTok (w' := w.drew.alloc (.cells cells e)) (src := src) (dst := dst) (s := S) (n := es.length + xs.length) (X := some w.heap.size) hkept
        ((h.below.drew).alloc (by simpa using h.below.size) _) (by simp)
        (fun k b hkb hd => hold b (hdomlt k b (hd.imp id (·.1)) hkb))
        (fun b hb2 => by cases hb2; exact ⟨h.below.size, by simp, fun k _ _ hd hkb => absurd (hdomlt k _ hd hkb) (by omega)⟩) hsrc
      have hb' : (w.drew.alloc (.cells cells e)).heap[w.heap.size]? = some (.cells cells e (0, 0)) := heap_alloc_new w.drew _
      refine ⟨_, _, _, hrun, hsim, ?_, hle2, fun _ => .inr ⟨w.heap.size, cap, cells, upd_same _ _ _, by rw [hlen], hb', by rw [hlen]; exact hcap, hcm, hcs⟩⟩
      have hmk := mk_sl (w := w.drew.alloc (.cells cells e)) (M := Mo M0 (upd β dst (some w.heap.size)) (tokSt st src dst S (es.length + xs.length))) (b := w.heap.size) (o := 0) (c := cap)
        (g := fun k => if k < es.flatten.length then gs k else gx (k - es.flatten.length)) hne2 hle2 (by rw [hlen]; exact hcap) (fun k x hkx => ?_)
      · rw [hlen] at hmk; exact hmk
      have hkl := (List.getElem?_eq_some_iff.1 hkx).1
      obtain ⟨h2, h3⟩ := hval _ _ hkept k x hkx
      rw [Nat.zero_add]
      refine ⟨h2, ?_, ?_, h3⟩
      · rw [cell_of_row _ w.heap.size _ cells e _ hb', ← Array.getElem?_toList, hR]
        exact hseq R k hkl
      · rintro (hm | ⟨k2, s', es', hk', hkb⟩ | ⟨k2, s', n', hk', hkb, ho⟩)
        · have := h.m0 _ _ hm; have := h.below.size; omega
        · by_cases e' : k2 = dst
          · subst e'; simp [tokSt, look_del_same] at hk'
          · rw [upd_ne _ _ e'] at hkb
            exact absurd (hdomlt k2 _ (.inl (by have : look st.rows k2 = some (s', es') := by simpa [tokSt, look_del_ne _ e'] using hk'
                                                simp [this])) hkb) (by omega)
        · by_cases e' : k2 = dst
          · subst e'
            simp only [tokSt, look, if_true, Option.some.injEq, Prod.mk.injEq] at hk'
            obtain ⟨rfl, rfl⟩ := hk'
            rw [hflen] at hkl; omega
          · rw [upd_ne _ _ e'] at hkb
            exact absurd (hdomlt k2 _ (.inr (by simp [(tok_other e' hk').2])) hkb) (by omega)
end
end Go.Abs
