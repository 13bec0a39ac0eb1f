/-
  That the machine does what 'yv' says. Program-independent. The generic layer under all claims of this repo: 7 of several.
-/
import Derived.Test.YtpnlfkaijdjhlaaAbs6
namespace Go.Abs
set_option linter.all false
open Go.RowKit (Below)

section
variable {G : Ctx} {N : Nat} {w0 w : World} {M M0 : Nat → Nat → Prop} {β : Nat → Option Nat} {st : St} {a : Act} {toks : List (Nat × Nat × Nat)} {av : AV} {v : Value}

theorem Sim.mlt (h : Sim N w0 M0 β st a w) {b o : Nat} (hm : Mo M0 β st b o) : b < w.heap.size := by
  rcases hm with hm | ⟨d, s, es, hd, hb⟩ | ⟨d, s, n, hd, hb, _⟩
  · exact Nat.lt_of_lt_of_le (h.m0 b o hm) h.below.size
  · obtain ⟨b', hb', _, cur, T, hc, _⟩ := h.rows d s es hd
    rw [hb] at hb'; cases hb'
    exact (Array.getElem?_eq_some_iff.1 hc).1
  · exact (h.toks d s n hd b hb).2

theorem Rep.sl_inv {es : List (List IV)} (h : Rep w M (.sl es) v) : (es = [] ∧ ∃ a c, v = .slice a 0 c) ∨
    ∃ (s b o c : Nat) (u : Nat → Nat → Value), es ≠ [] ∧ (∀ e ∈ es, e.length = s) ∧ es.length ≤ c ∧
      (∀ (i : Nat) e (j : Nat) x, es[i]? = some e → e[j]? = some x → x.one = true ∧ w.cell? ⟨b, o + i * s + j, none⟩ = some (u i j) ∧ ¬ M b (o + i * s + j)) ∧
      (∀ (i : Nat) e (j : Nat) x, es[i]? = some e → e[j]? = some x → Rep w M x (u i j)) ∧ v = .slice (some ⟨b, o, none⟩) es.length c := by
  cases h with
  | nil a c => exact .inl ⟨rfl, a, c, rfl⟩
  | sl _ s b o c u h1 h2 h3 h4 h5 => exact .inr ⟨s, b, o, c, u, h1, h2, h3, h4, h5, rfl⟩

theorem Rep.sl_len {es : List (List IV)} (h : Rep w M (.sl es) v) : ∃ a c, v = .slice a es.length c ∧ es.length ≤ c := by
  rcases h.sl_inv with ⟨rfl, a, c, rfl⟩ | ⟨s, b, o, c, u, _, _, h3, _, _, rfl⟩
  · exact ⟨a, c, rfl, Nat.zero_le _⟩
  · exact ⟨_, c, rfl, h3⟩

/-- Element i of a slice that is only read, as a pointer. -/
theorem Rep.sl_at {es : List (List IV)} {c : List IV} {i : Nat} (h : Rep w M (.sl es) v) (hi : es[i]? = some c) :
    ∃ b o cap, v = .slice (some ⟨b, o, none⟩) es.length cap ∧ Rep w M (.ip c 0) (.pointer (some ⟨b, o + i * c.length, none⟩)) := by
  rcases h.sl_inv with ⟨rfl, _⟩ | ⟨s, b, o, cap, u, _, hs, _, h4, h5, rfl⟩
  · simp at hi
  · refine ⟨b, o, cap, rfl, ?_⟩
    rw [hs c (List.mem_of_getElem? hi)]
    exact .ip c 0 b (o + i * s) (u i) (fun k x hx => h4 i c k x hi hx) (fun k x hx => h5 i c k x hi hx)

theorem ip_inv {cs : List IV} {j : Nat} (h : Rep w M (.ip cs j) v) : ∃ (b o : Nat) (u : Nat → Value), v = .pointer (some ⟨b, o + j, none⟩) ∧
    (∀ (k : Nat) x, cs[k]? = some x → x.one = true ∧ w.cell? ⟨b, o + k, none⟩ = some (u k) ∧ ¬ M b (o + k)) ∧ (∀ (k : Nat) x, cs[k]? = some x → Rep w M x (u k)) := by
  cases h with
  | ip _ _ b o u h1 h2 => exact ⟨b, o, u, rfl, h1, h2⟩
theorem ip_move {cs : List IV} {j k : Nat} (h : Rep w M (.ip cs j) v) : ∃ b o, v = .pointer (some ⟨b, o, none⟩) ∧ Rep w M (.ip cs (j + k)) (.pointer (some ⟨b, o + k, none⟩)) := by
  obtain ⟨b, o, u, rfl, h1, h2⟩ := ip_inv h
  exact ⟨b, o + j, rfl, by rw [Nat.add_assoc]; exact .ip cs (j + k) b o u h1 h2⟩

/-! ### load -/
theorem row_cells {b s : Nat} {es : List (List IV)} {c : List IV} {i : Nat} (h : RowRep w M b s es) (hi : es[i]? = some c) :
    ∃ u : Nat → Value, ∀ k x, c[k]? = some x → x.one = true ∧ w.cell? ⟨b, i * s + k, none⟩ = some (u k) ∧ Rep w M x (u k) := by
  obtain ⟨cur, T, hc, _, h3⟩ := h
  refine ⟨fun k => cur.getD (i * s + k) undef, fun k x hx => ?_⟩
  obtain ⟨ho, u, hu, hr⟩ := h3 i c k x hi hx
  have e : cur.getD (i * s + k) undef = u := by simp [hu]
  refine ⟨ho, ?_, by show Rep w M x (cur.getD (i * s + k) undef); rw [e]; exact hr⟩
  show _ = some (cur.getD (i * s + k) undef)
  rw [cell_of_row w b _ cur T _ hc, e, hu]

theorem yLoad_run (hG : G.Ok) (h : Sim N w0 M0 β st a w) {t : TypeId} {p av : AV} {pv : Value} (hp : RepA w (Mo M0 β st) β st.toks p pv) (hy : yLoad G st t p = some av) :
    ∃ v, (Instr.loadAt t pv).run G.P w = .ok v w ∧ RepA w (Mo M0 β st) β st.toks av v := by
  unfold yLoad at hy
  split at hy
  · cases hy
  · rename_i h0
    split at hy
    · rename_i c j
      obtain ⟨b, o, u, rfl, h1, h2⟩ := ip_inv hp
      obtain ⟨v, x, hr, rfl, hx⟩ := run_loadVar_cells hG h0 (M := Mo M0 β st) (b := b) (o := o) (u := u) (w := w) (fun k x hx => ⟨(h1 k x hx).1, (h1 k x hx).2.1, h2 k x hx⟩) hy
      exact ⟨v, by simpa [Instr.loadAt, Instr.sureAddr] using hr, hx⟩
    · rename_i d s i j
      split at hy
      · rename_i s' es hd
        split at hy
        · rename_i hs
          subst hs
          split at hy
          · rename_i c hi
            obtain ⟨b, hb, rfl⟩ := hp
            obtain ⟨b', hb', _, hrow⟩ := h.rows d s' es hd
            rw [hb] at hb'; cases hb'
            obtain ⟨u, hu⟩ := row_cells hrow hi
            obtain ⟨v, x, hr, rfl, hx⟩ := run_loadVar_cells hG h0 (M := Mo M0 β st) (b := b) (o := i * s') (u := u) (w := w) hu hy
            exact ⟨v, by simpa [Instr.loadAt, Instr.sureAddr] using hr, hx⟩
          · cases hy
        · cases hy
      · cases hy
    · cases hy

/-! ### fieldAddr, field -/
theorem yField_run (hG : G.Ok) {t : TypeId} {f off : Nat} {ty : TypeId} (hy : yField G t f = some (off, ty)) :
    ∃ gs fd, G.P.underlying t = some (.struct gs) ∧ gs[f]? = some fd ∧ fd.offset = off ∧ fd.type = ty ∧ (G.ti ty).size ≠ 0 := by
  unfold yField at hy
  split at hy
  · cases hy
  · rename_i h0
    split at hy
    · rename_i fs hk
      split at hy
      · rename_i off' ty' hf
        split at hy
        · cases hy
        · rename_i h1
          cases hy
          obtain ⟨gs, hu, hgs⟩ := hG.st h0 hk
          rw [← hgs, List.getElem?_map] at hf
          obtain ⟨fd, hfd, e⟩ := Option.map_eq_some_iff.1 hf
          simp only [Prod.mk.injEq] at e
          exact ⟨gs, fd, hu, by simpa using hfd, e.1, e.2, h1⟩
      · cases hy
    · cases hy

theorem fieldAt_run (hG : G.Ok) {t : TypeId} {f off : Nat} {ty : TypeId} (hy : yField G t f = some (off, ty)) (b o : Nat) :
    (Instr.fieldAt t (.pointer (some ⟨b, o, none⟩)) f).run G.P w = .ok (.pointer (some ⟨b, o + off, none⟩)) w := by
  obtain ⟨gs, fd, hu, hf, rfl, rfl, h1⟩ := yField_run hG hy
  simp only [Instr.fieldAt, Sem.run_bind, run_underlying hu, Result.andThen_ok, hf, Instr.sureAddr, Sem.run_pure, fieldPlace, hG.size h1, h1, if_false, Addr.add_lit]

theorem part_run (hG : G.Ok) {t : TypeId} (h0 : (G.ti t).size ≠ 0) {cs : List IV} {us : Array Value} {off : Nat} {av : AV} (h : RepL w M cs us.toList) (ho : ∀ x ∈ cs, x.one = true) (hc : cellsAt G t cs off = some av) :
    ∃ v x, (part t us off).run G.P w = .ok v w ∧ av = .im x ∧ Rep w M x v := by
  unfold cellsAt at hc
  unfold part
  simp only [Sem.run_bind, hG.isAgg h0, Result.andThen_ok]
  have hl : cs.length = us.size := by simpa using h.1
  split at hc
  · rename_i hk
    split at hc
    · rename_i hle
      cases hc
      refine ⟨.agg (us.extract off (off + (G.ti t).size)), _, ?_, rfl, ?_⟩
      · simp only [hk, if_true, Sem.run_bind, hG.size h0, Result.andThen_ok, Sem.run_pure]
      · refine .agg _ _ (by simp; omega) (fun x hx => ho x (List.mem_of_mem_drop (List.mem_of_mem_take hx))) (fun k x v hx hv => ?_)
        rw [List.getElem?_take] at hx
        split at hx
        · rename_i hkl
          rw [List.getElem?_drop] at hx
          refine h.2 (off + k) x v hx ?_
          rw [Array.getElem?_extract] at hv
          split at hv
          · simpa using hv
          · cases hv
        · cases hx
    · cases hc
  · rename_i hk
    split at hc
    · rename_i x hx
      cases hc
      have hlt : off < us.size := by rw [← hl]; exact (List.getElem?_eq_some_iff.1 hx).1
      refine ⟨us[off], x, ?_, rfl, h.2 off x _ hx (by simp [hlt])⟩
      simp only [hk, Bool.false_eq_true, if_false, Array.getElem?_eq_getElem hlt, Sem.run_pure]
    · cases hc

/-! ### indexAddr, index -/
theorem yIndexAddr_run (hG : G.Ok) {t : TypeId} {x av : AV} {xv : Value} {n : Int} {k : IntKind} (hx : RepA w M β toks x xv) (hy : yIndexAddr G t x n = some av) :
    ∃ v, (Instr.indexAt t xv (.int k n)).run G.P w = .ok v w ∧ RepA w M β toks av v := by
  unfold yIndexAddr at hy
  split at hy
  · cases hy
  · rename_i h0
    split at hy
    · rename_i e hk
      have hu := hG.sl h0 hk
      split at hy
      · cases hy
      · rename_i h1
        have hel : G.P.elem t = e := by simp [Program.elem, hu]
        have hu' : G.P.underlying t = some (.slice (G.P.elem t)) := by rw [hel]; exact hu
        split at hy
        · rename_i d s i m
          split at hy
          · rename_i hc
            obtain ⟨hc1, hc2, hc3⟩ := hc
            cases hy
            obtain ⟨ad, c, hmc, rfl, had⟩ := hx
            obtain ⟨b, hb, rfl⟩ := had (by omega)
            refine ⟨_, by rw [run_indexAt_slice w t _ m c k n hu', if_pos ⟨hc1, hc2⟩, hel, hG.size h1, Result.andThen_ok], b, hb, ?_⟩
            rw [Addr.add_lit, ← hc3, ← Nat.add_mul]; rfl
          · cases hy
        · rename_i x _
          split at hy
          · rename_i es hes
            have hr := sliceEls_rep hx hes
            split at hy
            · rename_i hn
              split at hy
              · rename_i c hi
                split at hy
                · rename_i hlen
                  cases hy
                  obtain ⟨b, o, cap, rfl, hp⟩ := hr.sl_at hi
                  have hlt : n.toNat < es.length := (List.getElem?_eq_some_iff.1 hi).1
                  refine ⟨_, by rw [run_indexAt_slice w t _ es.length cap k n hu', if_pos ⟨hn, by omega⟩, hel, hG.size h1, Result.andThen_ok], ?_⟩
                  rw [Addr.add_lit, ← hlen]; exact hp
                · cases hy
              · cases hy
            · cases hy
          · cases hy
    · rename_i len e hk
      have hu := hG.arr h0 hk
      have hel : G.P.elem t = e := by simp [Program.elem, hu]
      have hln : G.P.arrayLen t = len := by simp [Program.arrayLen, hu]
      have hu' : G.P.underlying t = some (.array (G.P.arrayLen t) (G.P.elem t)) := by rw [hel, hln]; exact hu
      split at hy
      · cases hy
      · rename_i h1
        split at hy
        · rename_i hc
          split at hy
          · rename_i d s i j
            cases hy
            obtain ⟨b, hb, rfl⟩ := hx
            refine ⟨_, by rw [run_indexAt_array w t _ k n hu', hln, if_pos hc, hel, hG.size h1, Result.andThen_ok], b, hb, ?_⟩
            rw [Addr.add_lit, Nat.add_assoc]
          · rename_i c j
            cases hy
            obtain ⟨b, o, rfl, hp⟩ := ip_move (k := n.toNat * (G.ti e).size) hx
            refine ⟨_, by rw [run_indexAt_array w t _ k n hu', hln, if_pos hc, hel, hG.size h1, Result.andThen_ok], ?_⟩
            rw [Addr.add_lit]; exact hp
          · cases hy
        · cases hy
    · cases hy

theorem yIndex_run (hG : G.Ok) {t : TypeId} {x av : AV} {xv : Value} {n : Int} {k : IntKind} (hx : RepA w M β toks x xv) (hy : yIndex G t x n = some av) :
    ∃ v, (Instr.index t xv (.int k n)).run G.P w = .ok v w ∧ RepA w M β toks av v := by
  unfold yIndex at hy
  split at hy
  · cases hy
  · rename_i h0
    split at hy
    · rename_i len e hk
      have hu := hG.arr h0 hk
      split at hy
      · cases hy
      · rename_i h1
        split at hy
        · rename_i hc
          split at hy
          · rename_i cs
            obtain ⟨us, rfl, hr, ho⟩ := Rep.agg_inv hx
            obtain ⟨v, x, hrun, rfl, hxr⟩ := part_run (w := w) hG h1 hr ho hy
            refine ⟨v, ?_, hxr⟩
            simp only [Instr.index, asIntOf, Sem.run_bind, Sem.run_pure, Result.andThen_ok, run_underlying hu, hc, and_self, if_true, hG.size h1, hrun]
          · cases hy
        · cases hy
    · rename_i hk
      have hu := hG.str h0 hk
      split at hy
      · rename_i s
        split at hy
        · rename_i hn
          split at hy
          · rename_i b hb
            cases hy
            obtain rfl := Rep.sc_inv hx
            refine ⟨_, ?_, Rep.sc _ rfl⟩
            simp only [Instr.index, asIntOf, Sem.run_bind, Sem.run_pure, Result.andThen_ok, run_underlying hu, hn, if_true, hb]
          · cases hy
        · cases hy
      · cases hy
    · cases hy
end
end Go.Abs
