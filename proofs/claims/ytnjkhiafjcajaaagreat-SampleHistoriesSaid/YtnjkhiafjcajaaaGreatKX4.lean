/-
  Rows that lie in blocks: calls that are handed such rows, and that hand such rows back. Program-independent. The generic layer under all claims of this repo: behind P.
-/
import Derived.Test.YtnjkhiafjcajaaaGreatKX3
namespace Go.Abs
set_option linter.all false
open Go.RowKit (Below)

def pβ (k : Nat) : Option Nat := if 100000 ≤ k then some (k - 100000) else none
theorem pβ_hp (b : Nat) : pβ (hp b) = some b := by unfold pβ hp; rw [if_pos (by omega)]; simp
theorem pβ_of {k b : Nat} (h : pβ k = some b) : k = hp b := by
  unfold pβ at h
  split at h
  · have := Option.some.inj h
    unfold hp; omega
  · cases h
theorem hp_of {k : Nat} (h : 100000 ≤ k) : k = hp (k - 100000) := by unfold hp; omega
def MoH (M : Nat → Nat → Prop) (L : Rows) (b o : Nat) : Prop := M b o ∨ (look L (hp b)).isSome
def Base.exH (w : World) (L : Rows) : Base := { w := w, P := fun b => b < w.heap.size ∧ look L (hp b) = none, lt := fun _ h => h.1 }

/-- WHAT A FUNCTION DOES that writes to the rows L, all of them in blocks of their own: what it returns, and which rows there are then. -/
def CtrH (P : Program) (f : FuncId) (args : List AV) (L : Rows) (φ : AV → Rows → Prop) : Prop :=
  ∀ (w : World) (M : Nat → Nat → Prop) (vs : List Value), (∀ b o, M b o → b < w.heap.size) →
    (∀ k s es, look L k = some (s, es) → ∃ b, k = hp b ∧ (∀ o, ¬ M b o) ∧ RowRep w (MoH M L) b s es) →
    vs.length = args.length → (∀ (i : Nat) av v, args[i]? = some av → vs[i]? = some v → RepA w (MoH M L) pβ [] av v) →
    Calls P f vs.toArray w fun en w' => ∃ r v L', φ r L' ∧ en = .returned v ∧ r.toArg = r ∧ (Base.exH w L).Fr w' ∧
      (∀ k s es, look L' k = some (s, es) → ∃ b, k = hp b ∧ ((look L k).isSome ∨ w.heap.size ≤ b) ∧ RowRep w' (MoH M L') b s es) ∧ RepA w' (MoH M L') pβ [] r v
theorem CtrH.mono {P f args L} {φ ψ : AV → Rows → Prop} (h : CtrH P f args L φ) (hi : ∀ r L', φ r L' → ψ r L') : CtrH P f args L ψ :=
  fun w M vs h1 h2 h3 h4 => (h w M vs h1 h2 h3 h4).mono fun _ _ ⟨r, v, L', g1, g2⟩ => ⟨r, v, L', hi r L' g1, g2⟩

/-- An argument of such a call. -/
def AV.toH : AV → AV
  | .sx es => .im (.sl es)
  | .vec _ _ _ es => .im (.sl es)
  | .mpo _ _ _ => .und
  | .osl d s i n => if 100000 ≤ d then .osl d s i n else .und
  | .gsl d e s n => if 100000 ≤ d then .gsl d e s n else .und
  | .loc d s i j => if 100000 ≤ d then .loc d s i j else .und
  | .im x => .im x
  | .und => .und
structure HandsH (st : St) (L : Rows) : Prop where
  blk : ∀ k x, look L k = some x → ∃ b, k = hp b
  rows : ∀ k x, look L k = some x → look st.rows k = some x

section
variable {G : Ctx} {N : Nat} {w0 : Base} {w w' : World} {M M' M0 : Nat → Nat → Prop} {β β' : Nat → Option Nat} {st : St} {a : Act} {toks toks' : List (Nat × Nat × Nat)} {av : AV} {v : Value}

theorem isSome_of {α : Type} {o : Option α} {x : α} (h : o = some x) : o.isSome := by rw [h]; rfl
/-- The cells that the callee must leave alone. -/
def MhH (M0 : Nat → Nat → Prop) (β : Nat → Option Nat) (st : St) (L : Rows) (b o : Nat) : Prop := Mo M0 β st b o ∧ look L (hp b) = none
theorem HandsH.mo (h : Sim N w0 M0 β st a w) {L : Rows} (H : HandsH st L) {b : Nat} (hb : (look L (hp b)).isSome) (o : Nat) : Mo M0 β st b o := by
  obtain ⟨⟨s, es⟩, hl⟩ := Option.isSome_iff_exists.1 hb
  exact .inr (.inl ⟨_, s, es, H.rows _ _ hl, h.perm b⟩)
theorem MoH_hand (h : Sim N w0 M0 β st a w) {L : Rows} (H : HandsH st L) {b o : Nat} (hm : MoH (MhH M0 β st L) L b o) : Mo M0 β st b o :=
  hm.elim (·.1) fun hb => H.mo h hb o
theorem Sim.handH (h : Sim N w0 M0 β st a w) {L : Rows} (H : HandsH st L) : (∀ b o, MhH M0 β st L b o → b < w.heap.size) ∧
    ∀ k s es, look L k = some (s, es) → ∃ b, k = hp b ∧ (∀ o, ¬ MhH M0 β st L b o) ∧ RowRep w (MoH (MhH M0 β st L) L) b s es := by
  refine ⟨fun b o hm => h.mlt hm.1, fun k s es hk => ?_⟩
  obtain ⟨b, rfl⟩ := H.blk k _ hk
  obtain ⟨b', h1, _, h3⟩ := h.rows _ s es (H.rows _ _ hk)
  rw [h.perm] at h1; cases h1
  exact ⟨b, rfl, fun o hm => (by rw [hm.2] at hk; cases hk), h3.move (Kept.less w fun b o hm => MoH_hand h H hm) rfl⟩
theorem RepA.handH (h : Sim N w0 M0 β st a w) {L : Rows} (H : HandsH st L) (hv : RepA w (Mo M0 β st) β st.toks av v) : RepA w (MoH (MhH M0 β st L) L) pβ [] av.toH v := by
  have hk : Kept w (Mo M0 β st) w (MoH (MhH M0 β st L) L) := Kept.less w fun b o hm => MoH_hand h H hm
  have hb : ∀ d b, 100000 ≤ d → β d = some b → pβ d = some b := fun d b hd hb => by
    rw [hp_of hd, h.perm] at hb
    rw [← hb]
    unfold pβ; rw [if_pos hd]
  cases av with
  | im x => exact Rep.kept (w := w) hv hk
  | und => trivial
  | sx es => exact Rep.kept (w := w) hv.1 hk
  | vec d e s es => exact Rep.kept (w := w) hv.1 hk
  | mpo d sc kvs => trivial
  | osl d s i n =>
    simp only [AV.toH]
    split
    · rename_i hd
      obtain ⟨ad, c, h1, h2, h3⟩ := hv
      exact ⟨ad, c, h1, h2, fun hn => let ⟨b, h4, h5⟩ := h3 hn; ⟨b, hb d b hd h4, h5⟩⟩
    · trivial
  | gsl d e s n =>
    simp only [AV.toH]
    split
    · rename_i hd
      obtain ⟨b, cap, cur, h1, h2⟩ := hv
      exact ⟨b, cap, cur, hb d b hd h1, h2⟩
    · trivial
  | loc d s i j =>
    simp only [AV.toH]
    split
    · rename_i hd
      obtain ⟨b, h1, h2⟩ := hv
      exact ⟨b, hb d b hd h1, h2⟩
    · trivial
theorem RepA.backH (hβ : ∀ b, β (hp b) = some b) {M2 : Nat → Nat → Prop} {r : AV} (h : RepA w M pβ [] r v) (hr : r.toArg = r) (hM : ∀ b o, M2 b o → M b o) : RepA w M2 β toks r v := by
  have hb : ∀ d b, pβ d = some b → β d = some b := fun d b hb => by rw [pβ_of hb, hβ]
  cases r with
  | im x => exact Rep.kept (w := w) h (Kept.less w hM)
  | und => trivial
  | sx es => simp [AV.toArg] at hr
  | vec d e s es => simp [AV.toArg] at hr
  | osl d s i n =>
    obtain ⟨ad, c, h1, h2, h3⟩ := h
    exact ⟨ad, c, h1, h2, fun hn => let ⟨b, h4, h5⟩ := h3 hn; ⟨b, hb d b h4, h5⟩⟩
  | gsl d e s n =>
    obtain ⟨b, cap, cur, h1, h2⟩ := h
    exact ⟨b, cap, cur, hb d b h1, h2⟩
  | loc d s i j =>
    obtain ⟨b, h1, h2⟩ := h
    exact ⟨b, hb d b h1, h2⟩
  | mpo d sc kvs => simp [AV.toArg] at hr

/-- Behind such a call. -/
theorem Sim.afterH (h : Sim N w0 M0 β st a w) {L L' R' : Rows} (H : HandsH st L) (hf : (Base.exH w L).Fr w')
    (hE : ∀ k s es, look L' k = some (s, es) → ∃ b, k = hp b ∧ ((look L k).isSome ∨ w.heap.size ≤ b) ∧ RowRep w' (MoH (MhH M0 β st L) L') b s es)
    (hR : ∀ k x, look R' k = some x → look L' k = some x ∨ (look L k = none ∧ look st.rows k = some x)) :
    Sim N w0 M0 β ⟨st.fr, R', st.toks⟩ a w' ∧ ∀ b o, Mo M0 β ⟨st.fr, R', st.toks⟩ b o → MoH (MhH M0 β st L) L' b o := by
  have hno : ∀ b, w0.P b → look L (hp b) = none := fun b hb => by
    cases hl : look L (hp b) with
    | none => rfl
    | some x =>
      obtain ⟨s, es⟩ := x
      obtain ⟨b', h1, h2, _⟩ := h.rows _ s es (H.rows _ _ hl)
      rw [h.perm] at h1; cases h1
      exact absurd hb h2
  have hlive : ∀ d b, ((look st.rows d).isSome ∨ (look st.toks d).isSome) → β d = some b → look L d = none → look L (hp b) = none := fun d b hd hb hn => by
    cases hl : look L (hp b) with
    | none => rfl
    | some x =>
      have := h.inj d (hp b) b hd (.inl (isSome_of (H.rows _ _ hl))) hb (h.perm b)
      rw [this, hl] at hn; cases hn
  have htokL : ∀ d, (look st.toks d).isSome → look L d = none := fun d hd => by
    cases hl : look L d with
    | none => rfl
    | some x =>
      have := h.excl d (isSome_of (H.rows _ _ hl))
      rw [this] at hd; cases hd
  have hlt : ∀ d b, ((look st.rows d).isSome ∨ (look st.toks d).isSome) → β d = some b → b < w.heap.size := fun d b hd hb => by
    rcases hd with hd | hd
    · obtain ⟨⟨s', es'⟩, hl⟩ := Option.isSome_iff_exists.1 hd
      exact h.mlt (o := 0) (.inr (.inl ⟨d, s', es', hl, hb⟩))
    · obtain ⟨⟨s', n'⟩, hl⟩ := Option.isSome_iff_exists.1 hd
      exact (h.toks d s' n' hl b hb).2
  have hback : ∀ b o, Mo M0 β ⟨st.fr, R', st.toks⟩ b o → MoH (MhH M0 β st L) L' b o := by
    rintro b o (hm | ⟨d, s, es, hd, hb⟩ | ⟨d, s, n, hd, hb, ho⟩)
    · exact .inl ⟨.inl hm, hno b (h.m0 b o hm)⟩
    · rcases hR d _ hd with h1 | ⟨h1, h2⟩
      · obtain ⟨b', rfl, _⟩ := hE d s es h1
        rw [h.perm] at hb; cases hb
        exact .inr (isSome_of h1)
      · exact .inl ⟨.inr (.inl ⟨d, s, es, h2, hb⟩), hlive d b (.inl (isSome_of h2)) hb h1⟩
    · have hd : look st.toks d = some (s, n) := hd
      exact .inl ⟨.inr (.inr ⟨d, s, n, hd, hb, ho⟩), hlive d b (.inr (isSome_of hd)) hb (htokL d (isSome_of hd))⟩
  have hsame : ∀ b, b < w.heap.size → look L (hp b) = none → w'.heap[b]? = w.heap[b]? := fun b h1 h2 => hf.block b ⟨h1, h2⟩
  have hback2 : ∀ b o, b < w.heap.size → Mo M0 β ⟨st.fr, R', st.toks⟩ b o → Mo M0 β st b o := fun b o hb hm => by
    rcases hback b o hm with hm | hm
    · exact hm.1
    · obtain ⟨⟨s, es⟩, hl⟩ := Option.isSome_iff_exists.1 hm
      obtain ⟨b', h1, h2, _⟩ := hE _ s es hl
      rw [hp_inj] at h1; subst h1
      rcases h2 with h2 | h2
      · exact H.mo h h2 o
      · omega
  have hkept : Kept w (Mo M0 β st) w' (Mo M0 β ⟨st.fr, R', st.toks⟩) := by
    have hn' : ∀ b o, ¬ Mo M0 β st b o → look L (hp b) = none := fun b o hn => by
      cases hl : look L (hp b) with
      | none => rfl
      | some x => exact absurd (H.mo h (isSome_of hl) o) hn
    refine ⟨fun b o u hc hn => ?_, fun b es2 c hc hn => ?_, hf.shp⟩
    · have hb : b < w.heap.size := World.block_lt_of_cell? (a := ⟨b, o, none⟩) w hc
      refine ⟨?_, fun hm => hn (hback2 b o hb hm)⟩
      rw [World.cell?_of_block (w := w) (a := ⟨b, o, none⟩) (hsame b hb (hn' b o hn))]
      exact hc
    · have hb : b < w.heap.size := (Array.getElem?_eq_some_iff.1 hc).1
      refine ⟨?_, fun hm => hn (hback2 b 0 hb hm)⟩
      rw [hsame b hb (hn' b 0 hn)]
      exact hc
  have hfr : w0.Fr w' := ⟨hf.os.trans h.below.os, hf.tape.trans h.below.tape, hf.output.trans h.below.output, Nat.le_trans h.below.size hf.size, fun k hk => by
    rw [hsame k (Nat.lt_of_lt_of_le (w0.lt k hk) h.below.size) (hno k hk)]; exact h.below.block k hk, h.below.shp.trans hf.shp⟩
  refine ⟨⟨h.size, h.defers, hfr, h.m0, fun t => ?_, fun d s es hd => ?_, fun d s n hd b hb => ?_, fun d d' b h1 h2 hb hb' => ?_, fun d hd => ?_, fun k hN hN' hk => ?_, h.np, h.perm⟩, hback⟩
  · exact (h.fr t).move hkept (fun _ _ => rfl) (fun _ _ _ _ hl => hl) (fun d b hl _ hb => hsame b (hlt d b (.inr hl) hb) (hlive d b (.inr hl) hb (htokL d hl))) hf.shp
  · rcases hR d _ hd with h1 | ⟨h1, h2⟩
    · obtain ⟨b, rfl, h3, h4⟩ := hE d s es h1
      refine ⟨b, h.perm b, ?_, h4.move (Kept.less w' hback) rfl⟩
      rcases h3 with h3 | h3
      · obtain ⟨⟨s', es'⟩, hl⟩ := Option.isSome_iff_exists.1 h3
        obtain ⟨b', g1, g2, _⟩ := h.rows _ s' es' (H.rows _ _ hl)
        rw [h.perm] at g1; cases g1
        exact g2
      · exact fun hp => absurd (Nat.lt_of_lt_of_le (w0.lt _ hp) h.below.size) (by omega)
    · obtain ⟨b, g1, g2, g3⟩ := h.rows d s es h2
      exact ⟨b, g1, g2, g3.move hkept (hsame b (hlt d b (.inl (isSome_of h2)) g1) (hlive d b (.inl (isSome_of h2)) g1 h1))⟩
  · obtain ⟨h1, h2⟩ := h.toks d s n hd b hb
    exact ⟨h1, Nat.lt_of_lt_of_le h2 hf.size⟩
  · -- each live name is an old one, or that of a new block
    have dom : ∀ d, ((look R' d).isSome ∨ (look st.toks d).isSome) → β d = some b → ((look st.rows d).isSome ∨ (look st.toks d).isSome) ∨ (d = hp b ∧ w.heap.size ≤ b) := fun d hd hb => by
      rcases hd with hd | hd
      · obtain ⟨⟨s, es⟩, hl⟩ := Option.isSome_iff_exists.1 hd
        rcases hR d _ hl with h1 | ⟨_, h2⟩
        · obtain ⟨b', rfl, h3, _⟩ := hE d s es h1
          rw [h.perm] at hb; cases hb
          rcases h3 with h3 | h3
          · obtain ⟨x, hx⟩ := Option.isSome_iff_exists.1 h3
            exact .inl (.inl (isSome_of (H.rows _ _ hx)))
          · exact .inr ⟨rfl, h3⟩
        · exact .inl (.inl (isSome_of h2))
      · exact .inl (.inr hd)
    rcases dom d h1 hb with g1 | ⟨g1, g2⟩ <;> rcases dom d' h2 hb' with g3 | ⟨g3, g4⟩
    · exact h.inj d d' b g1 g3 hb hb'
    · exact absurd (hlt d b g1 hb) (by omega)
    · exact absurd (hlt d' b g3 hb') (by omega)
    · rw [g1, g3]
  · obtain ⟨⟨s, es⟩, hl⟩ := Option.isSome_iff_exists.1 hd
    rcases hR d _ hl with h1 | ⟨_, h2⟩
    · obtain ⟨b, rfl, h3, _⟩ := hE d s es h1
      rcases h3 with h3 | h3
      · obtain ⟨x, hx⟩ := Option.isSome_iff_exists.1 h3
        exact h.excl _ (isSome_of (H.rows _ _ hx))
      · exact (h.none_at h3).2
    · exact h.excl d (isSome_of h2)
  · obtain ⟨⟨s, es⟩, hl⟩ := Option.isSome_iff_exists.1 hk
    rcases hR k _ hl with h1 | ⟨_, h2⟩
    · obtain ⟨b, rfl, _⟩ := hE k s es h1
      unfold hp at hN'; omega
    · exact h.nam k hN hN' (isSome_of h2)

/-! ### A row that is not written to any more -/
def frz1 (b s : Nat) (es : List (List IV)) : IV → IV
  | .emp => .sl []
  | .ref b' e s' n => if b' = b ∧ s' = s ∧ n ≤ es.length then .sl (es.take n) else .ref b' e s' n
  | x => x
def frz2 (b s : Nat) (es : List (List IV)) : IV → IV
  | .agg cs => .agg (cs.map (frz1 b s es))
  | x => frz1 b s es x
def frz3 (b s : Nat) (es : List (List IV)) : IV → IV
  | .tup cs => .tup (cs.map (frz2 b s es))
  | x => frz2 b s es x
theorem frz1_one (b s : Nat) (es : List (List IV)) (x : IV) : (frz1 b s es x).one = x.one := by
  cases x <;> simp only [frz1]
  · split <;> rfl
  · rfl
theorem frz1_rep {b s : Nat} {es : List (List IV)} (hrow : RowRep w M b s es) (hn : ∀ o, ¬ M b o) {x : IV} (h : Rep w M x v) : Rep w M (frz1 b s es x) v := by
  cases x with
  | ref b' e s' n =>
    simp only [frz1]
    split
    · rename_i hc
      obtain ⟨rfl, rfl, hle⟩ := hc
      cases h with
      | ref _ _ _ _ cap cur h1 h2 h3 h4 =>
        obtain ⟨cur', T, g1, g2, g3⟩ := hrow
        rw [h1] at g1; cases g1
        have hlen : (es.take n).length = n := by simp; omega
        by_cases hz : n = 0
        · subst hz
          exact .nil _ _
        · have := Rep.sl (w := w) (M := M) (es.take n) s' b' 0 cap (fun i j => cur.getD (i * s' + j) undef) (fun e => by rw [e] at hlen; simp at hlen; omega)
            (fun c hc => g2 c (List.mem_of_mem_take hc)) (by omega)
            (fun i c j x hi hj => by
              have hi' : es[i]? = some c := by
                rw [List.getElem?_take] at hi
                split at hi
                · exact hi
                · cases hi
              obtain ⟨k1, u, k2, k3⟩ := g3 i c j x hi' hj
              have hg : cur.getD (i * s' + j) undef = u := by simp [k2]
              refine ⟨k1, ?_, hn _⟩
              rw [Nat.zero_add, hg, cell_of_row w b' _ cur e _ h1, k2])
            (fun i c j x hi hj => by
              have hi' : es[i]? = some c := by
                rw [List.getElem?_take] at hi
                split at hi
                · exact hi
                · cases hi
              obtain ⟨k1, u, k2, k3⟩ := g3 i c j x hi' hj
              have hg : cur.getD (i * s' + j) undef = u := by simp [k2]
              show Rep w M x (cur.getD (i * s' + j) undef)
              rw [hg]; exact k3)
          rw [hlen] at this
          exact this
    · exact h
  | emp =>
    cases h with
    | emp a => exact .nil _ _
  | _ => exact h
theorem map_rep {f : IV → IV} {xs : List IV} {vs : List Value} (h : ∀ (k : Nat) x v, xs[k]? = some x → vs[k]? = some v → Rep w M x v) (hf : ∀ x v, Rep w M x v → Rep w M (f x) v) : ∀ (k : Nat) x v, (xs.map f)[k]? = some x → vs[k]? = some v → Rep w M x v := by
  intro k x v hx hv
  rw [List.getElem?_map] at hx
  obtain ⟨y, hy, rfl⟩ := Option.map_eq_some_iff.1 hx
  exact hf y v (h k y v hy hv)
theorem frz2_rep {b s : Nat} {es : List (List IV)} (hrow : RowRep w M b s es) (hn : ∀ o, ¬ M b o) {x : IV} (h : Rep w M x v) : Rep w M (frz2 b s es x) v := by
  cases x with
  | agg cs =>
    cases h with
    | agg _ vs h1 h2 h3 =>
      refine .agg _ vs (by simpa using h1) (fun x hx => ?_) (fun k x v hx hv => ?_)
      · obtain ⟨y, hy, rfl⟩ := List.mem_map.1 hx
        rw [frz1_one]; exact h2 y hy
      · rw [List.getElem?_map] at hx
        obtain ⟨y, hy, rfl⟩ := Option.map_eq_some_iff.1 hx
        exact frz1_rep hrow hn (h3 k y v hy hv)
  | _ => exact frz1_rep hrow hn h
theorem frz3_rep {b s : Nat} {es : List (List IV)} (hrow : RowRep w M b s es) (hn : ∀ o, ¬ M b o) {x : IV} (h : Rep w M x v) : Rep w M (frz3 b s es x) v := by
  cases x with
  | tup cs =>
    cases h with
    | tup _ vs h1 h3 =>
      refine .tup _ vs (by simpa using h1) (fun k x v hx hv => ?_)
      rw [List.getElem?_map] at hx
      obtain ⟨y, hy, rfl⟩ := Option.map_eq_some_iff.1 hx
      exact frz2_rep hrow hn (h3 k y v hy hv)
  | _ => exact frz2_rep hrow hn h
def AV.frz (b s : Nat) (es : List (List IV)) : AV → AV
  | .im x => .im (frz3 b s es x)
  | .osl d s' i n => if d = hp b then .und else .osl d s' i n
  | .gsl d e s' n => if d = hp b then .und else .gsl d e s' n
  | .loc d s' i j => if d = hp b then .und else .loc d s' i j
  | x => x
/-- The row in block b is not written to any more. -/
def St.frz (st : St) (b : Nat) : St :=
  match look st.rows (hp b) with
  | some (s, es) => ⟨st.fr.map fun p => (p.1, p.2.frz b s es), del st.rows (hp b), st.toks⟩
  | none => st
theorem Sim.frz (h : Sim N w0 M0 β st a w) (b : Nat) : Sim N w0 M0 β (st.frz b) a w := by
  unfold St.frz
  split
  case h_2 => exact h
  case h_1 s es hd =>
    obtain ⟨b', hb', hb0, hrow⟩ := h.rows _ s es hd
    rw [h.perm] at hb'; cases hb'
    have htok : look st.toks (hp b) = none := h.excl _ (isSome_of hd)
    have hless : ∀ b' o, Mo M0 β ⟨st.fr.map fun p => (p.1, p.2.frz b s es), del st.rows (hp b), st.toks⟩ b' o → Mo M0 β st b' o := fun b' o hm => Mo_del hm
    have hk := Kept.less w hless
    have hnm : ∀ o, ¬ Mo M0 β ⟨st.fr.map fun p => (p.1, p.2.frz b s es), del st.rows (hp b), st.toks⟩ b o := by
      rintro o (hm | ⟨k, s', es', hk', hkb⟩ | ⟨k, s', n, hk', hkb, _⟩)
      · exact hb0 (h.m0 b o hm)
      · by_cases e : k = hp b
        · subst e; simp [look_del_same] at hk'
        · exact e (h.inj k (hp b) b (.inl (by simp only [look_del_ne _ e] at hk'; simp [hk'])) (.inl (by simp [hd])) hkb (h.perm b))
      · have := h.inj k (hp b) b (.inr (by simp only at hk'; simp [hk'])) (.inl (by simp [hd])) hkb (h.perm b)
        subst this; simp only at hk'; rw [htok] at hk'; cases hk'
    have hrow' := hrow.move hk rfl
    refine ⟨h.size, h.defers, h.below, h.m0, fun t => ?_, fun k s' es' hk' => ?_, h.toks, fun k k' b2 h1 h2 => ?_, fun k hk' => ?_, fun k hN hN' hk' => ?_, h.np, h.perm⟩
    case refine_5 =>
      by_cases e : k = hp b
      · subst e; simp [look_del_same] at hk'
      · exact h.nam k hN hN' (by simpa [look_del_ne _ e] using hk')
    · have hg : (⟨st.fr.map fun p => (p.1, p.2.frz b s es), del st.rows (hp b), st.toks⟩ : St).get t = (st.get t).frz b s es := by
        simp only [St.get]
        rw [look_map]
        cases look st.fr t <;> rfl
      rw [hg]
      have hfr := (h.fr t).move (β' := β) (toks' := st.toks) hk (fun _ _ => rfl) (fun _ _ _ _ hl => hl) (fun _ _ _ _ _ => rfl) (Shp.refl _)
      generalize st.get t = av at hfr
      cases av with
      | im x => exact frz3_rep hrow' hnm hfr
      | osl d s' i n => simp only [AV.frz]; split <;> first | trivial | exact hfr
      | gsl d e s' n => simp only [AV.frz]; split <;> first | trivial | exact hfr
      | loc d s' i j => simp only [AV.frz]; split <;> first | trivial | exact hfr
      | _ => exact hfr
    · by_cases e : k = hp b
      · subst e; simp [look_del_same] at hk'
      · obtain ⟨b2, h1, h2, h3⟩ := h.rows k s' es' (by simpa [look_del_ne _ e] using hk')
        exact ⟨b2, h1, h2, h3.move hk rfl⟩
    · refine h.inj k k' b2 ?_ ?_
      · by_cases e : k = hp b
        · subst e; simpa [look_del_same, htok] using h1
        · simpa [look_del_ne _ e] using h1
      · by_cases e : k' = hp b
        · subst e; simpa [look_del_same, htok] using h2
        · simpa [look_del_ne _ e] using h2
    · by_cases e : k = hp b
      · subst e; exact htok
      · exact h.excl k (by simpa [look_del_ne _ e] using hk')
/-- The rows that an argument names. -/
def frzO (st : St) (x : Operand) : St :=
  match evO st x with
  | .im (.ref b _ _ _) => st.frz b
  | _ => st
def St.frzOs (st : St) (xs : List Operand) : St := xs.foldl frzO st
theorem Sim.frzOs (h : Sim N w0 M0 β st a w) (xs : List Operand) : Sim N w0 M0 β (st.frzOs xs) a w := by
  induction xs generalizing st with
  | nil => exact h
  | cons x xs ih =>
    refine ih (st := Abs.frzO st x) ?_
    unfold Abs.frzO
    split
    · exact h.frz _
    · exact h
end
end Go.Abs
