/-
  That the machine does what 'yv' says: all together. Program-independent. The generic layer under all claims of this repo: 9 of several.
-/
import Derived.Test.YtpnlfkaijdjhlaaAbs8
namespace Go.Abs
set_option linter.all false
open Go.RowKit (Below)

section
variable {G : Ctx} {N : Nat} {w0 w : World} {M M0 : Nat → Nat → Prop} {β : Nat → Option Nat} {st : St} {a : Act} {toks : List (Nat × Nat × Nat)} {av : AV} {v : Value}

theorem bnd_rep {lo : Option AV} {lv : Option Value} {d : Nat} {n : Int} (h : ∀ x, lo = some x → ∃ v, lv = some v ∧ RepA w M β toks x v) (hn : lo = none → lv = none) (hb : bnd lo d = some n) :
    (lv = none ∧ n = d) ∨ ∃ k, lv = some (.int k n) := by
  unfold bnd at hb
  split at hb
  · cases hb; exact .inl ⟨hn rfl, rfl⟩
  · rename_i k n'
    cases hb
    obtain ⟨v, hv, hr⟩ := h _ rfl
    obtain rfl := Rep.sc_inv hr
    exact .inr ⟨k, hv⟩
  · cases hb

theorem sliceBounds_run {P : Program} {lv hv : Option Value} {l h : Int} {len cap : Nat} (hl : (lv = none ∧ l = 0) ∨ ∃ k, lv = some (.int k l)) (hh : (hv = none ∧ h = (len : Int)) ∨ ∃ k, hv = some (.int k h))
    (h0 : 0 ≤ l) (h1 : l ≤ h) (h2 : h ≤ (len : Int)) (hc : len ≤ cap) : (Instr.sliceBounds true len cap lv hv none).run P w = .ok (l.toNat, h.toNat, cap) w := by
  have eh : (h.toNat : Int) = h := Int.toNat_of_nonneg (by omega)
  have hb1 : ∀ k code, (Instr.sliceBound (.int k h) cap code).run P w = .ok h.toNat w := fun k code => run_sliceBound w k h cap code (by omega) (by omega)
  have hb2 : ∀ k code, (Instr.sliceBound (.int k l) h.toNat code).run P w = .ok l.toNat w := fun k code => run_sliceBound w k l _ code h0 (by omega)
  have hb3 : ∀ k code, (Instr.sliceBound (.int k l) len code).run P w = .ok l.toNat w := fun k code => run_sliceBound w k l _ code h0 (by omega)
  rcases hl with ⟨rfl, rfl⟩ | ⟨k, rfl⟩ <;> rcases hh with ⟨rfl, rfl⟩ | ⟨k', rfl⟩ <;> simp [Instr.sliceBounds, hb1, hb2, hb3]

theorem Rep.sl_cut {es : List (List IV)} {a : Option Addr} {c l n s : Nat} (h : Rep w M (.sl es) (.slice a es.length c)) (hln : l + n ≤ es.length) (hc : es.length ≤ c) (hs : ∀ e ∈ es, e.length = s) :
    Rep w M (.sl ((es.drop l).take n)) (.slice (if c = l then a else a.map (·.add (l * s))) n (c - l)) := by
  by_cases hn : n = 0
  · subst hn
    simp only [List.take_zero]
    exact .nil _ _
  · rcases h.sl_inv with ⟨rfl, _⟩ | ⟨s', b, o, cap, u, hne, hs', hcap, h4, h5, he⟩
    · simp at hln; omega
    · simp only [Value.slice.injEq, true_and] at he
      obtain ⟨rfl, rfl⟩ := he
      have hss : s = s' := by
        cases es with
        | nil => exact absurd rfl hne
        | cons e es => rw [← hs e (by simp), hs' e (by simp)]
      subst hss
      rw [if_neg (by omega)]
      simp only [Option.map_some, Addr.add_lit]
      have hlen : ((es.drop l).take n).length = n := by simp; omega
      have hget : ∀ i e, ((es.drop l).take n)[i]? = some e → es[l + i]? = some e := fun i e hi => by
        rw [List.getElem?_take] at hi
        split at hi
        · rwa [List.getElem?_drop] at hi
        · cases hi
      have := Rep.sl (w := w) (M := M) ((es.drop l).take n) s b (o + l * s) (c - l) (fun i j => u (l + i) j) (fun h => by rw [h] at hlen; simp at hlen; omega)
        (fun e he => hs e (List.mem_of_mem_drop (List.mem_of_mem_take he))) (by omega)
        (fun i e j x hi hj => by
          have := h4 (l + i) e j x (hget i e hi) hj
          rw [Nat.add_mul, ← Nat.add_assoc] at this
          exact this)
        (fun i e j x hi hj => h5 (l + i) e j x (hget i e hi) hj)
      rw [hlen] at this
      exact this

theorem ySlice_run (hG : G.Ok) {t : TypeId} {x av : AV} {xv : Value} {lo hi : Option AV} {lv hv : Option Value} (hx : RepA w M β toks x xv)
    (hlo : ∀ x, lo = some x → ∃ v, lv = some v ∧ RepA w M β toks x v) (hlo0 : lo = none → lv = none) (hhi : ∀ x, hi = some x → ∃ v, hv = some v ∧ RepA w M β toks x v) (hhi0 : hi = none → hv = none)
    (hy : ySlice G t x lo hi = some av) : ∃ v, (Instr.sliceAt t xv lv hv none).run G.P w = .ok v w ∧ RepA w M β toks av v := by
  unfold ySlice at hy
  split at hy
  · cases hy
  · rename_i h0
    split at hy
    · rename_i e hk
      have hu := hG.sl h0 hk
      split at hy
      · cases hy
      · rename_i h1
        have hel : G.P.elem t = e := by simp [Program.elem, hu]
        have hu' : G.P.underlying t = some (.slice (G.P.elem t)) := by rw [hel]; exact hu
        split at hy
        · rename_i d s i m
          split at hy
          · rename_i l h hbl hbh
            split at hy
            · rename_i hc
              obtain ⟨hc1, hc2, hc3, hc4⟩ := hc
              cases hy
              obtain ⟨ad, c, hmc, rfl, had⟩ := hx
              have hrb := sliceBounds_run (P := G.P) (w := w) (cap := c) (len := m) (bnd_rep hlo hlo0 hbl) (bnd_rep hhi hhi0 hbh) hc1 hc2 hc3 hmc
              refine ⟨sliced ad l.toNat h.toNat c (G.ti e).size, ?_, ?_⟩
              · rw [run_sliceAt_slice w t _ _ _ _ hu', run_slice_any w t ad m c hu', hrb]
                simp only [Result.andThen_ok, hel, hG.size h1]
              · refine ⟨if c = l.toNat then ad else ad.map (·.add (l.toNat * (G.ti e).size)), c - l.toNat, by omega, ?_, ?_⟩
                · show sliced ad l.toNat h.toNat c (G.ti e).size = _
                  have : (h - l).toNat = h.toNat - l.toNat := by omega
                  rw [this]; rfl
                · intro hne
                  obtain ⟨b, hb, rfl⟩ := had (by omega)
                  refine ⟨b, hb, ?_⟩
                  rw [if_neg (by omega)]
                  simp only [Option.map_some, Addr.add_lit, ← hc4, ← Nat.add_mul]
            · cases hy
          · cases hy
        · rename_i x _
          split at hy
          · rename_i es hes
            have hr := sliceEls_rep hx hes
            split at hy
            · rename_i l h hbl hbh
              split at hy
              · rename_i hc
                obtain ⟨hc1, hc2, hc3, hc4⟩ := hc
                cases hy
                obtain ⟨a, c, rfl, hcap⟩ := hr.sl_len
                have hrb := sliceBounds_run (P := G.P) (w := w) (cap := c) (len := es.length) (bnd_rep hlo hlo0 hbl) (bnd_rep hhi hhi0 hbh) hc1 hc2 hc3 hcap
                refine ⟨sliced a l.toNat h.toNat c (G.ti e).size, ?_, ?_⟩
                · rw [run_sliceAt_slice w t _ _ _ _ hu', run_slice_any w t a es.length c hu', hrb]
                  simp only [Result.andThen_ok, hel, hG.size h1]
                · exact hr.sl_cut (by omega) hcap (fun e he => by simpa using List.all_eq_true.1 hc4 e he)
              · cases hy
            · cases hy
          · cases hy
    · cases hy

theorem yLen_run (hG : G.Ok) {t ty : TypeId} {x av : AV} {xv : Value} (hx : RepA w M β toks x xv) (hy : yLen G t x = some av) :
    ∃ v, (Builtin.len_ #[t] ty #[xv]).run G.P w = .ok v w ∧ RepA w M β toks av v := by
  unfold yLen at hy
  split at hy
  · cases hy
  · rename_i h0
    split at hy
    · rename_i e hk
      have hu := hG.sl h0 hk
      split at hy
      · cases hy
        obtain ⟨_, c, _, rfl, _⟩ := hx
        exact ⟨_, by simp [Builtin.len_, run_underlying hu, goInt], Rep.sc _ rfl⟩
      · split at hy
        · rename_i es hes
          cases hy
          obtain ⟨a, c, rfl, _⟩ := (sliceEls_rep hx hes).sl_len
          exact ⟨_, by simp [Builtin.len_, run_underlying hu, goInt], Rep.sc _ rfl⟩
        · cases hy
    · rename_i hk
      have hu := hG.str h0 hk
      split at hy
      · cases hy
        obtain rfl := Rep.sc_inv hx
        exact ⟨_, by simp [Builtin.len_, run_underlying hu, goInt], Rep.sc _ rfl⟩
      · cases hy
    · cases hy

theorem scs_rep (h : Sim N w0 M0 β st a w) : ∀ {xs : List Operand} {vs : List Value}, scs (xs.map (evO st)) = some vs → xs.map a.eval = vs ∧ ∀ v ∈ vs, plainV v = true
  | [], vs, hq => by cases hq; exact ⟨rfl, by simp⟩
  | x :: r, vs, hq => by
    simp only [List.map_cons] at hq
    unfold scs at hq
    split at hq
    · rename_i h1; cases h1
    · rename_i v r' h1
      simp only [List.cons.injEq] at h1
      obtain ⟨h1, rfl⟩ := h1
      split at hq
      · rename_i vs' hvs
        cases hq
        obtain ⟨h2, h3⟩ := scs_rep h hvs
        have hr := evO_rep h x
        rw [h1] at hr
        have hv : a.eval x = v := Rep.sc_inv hr
        have hp : plainV v = true := by cases hr with | sc _ hp => exact hp
        exact ⟨by simp [hv, h2], by simpa [hp] using h3⟩
      · cases hq
    · cases hq

theorem ivsOf_rep (h : Sim N w0 M0 β st a w) : ∀ {xs : List Operand} {ys : List IV}, ivsOf (xs.map (evO st)) = some ys → RepL w (Mo M0 β st) ys (xs.map a.eval)
  | [], ys, hq => by cases hq; exact RepL.nil
  | x :: r, ys, hq => by
    simp only [List.map_cons] at hq
    unfold ivsOf at hq
    split at hq
    · rename_i y ys' h1 h2
      cases hq
      exact RepL.cons (ivOf_rep (evO_rep h x) h1) (ivsOf_rep h h2)
    · cases hq

theorem yv_run (hG : G.Ok) (h : Sim N w0 M0 β st a w) {o : Oper} (hy : yv G st o = some av) :
    ∃ v w', (execOp a.eval o).run G.P w = .ok (.value v) w' ∧ Below w.heap.size w w' ∧ RepA w' (Mo M0 β st) β st.toks av v := by
  have same : ∀ {s : Sem Value} {v : Value}, s.run G.P w = .ok v w → RepA w (Mo M0 β st) β st.toks av v →
      ∃ v w', (do pure (.value (← s)) : Sem Next).run G.P w = .ok (.value v) w' ∧ Below w.heap.size w w' ∧ RepA w' (Mo M0 β st) β st.toks av v :=
    fun {s v} h1 h2 => ⟨v, w, by simp [h1], Below.refl _ _, h2⟩
  have ev := evO_rep h
  unfold yv at hy
  unfold execOp
  split at hy <;> rename_i ho <;> first | (rw [ho]; simp only) | (cases hy; done)
  · cases hy; exact ⟨_, w, rfl, Below.refl _ _, ev _⟩
  · cases hy; exact ⟨_, w, rfl, Below.refl _ _, ev _⟩
  · -- pick
    rename_i c x y
    split at hy
    · rename_i t hc
      cases hy
      have := ev c; rw [hc] at this
      have hcv := Rep.sc_inv this
      refine ⟨if t = true then a.eval x else a.eval y, w, ?_, Below.refl _ _, ?_⟩
      · rw [hcv]; cases t <;> simp [asBool]
      · cases t
        · exact ev y
        · exact ev x
    · cases hy
  · -- binOp
    rename_i op t x y yt
    split at hy
    · rename_i u v hx hy'
      split at hy
      · rename_i r hr
        cases hy
        have hx2 := ev x; rw [hx] at hx2
        have hy2 := ev y; rw [hy'] at hy2
        have e1 := Rep.sc_inv hx2; have e2 := Rep.sc_inv hy2
        obtain ⟨h1, h2, _⟩ := scBin_run hG hr x y w
        refine same (v := r) ?_ (Rep.sc _ h2)
        rw [e1, e2]; exact h1
      · cases hy
    · rename_i xs ys hx hy'
      split at hy
      · rename_i r hr
        cases hy
        have hx2 := ev x; rw [hx] at hx2
        have hy2 := ev y; rw [hy'] at hy2
        obtain ⟨us, e1, hu, _⟩ := Rep.agg_inv hx2
        obtain ⟨vs, e2, hv, _⟩ := Rep.agg_inv hy2
        obtain ⟨h1, h2, _⟩ := aggBin_run hG hr hu hv x y
        refine same (v := r) ?_ (Rep.sc _ h2)
        rw [e1, e2]; exact h1
      · cases hy
    · cases hy
  · -- unOp
    rename_i op t x
    split at hy
    · rename_i u hx
      split at hy
      · rename_i r hr
        cases hy
        have hx2 := ev x; rw [hx] at hx2
        have e1 := Rep.sc_inv hx2
        obtain ⟨h1, h2, _⟩ := scUn_run (P := G.P) hr w
        refine same (v := r) ?_ (Rep.sc _ h2)
        rw [e1]; exact h1
      · cases hy
    · cases hy
  · -- nilCheck
    rename_i x
    split at hy
    · rename_i cs j hx
      cases hy
      have hx2 := ev x; rw [hx] at hx2
      obtain ⟨b, o', u, e, _⟩ := ip_inv hx2
      rw [e] at hx2 ⊢
      exact ⟨_, w, rfl, Below.refl _ _, hx2⟩
    · rename_i f cs hx
      cases hy
      have hx2 := ev x; rw [hx] at hx2
      obtain ⟨vs, e, _⟩ := Rep.clo_inv hx2
      rw [e] at hx2 ⊢
      exact ⟨_, w, rfl, Below.refl _ _, hx2⟩
    · rename_i d s i j hx
      cases hy
      have hx2 := ev x; rw [hx] at hx2
      obtain ⟨b, hb, e⟩ := hx2
      rw [e]
      exact ⟨_, w, rfl, Below.refl _ _, b, hb, rfl⟩
    · cases hy
  · -- load
    rename_i t p
    obtain ⟨v, h1, h2⟩ := yLoad_run hG h (ev p) hy
    exact same h1 h2
  · -- fieldAddr
    rename_i t x f
    split at hy
    · rename_i off ty hf
      split at hy
      · rename_i c j hx
        cases hy
        have hx2 := ev x; rw [hx] at hx2
        obtain ⟨b, o', e, hm⟩ := ip_move (k := off) hx2
        rw [e]
        exact same (fieldAt_run hG hf b o') hm
      · rename_i d s i j hx
        cases hy
        have hx2 := ev x; rw [hx] at hx2
        obtain ⟨b, hb, e⟩ := hx2
        rw [e]
        exact same (fieldAt_run hG hf b _) ⟨b, hb, by rw [Nat.add_assoc]⟩
      · cases hy
    · cases hy
  · -- field
    rename_i t x f
    split at hy
    · rename_i off ty hf
      split at hy
      · rename_i cs hx
        have hx2 := ev x; rw [hx] at hx2
        obtain ⟨us, e1, hu, hone⟩ := Rep.agg_inv hx2
        obtain ⟨gs, fd, hu2, hf2, rfl, rfl, h1⟩ := yField_run hG hf
        obtain ⟨v, y, hr, rfl, hyr⟩ := part_run (w := w) hG h1 hu hone hy
        rw [e1]
        refine same (v := v) ?_ hyr
        simp only [Instr.field, Sem.run_bind, run_underlying hu2, Result.andThen_ok, hf2, asAgg, Sem.run_pure, hr]
      · cases hy
    · cases hy
  · -- indexAddr
    rename_i t x i
    split at hy
    · rename_i k n hi
      have hi2 := ev i; rw [hi] at hi2
      rw [Rep.sc_inv hi2]
      obtain ⟨v, h1, h2⟩ := yIndexAddr_run (w := w) (k := k) hG (ev x) hy
      exact same h1 h2
    · cases hy
  · -- index
    rename_i t x i
    split at hy
    · rename_i k n hi
      have hi2 := ev i; rw [hi] at hi2
      rw [Rep.sc_inv hi2]
      obtain ⟨v, h1, h2⟩ := yIndex_run (w := w) (k := k) hG (ev x) hy
      exact same h1 h2
    · cases hy
  · -- extract
    rename_i x k
    split at hy
    · rename_i vs hx
      split at hy
      · rename_i y hyk
        cases hy
        have hx2 := ev x; rw [hx] at hx2
        obtain ⟨us, e1, hu⟩ := Rep.tup_inv hx2
        have hlt : k < us.size := by have := hu.1; have := (List.getElem?_eq_some_iff.1 hyk).1; simp at *; omega
        rw [e1]
        refine same (v := us[k]) ?_ (hu.2 k y _ hyk (by simp [hlt]))
        simp [Instr.extract, hlt]
      · cases hy
    · cases hy
  · -- build
    rename_i t ps
    split at hy
    · rename_i qs hq
      have hp := ivParts_rep h hq
      obtain ⟨v, h1, h2⟩ := yBuild_run (G := G) (w := w) (M := Mo M0 β st) (β := β) (toks := st.toks) (qs := ps.map fun p => (p.1, a.eval p.2)) hG (by simpa using hp) hy
      exact same h1 h2
    · cases hy
  · -- buildSlice
    rename_i t len ps
    split at hy
    · rename_i qs hq
      have hp := ivParts_rep h hq
      obtain ⟨v, w', h1, h2, h3⟩ := yBuildSlice_run (G := G) (w := w) (M := Mo M0 β st) (β := β) (toks := st.toks) (qs := ps.map fun p => (p.1, a.eval p.2)) hG (fun b o hm => h.mlt hm) (by simpa using hp) hy
      exact ⟨v, w', by simp [h1], h2, h3⟩
    · cases hy
  · -- convert
    rename_i src dst x
    split at hy
    · cases hy
    · rename_i hc
      split at hy
      · rename_i k k' n hk hx
        cases hy
        have hx2 := ev x; rw [hx] at hx2
        rw [Rep.sc_inv hx2]
        have hd : (G.ti dst).size ≠ 0 := fun e => hc (.inr e)
        have hs : (G.ti src).size ≠ 0 := fun e => hc (.inl e)
        have hud := hG.it hd hk
        have hus : ∃ d, G.P.underlying src = some d := by
          have := hG.kind hs
          unfold TK.okB at this
          cases hsu : G.P.underlying src with
          | some d => exact ⟨d, rfl⟩
          | none => rw [hsu] at this; split at this <;> simp_all
        obtain ⟨d, hus⟩ := hus
        refine same (v := .int k (k.wrap n)) ?_ (Rep.sc _ rfl)
        simp [convert, run_underlying hud, run_underlying hus, Conv.intToInt]
      · cases hy
  · -- slice
    rename_i t x lo hi mx
    split at hy
    · cases hy
    · rename_i hm
      have hmx : mx = none := by cases mx <;> simp_all
      subst hmx
      obtain ⟨v, h1, h2⟩ := ySlice_run (G := G) (w := w) hG (ev x) (lv := lo.map a.eval) (hv := hi.map a.eval)
        (fun y hy => by obtain ⟨o', ho', rfl⟩ := Option.map_eq_some_iff.1 hy; exact ⟨_, by rw [ho']; rfl, ev o'⟩) (fun h => by cases lo <;> simp_all)
        (fun y hy => by obtain ⟨o', ho', rfl⟩ := Option.map_eq_some_iff.1 hy; exact ⟨_, by rw [ho']; rfl, ev o'⟩) (fun h => by cases hi <;> simp_all) hy
      exact same h1 h2
  · -- makeFunc
    rename_i fn first caps
    split at hy
    · rename_i f
      split at hy
      · rename_i h0
        split at hy
        · rename_i xs hxs
          cases hy
          have hr := ivsOf_rep h hxs
          have hf0 : first = #[] := Array.eq_empty_of_size_eq_zero h0
          subst hf0
          refine same (v := .func (.func f) #[] (caps.map a.eval)) (by simp [Instr.makeFunc]) ?_
          exact .clo f xs _ (by have := hr.1; simpa using this) fun k x v hx hv => hr.2 k x v hx (by simpa using hv)
        · cases hy
      · cases hy
    · cases hy
  · -- call
    rename_i c
    split at hy
    · rename_i b hb
      split at hy
      · -- len
        split at hy
        · rename_i t x ht hx
          have hat : c.argTypes = #[t] := by apply Array.ext'; simpa using ht
          have hax : c.args = #[x] := by apply Array.ext'; simpa using hx
          obtain ⟨v, h1, h2⟩ := yLen_run (G := G) (w := w) (ty := o.type) hG (ev x) hy
          refine ⟨v, w, ?_, Below.refl _ _, h2⟩
          simp [resolve, hb, invoke, builtin, hat, hax, h1]
        · cases hy
      · split at hy
        · rename_i x r hs
          split at hy
          · rename_i v hv
            cases hy
            obtain ⟨h1, h2⟩ := scs_rep h (xs := c.args.toList) hs
            have hp : plainV x = true := h2 x (by simp)
            obtain ⟨h3, h4⟩ := scFold_run (P := G.P) (f := scMin2) (g := Builtin.min2) (fun x y z w hh => scMin2_run hh w) r x v w hp hv
            refine ⟨v, w, ?_, Below.refl _ _, Rep.sc _ h4⟩
            have e : (c.args.map a.eval).toList = x :: r := by simpa using h1
            simp only [resolve, hb, invoke, builtin, Sem.run_bind, Sem.run_pure, Result.andThen_ok, Builtin.min_]
            rw [e]
            simp [h3]
          · cases hy
        · cases hy
      · split at hy
        · rename_i x r hs
          split at hy
          · rename_i v hv
            cases hy
            obtain ⟨h1, h2⟩ := scs_rep h (xs := c.args.toList) hs
            have hp : plainV x = true := h2 x (by simp)
            obtain ⟨h3, h4⟩ := scFold_run (P := G.P) (f := scMax2) (g := Builtin.max2) (fun x y z w hh => scMax2_run hh w) r x v w hp hv
            refine ⟨v, w, ?_, Below.refl _ _, Rep.sc _ h4⟩
            have e : (c.args.map a.eval).toList = x :: r := by simpa using h1
            simp only [resolve, hb, invoke, builtin, Sem.run_bind, Sem.run_pure, Result.andThen_ok, Builtin.max_]
            rw [e]
            simp [h3]
          · cases hy
        · cases hy
      · cases hy
    · cases hy
end
end Go.Abs
