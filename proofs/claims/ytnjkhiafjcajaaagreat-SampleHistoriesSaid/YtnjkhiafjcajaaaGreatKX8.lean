/-
  Regions whose order is open that hold a call of a function that returns a slice with its spare. Program-independent. The generic layer under all claims of this repo: behind D.
-/
import Derived.Test.YtnjkhiafjcajaaaGreatKX7
namespace Go.Abs
set_option linter.all false
open Go.RowKit (Below)

/-- A call that returns a slice with its spare, under the token d. -/
def aqV (G : Ctx) (st : St) (d : Nat) (o : Oper) (K : AV → Prop) : Prop :=
  match o.op with
  | .call c => match c.callee with
    | .value f => match evO st f, ivsOf (c.args.toList.map (evO st)) with
      | .im (.clo g caps), some xs => (3 ≤ g ∧ g < G.fns) ∧ ∃ e s es, CtrV G.P g (xs ++ caps) e s es ∧ (∀ c ∈ es, c.length = s) ∧ look st.toks d = some (s, es.length) ∧ K (.vec d e s es)
      | _, _ => False
    | _ => False
  | _ => False
def aheadV (G : Ctx) (ops : List Oper) (K : St → Prop) (d : Nat) : Nat → List Oper → St → Prop
  | _, [], _ => False
  | 0, o :: r, st => o.guard = none ∧ o.dst = some d ∧ aqV G st d o fun av => ahead G ops K r (st.put o.dst av)
  | k + 1, o :: r, st => match o.guard with
    | none => aq G st o fun av => aheadV G ops K d k r (st.put o.dst av)
    | some (j, want) => match yieldA st ops j with
      | some (some b) => (b = want → aq G st o fun av => aheadV G ops K d k r (st.put o.dst av)) ∧ (b ≠ want → aheadV G ops K d k r (st.put o.dst undefA))
      | some none => aheadV G ops K d k r (st.put o.dst undefA)
      | none => False

section
variable {G : Ctx} {N : Nat} {w0 : Base} {w w' : World} {M0 : Nat → Nat → Prop} {β : Nat → Option Nat} {st st' : St} {a : Act} {ops : List Oper}

def qValV (G : Ctx) (st : St) (d : Nat) (o : Oper) (av : AV) : Prop :=
  ∃ c f g caps xs e s es, o.op = .call c ∧ c.callee = .value f ∧ evO st f = .im (.clo g caps) ∧ ivsOf (c.args.toList.map (evO st)) = some xs ∧ (3 ≤ g ∧ g < G.fns) ∧ CtrV G.P g (xs ++ caps) e s es ∧ (∀ c ∈ es, c.length = s) ∧ look st.toks d = some (s, es.length) ∧ av = .vec d e s es
def qStepV (G : Ctx) (ops : List Oper) (st : St) (d : Nat) (b : Bool) (o : Oper) (av : AV) : Prop :=
  if b = true then o.guard = none ∧ o.dst = some d ∧ qValV G st d o av else qStep G ops st o av
theorem qStepV_congr {d : Nat} {b : Bool} {o : Oper} {av : AV} (h : ∀ t ∈ o.looksAt ops.toArray, st.get t = st'.get t) (hr : st.rows = st'.rows) (ht : st.toks = st'.toks) (hq : qStepV G ops st d b o av) : qStepV G ops st' d b o av := by
  unfold qStepV at hq ⊢
  split at hq
  · rename_i hb
    rw [if_pos hb]
    obtain ⟨h1, h2, c, f, g, caps, xs, e, s, es, ho, hc, hf, hxs, hg, hv, hes, htok, rfl⟩ := hq
    have hx : ∀ x ∈ o.op.operands, evO st x = evO st' x := fun x hx => evO_congr fun t ht => h t (mem_looksAt_op hx ht)
    refine ⟨h1, h2, c, f, g, caps, xs, e, s, es, ho, hc, ?_, ?_, hg, hv, hes, by rw [← ht]; exact htok, rfl⟩
    · rw [← hx f (by rw [ho]; simp [Op.operands, Call.operands, hc])]; exact hf
    · rw [← hxs]
      congr 1
      exact (List.map_congr_left fun x hx' => (hx x (by rw [ho]; simp [Op.operands, Call.operands, Array.mem_toList_iff.1 hx'])).symm)
  · rename_i hb
    rw [if_neg hb]
    exact qStep_congr h hr ht hq
theorem aheadV_res {K : St → Prop} {d : Nat} : ∀ (l : List Oper) (st : St) (k : Nat), aheadV G ops K d k l st →
    ∃ res : Nat → AV, (∀ i o, l[i]? = some o → qStepV G ops (stUp res (fun _ => true) (l.take i) st) d (decide (i = k)) o (res i)) ∧ K (stUp res (fun _ => true) l st)
  | [], st, k, h => by cases k <;> exact h.elim
  | o :: l, st, 0, h => by
    obtain ⟨hg, hdst, h⟩ := h
    have key : ∃ av, qValV G st d o av ∧ ahead G ops K l (st.put o.dst av) := by
      unfold aqV at h
      split at h
      · rename_i c ho
        split at h
        · rename_i f hf
          split at h
          · rename_i g caps xs h1 h2
            obtain ⟨hg, e, s, es, hv, hes, htok, hk⟩ := h
            exact ⟨_, ⟨c, f, g, caps, xs, e, s, es, ho, hf, h1, h2, hg, hv, hes, htok, rfl⟩, hk⟩
          · exact h.elim
        · exact h.elim
      · exact h.elim
    obtain ⟨av, h1, h2⟩ := key
    obtain ⟨res, h3, h4⟩ := ahead_res l _ h2
    refine ⟨fun i => match i with | 0 => av | i + 1 => res i, fun i o' hi => ?_, ?_⟩
    · cases i with
      | zero => simp at hi; subst hi; exact ⟨hg, hdst, h1⟩
      | succ i =>
        have := h3 i o' (by simpa using hi)
        unfold qStepV
        rw [if_neg (by simp)]
        simpa [stUp] using this
    · simpa [stUp] using h4
  | o :: l, st, k + 1, h => by
    have key : ∃ av, qStep G ops st o av ∧ aheadV G ops K d k l (st.put o.dst av) := by
      unfold aheadV at h
      unfold qStep
      cases hg : o.guard with
      | none =>
        rw [hg] at h
        obtain ⟨av, h1, h2⟩ := aq_qVal h
        exact ⟨av, h1, h2⟩
      | some p =>
        obtain ⟨j, want⟩ := p
        rw [hg] at h
        dsimp only at h ⊢
        cases hy : yieldA st ops j with
        | none => rw [hy] at h; exact h.elim
        | some x =>
          rw [hy] at h
          cases x with
          | none => exact ⟨undefA, rfl, h⟩
          | some b =>
            dsimp only at h ⊢
            by_cases hb : b = want
            · obtain ⟨av, h1, h2⟩ := aq_qVal (h.1 hb)
              exact ⟨av, by rw [if_pos hb]; exact h1, h2⟩
            · exact ⟨undefA, by rw [if_neg hb], h.2 hb⟩
    obtain ⟨av, h1, h2⟩ := key
    obtain ⟨res, h3, h4⟩ := aheadV_res l _ k h2
    refine ⟨fun i => match i with | 0 => av | i + 1 => res i, fun i o' hi => ?_, ?_⟩
    · cases i with
      | zero =>
        simp at hi; subst hi
        unfold qStepV
        rw [if_neg (by simp)]
        exact h1
      | succ i =>
        have := h3 i o' (by simpa using hi)
        simpa [stUp] using this
    · simpa [stUp] using h4
theorem Mo_tok0 {d s n b o : Nat} (h : Mo M0 (upd β d none) (tokSt st d d s n) b o) : Mo M0 β st b o := by
  rcases h with h | ⟨k, s', es', hk, hkb⟩ | ⟨k, s', n', hk, hkb, ho⟩
  · exact .inl h
  · have hne : k ≠ d := fun e => by subst e; simp [tokSt, look_del_same] at hk
    rw [upd_ne _ _ hne] at hkb
    simp only [tokSt, look_del_ne _ hne] at hk
    exact .inr (.inl ⟨k, s', es', hk, hkb⟩)
  · by_cases hne : k = d
    · subst hne; rw [upd_same] at hkb; cases hkb
    · rw [upd_ne _ _ hne] at hkb
      exact .inr (.inr ⟨k, s', n', (tok_other hne hk).2, hkb, ho⟩)
theorem Mo_tokAt {d b s n b' o : Nat} (ht : look st.toks d = some (s, n)) (hm : Mo M0 (upd β d (some b)) st b' o) (hr : look st.rows d = none) : Mo M0 β st b' o ∨ (b' = b ∧ n * s ≤ o) := by
  rcases hm with hm | ⟨k, s', es', hk, hkb⟩ | ⟨k, s', n', hk, hkb, ho⟩
  · exact .inl (.inl hm)
  · have hne : k ≠ d := fun e => by subst e; rw [hr] at hk; cases hk
    rw [upd_ne _ _ hne] at hkb
    exact .inl (.inr (.inl ⟨k, s', es', hk, hkb⟩))
  · by_cases hne : k = d
    · subst hne
      rw [upd_same] at hkb
      rw [ht] at hk
      cases hkb; cases hk
      exact .inr ⟨rfl, ho⟩
    · rw [upd_ne _ _ hne] at hkb
      exact .inl (.inr (.inr ⟨k, s', n', hk, hkb, ho⟩))
/-- A token that stood for no block gets one. -/
theorem Sim.tokAt (h : Sim N w0 M0 β st a w) (hb : Below w.heap.size w w') {d s n b : Nat} (ht : look st.toks d = some (s, n)) (hd : β d = none) (hb1 : w.heap.size ≤ b) (hb2 : b < w'.heap.size) :
    Sim N w0 M0 (upd β d (some b)) st a w' := by
  have hrow : look st.rows d = none := by
    cases hr : look st.rows d with
    | none => rfl
    | some x => have := h.excl d (by simp [hr]); rw [ht] at this; cases this
  have hmo : ∀ b' o, b' < w.heap.size → ¬ Mo M0 β st b' o → ¬ Mo M0 (upd β d (some b)) st b' o := fun b' o hl hn hm => by
    rcases Mo_tokAt ht hm hrow with hm | ⟨e, _⟩
    · exact hn hm
    · omega
  have hk : Kept w (Mo M0 β st) w' (Mo M0 (upd β d (some b)) st) :=
    ⟨fun b' o u hc hn => have hl := World.block_lt_of_cell? (a := ⟨b', o, none⟩) w hc; ⟨by rw [← hc]; exact hb.cell hl, hmo b' o hl hn⟩,
     fun b' es c hc hn => have hl := (Array.getElem?_eq_some_iff.1 hc).1; ⟨by rw [hb.block b' hl]; exact hc, hmo b' 0 hl hn⟩, Shp.of hb⟩
  have hmon : ∀ k b', β k = some b' → upd β d (some b) k = some b' := fun k b' hkb => by
    have hne : k ≠ d := fun e => by subst e; rw [hd] at hkb; cases hkb
    rw [upd_ne _ _ hne]; exact hkb
  have hlt : ∀ k b', ((look st.rows k).isSome ∨ (look st.toks k).isSome) → β k = some b' → b' < w.heap.size := fun k b' hk hkb => by
    rcases hk with hk | hk
    · obtain ⟨⟨s', es'⟩, hl⟩ := Option.isSome_iff_exists.1 hk
      obtain ⟨b2, hb2, _, cur, T', h1, _⟩ := h.rows k s' es' hl
      rw [hkb] at hb2; cases hb2
      exact (Array.getElem?_eq_some_iff.1 h1).1
    · obtain ⟨⟨s', n'⟩, hl⟩ := Option.isSome_iff_exists.1 hk
      exact (h.toks k s' n' hl b' hkb).2
  refine ⟨h.size, h.defers, h.below.step hb, h.m0, fun t => ?_, fun k s' es' hk' => ?_, fun k s' n' hk' b' hb' => ?_, fun k k' b' h1 h2 e1 e2 => ?_, h.excl, fun k hN hN' hk' => ?_, h.np, fun b' => hmon _ _ (h.perm b')⟩
  · exact (h.fr t).moveB hk hmon (fun k b' hl hkb => hb.block b' (hlt k b' (.inr hl) hkb)) (Shp.of hb)
  · obtain ⟨b', h1, h2, h3⟩ := h.rows k s' es' hk'
    exact ⟨b', hmon k b' h1, h2, h3.move hk (hb.block b' (hlt k b' (.inl (by simp [hk'])) h1))⟩
  · by_cases e : k = d
    · subst e
      rw [upd_same] at hb'; cases hb'
      exact ⟨fun hp => absurd (Nat.lt_of_lt_of_le (w0.lt _ hp) h.below.size) (by omega), hb2⟩
    · rw [upd_ne _ _ e] at hb'
      obtain ⟨h1, h2⟩ := h.toks k s' n' hk' b' hb'
      exact ⟨h1, Nat.lt_of_lt_of_le h2 hb.size⟩
  · by_cases e : k = d <;> by_cases e' : k' = d
    · omega
    · subst e
      rw [upd_same] at e1; rw [upd_ne _ _ e'] at e2
      cases e1
      exact absurd (hlt k' _ h2 e2) (by omega)
    · subst e'
      rw [upd_same] at e2; rw [upd_ne _ _ e] at e1
      cases e2
      exact absurd (hlt k _ h1 e1) (by omega)
    · rw [upd_ne _ _ e] at e1; rw [upd_ne _ _ e'] at e2
      exact h.inj k k' b' h1 h2 e1 e2
  · have e : k ≠ d := fun e => by subst e; rw [hrow] at hk'; cases hk'
    rw [upd_ne _ _ e]
    exact h.nam k hN hN' hk'
theorem qValV_sound (hG : G.Good) (h : Sim N w0 M0 β st a w) {d : Nat} {o : Oper} {av : AV} (hβ : β d = none) (hq : qValV G st d o av) {K' : Act → World → Prop} {Q' : Exit → Act → World → Prop}
    (hK : ∀ β2 v w', Sim N w0 M0 β2 st a w' → RepA w' (Mo M0 β2 st) β2 st.toks av v → K' (a.put o.dst v) w') : o.wp G.P a w K' Q' := by
  obtain ⟨c, f, g, caps, xs, e, s, es, ho, hc, hf, hxs, hg, hctr, hes, htok, rfl⟩ := hq
  have hargs := ivsOf_rep h hxs
  have hfv := evO_rep h f
  rw [hf] at hfv
  obtain ⟨vs, hfe, hcaps⟩ := Rep.clo_inv hfv
  have hall : RepL w (Mo M0 β st) (xs ++ caps) ((c.args.map a.eval) ++ vs).toList := by
    refine ⟨?_, fun k x v hx hv => ?_⟩
    · have h1 := hargs.1; have h2 := hcaps.1
      simp at h1 h2
      simp [h1, h2]
    · rw [Array.toList_append, Array.toList_map] at hv
      have h1 := hargs.1
      by_cases hk : k < xs.length
      · rw [List.getElem?_append_left hk] at hx
        rw [List.getElem?_append_left (by omega)] at hv
        exact hargs.2 k x v hx hv
      · rw [List.getElem?_append_right (by omega)] at hx
        rw [List.getElem?_append_right (by omega), ← h1] at hv
        exact hcaps.2 _ x v hx hv
  have hrow : look st.rows d = none := by
    cases hr : look st.rows d with
    | none => rfl
    | some x => have := h.excl d (by simp [hr]); rw [htok] at this; cases this
  have hcalls := hctr w (Mo M0 β st) _ (fun b o hm => h.mlt hm) hall
  have hrun : (execOp a.eval o).run G.P w = .ok (.enter g (c.args.map a.eval ++ vs)) w := by
    unfold execOp
    rw [ho]
    simp only [resolve, hc, hfe, Deferred.ofValue, Sem.run_bind, Sem.run_pure, Result.andThen_ok, Array.empty_append, invoke, callFunc_run (hG.fn g hg)]
  unfold Oper.wp
  rw [hrun, Oper.upon_enter]
  rw [Array.toArray_toList] at hcalls
  refine hcalls.mono fun en w' ⟨v, he, hb, hv⟩ => ?_
  subst he
  rcases hv with ⟨hr, hcap⟩ | ⟨b, cap, cur, h1, h2, h3, h4, h5, h6, h7, h8⟩
  · exact hK β v w' (h.ext hb) ⟨hr, hes, fun _ => .inl hcap⟩
  · refine hK (upd β d (some b)) v w' (h.tokAt hb htok hβ h1 h2) ⟨h3.less fun b' o' hm => Mo_tokAt htok hm hrow, hes, fun _ => .inr ⟨b, cap, cur, upd_same _ _ _, h4, h5, h6, h7, h8⟩⟩
theorem draw_soundV (hG : G.Good) (id n i1 d1 s1 n1 : Nat) (hB : drawB ops.toArray n = true) (hd1 : d1 < 100000) (hd : ∀ o ∈ ops, ∀ d, o.dst = some d → d < N) {K : St → Prop} {Q' : Exit → Act → World → Prop}
    (hK : ∀ st' β' a' w', K st' → Sim N w0 M0 β' st' a' w' → Q' .normal a' w') (h : Sim N w0 M0 β st a w)
    (hA : aheadV G ops (fun s => alist G ops K (ops.drop n) s) d1 i1 (ops.take n) (tokSt st d1 d1 s1 n1)) (hst0 : look (tokSt st d1 d1 s1 n1).toks d1 = some (s1, n1)) : (Code.region id ops.toArray true).wp G.P Q' a w := by
  simp only [drawB, Bool.and_eq_true, decide_eq_true_eq, Bool.or_eq_true, beq_iff_eq] at hB
  obtain ⟨⟨⟨⟨hn, hafter⟩, hpair⟩, htail⟩, hseq⟩ := hB
  obtain ⟨res, hres, hfin⟩ := aheadV_res _ _ _ hA
  have h0 : Sim N w0 M0 (upd β d1 none) (tokSt st d1 d1 s1 n1) a w := h.newTok (w' := w) (src := d1) (dst := d1) (s := s1) (n := n1) (X := none) (Kept.less w fun b o hm => Mo_tok0 hm) h.below (Shp.refl _) (Nat.le_refl _) (fun _ _ _ _ => rfl) (by simp) (.inl rfl) hd1
  generalize tokSt st d1 d1 s1 n1 = st at *
  have hsz : ops.toArray.size = ops.length := by simp
  have htake : ∀ i, i < n → (ops.take n)[i]? = ops[i]? := fun i hi => by rw [List.getElem?_take, if_pos hi]
  have hlt : ∀ i o, (ops.take n)[i]? = some o → i < n ∧ ops[i]? = some o := fun i o hi => by
    rw [List.getElem?_take] at hi
    split at hi
    · exact ⟨‹_›, hi⟩
    · cases hi
  have arr : ∀ (i : Nat) (o : Oper), ops[i]? = some o → ops.toArray[i]? = some o := fun i o h => by simpa using h
  have hpair' : ∀ i j oi oj, i < j → j < n → ops[i]? = some oi → ops[j]? = some oj → Region.waitsFor .any ops.toArray j i = true ∨ oi.apart ops.toArray oj = true := by
    intro i j oi oj hij hj h1 h2
    have := List.all_eq_true.1 (List.all_eq_true.1 hpair j (List.mem_range.2 hj)) i (List.mem_range.2 hij)
    rw [arr i oi h1, arr j oj h2] at this
    simpa using this
  have hafter' : ∀ (j : Nat) oj, ops[j]? = some oj → ∀ e ∈ oj.after, Region.binds .any e = true → e.on < j := by
    intro j oj hj e he hb
    have hjl : j < ops.toArray.size := by rw [hsz]; exact (List.getElem?_eq_some_iff.1 hj).1
    have := List.all_eq_true.1 hafter j (List.mem_range.2 hjl)
    rw [arr j oj hj] at this
    have := Array.all_eq_true'.1 this e he
    simpa [hb] using this
  have main : ∀ c (listed : Array Bool) (a : Act) (w : World), cntB listed n = c → HeadInv .any ops.toArray n listed →
      (∃ β, (listed.getD i1 false = false → β d1 = none) ∧ Sim N w0 M0 β (stUp res (fun i => listed.getD i false) (ops.take n) st) a w) → wpAny G.P .any ops.toArray Q' (c + (ops.toArray.size - n)) listed a w := by
    intro c
    induction c with
    | zero =>
      rintro listed a w hc inv ⟨β, _, hs⟩
      rw [Nat.zero_add]
      have hall := cntB_zero hc
      have hcan : listed = canonL n ops.toArray.size := by
        apply Array.ext
        · rw [inv.size]; simp [canonL]
        · intro i h1 h2
          have hil : i < ops.length := by rw [inv.size] at h1; simpa using h1
          by_cases hin : i < n
          · have := hall i hin
            have e1 : listed[i] = true := by simpa [h1] using this
            rw [e1]; simp [canonL, hin]
          · have := inv.tail i (by omega) (by rw [inv.size] at h1; exact h1)
            have e1 : listed[i] = false := by simpa [h1] using this
            rw [e1]; simp [canonL, hin]
      have hs' : Sim N w0 M0 β (stUp res (fun _ => true) (ops.take n) st) a w := by
        refine hs.congr (fun t => stUp_get _ _ _ _ _ _ rfl fun i o hi _ => hall i (hlt i o hi).1) ?_ ?_
        · rw [(stUp_rows _ _ _ _).1, (stUp_rows _ _ _ _).1]
        · rw [(stUp_rows _ _ _ _).2, (stUp_rows _ _ _ _).2]
      have hlist := alist_sound hG hK (ops.drop n) _ β a w (fun o ho => hd o (List.mem_of_mem_drop ho)) hfin hs'
      have hdl : (ops.drop n).length = ops.toArray.size - n := by simp
      have := wpAny_of_seq (P := G.P) (md := .any) (Q' := Q') (ops.drop n) n listed a w (fun j => by simp [List.getElem?_drop]) (by rw [hcan, hdl]; exact hseq) hlist
      rwa [hdl] at this
    | succ c ih =>
      rintro listed a w hc inv ⟨β, hβ1, hs⟩
      obtain ⟨i0, hi0, hun0, hmin⟩ := cntB_pos (by omega : cntB listed n ≠ 0)
      have hL : ∀ i, i < n → (listed.getD i true = false ↔ listed.getD i false = false) := fun i hi => by
        have : i < listed.size := by rw [inv.size]; omega
        simp [this]
      have hready0 : i0 ∈ Region.ready .any ops.toArray listed := by
        have hil : i0 < ops.length := by rw [← hsz]; omega
        refine mem_ready.2 ⟨(hL i0 hi0).2 hun0, ops[i0], arr i0 _ (List.getElem?_eq_getElem hil), fun e he hb => hmin _ (hafter' i0 _ (List.getElem?_eq_getElem hil) e he hb)⟩
      have hgoal : (Region.ready .any ops.toArray listed = [] → Q' .normal a w) ∧ ∀ i ∈ Region.ready .any ops.toArray listed, wpOp G.P ops.toArray Q' i (wpAny G.P .any ops.toArray Q' (c + (ops.toArray.size - n)) (listed.setIfInBounds i true)) a w := by
        refine ⟨fun hr => (by rw [hr] at hready0; cases hready0), fun i hi => ?_⟩
        obtain ⟨hun, oi, hoi, hall⟩ := mem_ready.1 hi
        have hoi' : ops[i]? = some oi := by simpa using hoi
        have hisz : i < ops.toArray.size := (Array.getElem?_eq_some_iff.1 hoi).1
        have hin : i < n := by
          rcases Nat.lt_or_ge i n with h' | h'
          · exact h'
          · rcases htail with e | ⟨hsink, hchain⟩
            · omega
            · exact absurd hi (tail_waits hsink hchain (by omega) inv _ i0 rfl hi0 ((hL i0 hi0).2 hun0) i h')
        have hunf : listed.getD i false = false := (hL i hin).1 hun
        have hwait : ∀ k, Region.waitsFor .any ops.toArray i k = true → listed.getD k false = true := fun k hk => by
          obtain ⟨oj, hoj, e, he, hb, hon⟩ := Region.waitsFor_spec hk
          rw [hoi] at hoj; cases hoj
          rw [← hon]; exact hall e he hb
        have hlate : ∀ k, Region.waitsFor .any ops.toArray k i = true → listed.getD k false = false := fun k hk => by
          obtain ⟨ok, hok, e, he, hb, hon⟩ := Region.waitsFor_spec hk
          cases hl : listed.getD k false with
          | false => rfl
          | true =>
            have := inv.closed k ok hok hl e he hb
            rw [hon, hunf] at this; cases this
        -- the state in which it comes up agrees, where it looks, with the state of the text's order
        have hagree : ∀ t ∈ oi.looksAt ops.toArray, (stUp res (fun _ => true) ((ops.take n).take i) st).get t = (stUp res (fun k => listed.getD k false) (ops.take n) st).get t := by
          intro t ht
          rw [stUp_take]
          refine stUp_get _ _ _ _ _ _ rfl fun k ok hk hdk => ?_
          obtain ⟨hkn, hok⟩ := hlt k ok hk
          rcases Nat.lt_trichotomy k i with hki | hki | hki
          · rcases hpair' k i ok oi hki hin hok hoi' with hw | hap
            · rw [hwait k hw]; simp [hki]
            · exact absurd ht ((Oper.apart_spec hap).1 t hdk)
          · subst hki; rw [hunf]; simp
          · rcases hpair' i k oi ok hki hkn hoi' hok with hw | hap
            · rw [hlate k hw]; simp; omega
            · exact absurd ht ((Oper.apart_spec hap).2.2 t hdk)
        have hq : qStepV G ops (stUp res (fun k => listed.getD k false) (ops.take n) st) d1 (decide (i = i1)) oi (res i) :=
          qStepV_congr hagree (by rw [(stUp_rows _ _ _ _).1, (stUp_rows _ _ _ _).1]) (by rw [(stUp_rows _ _ _ _).2, (stUp_rows _ _ _ _).2]) (hres i oi (by rw [htake i hin]; exact hoi'))
        have hisL : i < listed.size := by rw [inv.size]; exact hisz
        have hcnt : cntB (listed.setIfInBounds i true) n = c := by
          have := cntB_set hisL hunf n
          rw [if_pos hin] at this; omega
        have next : ∀ (β2 : Nat → Option Nat) v w2, ((listed.setIfInBounds i true).getD i1 false = false → β2 d1 = none) → Sim N w0 M0 β2 (stUp res (fun k => listed.getD k false) (ops.take n) st) a w2 → RepA w2 (Mo M0 β2 (stUp res (fun k => listed.getD k false) (ops.take n) st)) β2 (stUp res (fun k => listed.getD k false) (ops.take n) st).toks (res i) v →
            wpAny G.P .any ops.toArray Q' (c + (ops.toArray.size - n)) (listed.setIfInBounds i true) (a.put oi.dst v) w2 := by
          intro β2 v w2 hβ2 hsx hv
          have hs2 := hsx.put (dst := oi.dst) (hd oi (List.mem_of_getElem? hoi')) hv
          refine ih _ _ _ hcnt (inv.set hi hin) ⟨β2, hβ2, hs2.congr (fun t => ?_) ?_ ?_⟩
          · have hset : ∀ k, k ≠ i → (listed.setIfInBounds i true).getD k false = listed.getD k false := fun k hk => getD_set_ne false (Ne.symm hk)
            by_cases hdt : oi.dst = some t
            · rw [hdt, get_put_same]
              refine (stUp_last (ops.take n) res _ st i oi (by rw [htake i hin]; exact hoi') hdt (by simp [hisL]) fun k ok hik hk hLk hdk => ?_).symm
              obtain ⟨hkn, hok⟩ := hlt k ok hk
              rw [hset k (by omega)] at hLk
              rcases hpair' i k oi ok hik hkn hoi' hok with hw | hap
              · rw [hlate k hw] at hLk; cases hLk
              · exact (Oper.apart_spec hap).2.1 t hdt hdk
            · rw [get_put_ne hdt]
              refine stUp_get _ _ _ _ _ _ rfl fun k ok hk hdk => ?_
              have : k ≠ i := fun e => by
                subst e
                obtain ⟨_, hok⟩ := hlt k ok hk
                rw [hoi'] at hok; cases hok
                exact hdt hdk
              exact (hset k this).symm
          · rw [show ((stUp res (fun k => listed.getD k false) (ops.take n) st).put oi.dst (res i)).rows = (stUp res (fun k => listed.getD k false) (ops.take n) st).rows by unfold St.put; split <;> rfl, (stUp_rows _ _ _ _).1, (stUp_rows _ _ _ _).1]
          · rw [show ((stUp res (fun k => listed.getD k false) (ops.take n) st).put oi.dst (res i)).toks = (stUp res (fun k => listed.getD k false) (ops.take n) st).toks by unfold St.put; split <;> rfl, (stUp_rows _ _ _ _).2, (stUp_rows _ _ _ _).2]
        have next0 : ∀ v w2, Below w.heap.size w w2 → (i ≠ i1) → RepA w2 (Mo M0 β (stUp res (fun k => listed.getD k false) (ops.take n) st)) β (stUp res (fun k => listed.getD k false) (ops.take n) st).toks (res i) v →
            wpAny G.P .any ops.toArray Q' (c + (ops.toArray.size - n)) (listed.setIfInBounds i true) (a.put oi.dst v) w2 := fun v w2 hb hne hv =>
          next β v w2 (fun hl => hβ1 (by rwa [getD_set_ne false hne] at hl)) (hs.ext hb) hv
        unfold wpOp
        rw [hoi]
        dsimp only
        unfold qStepV at hq
        by_cases hii : i = i1
        · subst hii
          rw [if_pos (decide_eq_true rfl)] at hq
          obtain ⟨hg, hdst, hq⟩ := hq
          rw [if_pos (by simp [Region.wanted, hg])]
          refine .inl (qValV_sound hG hs (hβ1 hunf) hq fun β2 v w2 hs2 hv => ?_)
          exact next β2 v w2 (fun hl => by simp [hisL] at hl) hs2 hv
        · rw [if_neg (by simpa using hii)] at hq
          unfold qStep at hq
          cases hg : oi.guard with
          | none =>
            rw [hg] at hq
            rw [if_pos (by simp [Region.wanted, hg])]
            exact .inl (qVal_sound hG hs hq fun v w2 hb hv => next0 v w2 hb hii hv)
          | some p =>
            obtain ⟨j, want⟩ := p
            rw [hg] at hq
            dsimp only at hq
            split at hq
            · rename_i b hy
              have hyc := yieldA_some hs hy
              by_cases hb : b = want
              · rw [if_pos hb] at hq
                rw [if_pos (by simp [Region.wanted, hg, hyc, hb])]
                exact .inl (qVal_sound hG hs hq fun v w2 hb hv => next0 v w2 hb hii hv)
              · rw [if_neg hb] at hq
                rw [if_neg (by simp [Region.wanted, hg, hyc, hb])]
                exact next0 _ w (Below.refl _ _) hii (by rw [hq]; exact Rep.sc _ rfl)
            · rename_i hy
              have hyc := yieldA_none hs hy
              rw [if_neg (by simp [Region.wanted, hg, hyc])]
              exact next0 _ w (Below.refl _ _) hii (by rw [hq]; exact Rep.sc _ rfl)
            · exact hq.elim
      have : c + 1 + (ops.toArray.size - n) = (c + (ops.toArray.size - n)) + 1 := by omega
      rw [this]
      exact hgoal
  refine wp_region_any hG.mixed ?_
  have inv0 : HeadInv .any ops.toArray n (Array.replicate ops.toArray.size false) :=
    ⟨by simp, fun j oj _ hl => (by rw [getD_replicate_false] at hl; cases hl), fun t _ ht => getD_in (by simpa using ht) (getD_replicate_false _ _)⟩
  have hc0 : ∀ k, cntB (Array.replicate ops.toArray.size false) k = k := fun k => by
    induction k with
    | zero => rfl
    | succ k ihk => simp only [cntB, ihk, getD_replicate_false]; simp
  have := main n (Array.replicate ops.toArray.size false) a _ (hc0 n) inv0 ⟨_, fun _ => upd_same _ _ _, h0.drew.congr (fun t => by
    have hf : ∀ (l : List Oper) (res : Nat → AV) (L : Nat → Bool) (st : St), (∀ i, L i = false) → stUp res L l st = st := by
      intro l
      induction l with
      | nil => intros; rfl
      | cons o l ih =>
        intro res L st hL
        simp only [stUp, hL 0]
        exact ih _ _ _ fun i => hL (i + 1)
    rw [hf _ _ _ _ fun i => getD_replicate_false _ _]) (stUp_rows _ _ _ _).1.symm (stUp_rows _ _ _ _).2.symm⟩
  rwa [show n + (ops.toArray.size - n) = ops.toArray.size by omega] at this
end
end Go.Abs

namespace Go.Abs
set_option linter.all false
open Go.RowKit (Below)

/-- Every operation that may come up next is walked; listed: those that came up. -/
def aAny (G : Ctx) (ops : List Oper) (K : St → Prop) : Nat → Array Bool → St → Prop
  | 0, listed, st => Region.ready .any ops.toArray listed = [] ∧ K st
  | f + 1, listed, st => Region.ready .any ops.toArray listed ≠ [] ∧
      ∀ i ∈ Region.ready .any ops.toArray listed, ∃ o, ops[i]? = some o ∧ alist G ops (aAny G ops K f (listed.setIfInBounds i true)) [o] st

section
variable {G : Ctx} {N : Nat} {w0 : Base} {w w' : World} {M0 : Nat → Nat → Prop} {β : Nat → Option Nat} {st st' : St} {a : Act} {ops : List Oper}
theorem aAny_sound (hG : G.Good) (hd : ∀ o ∈ ops, ∀ d, o.dst = some d → d < N) {K : St → Prop} {Q' : Exit → Act → World → Prop}
    (hK : ∀ st' β' a' w', K st' → Sim N w0 M0 β' st' a' w' → Q' .normal a' w') :
    ∀ (f : Nat) (listed : Array Bool) (st : St) (β : Nat → Option Nat) (a : Act) (w : World), aAny G ops K f listed st → Sim N w0 M0 β st a w → wpAny G.P .any ops.toArray Q' f listed a w
  | 0, listed, st, β, a, w, hA, h => ⟨hA.1, hK st β a w hA.2 h⟩
  | f + 1, listed, st, β, a, w, hA, h => by
    refine ⟨fun hr => absurd hr hA.1, fun i hi => ?_⟩
    obtain ⟨o, ho, hl⟩ := hA.2 i hi
    have hd0 := hd o (List.mem_of_getElem? ho)
    have ho' : ops.toArray[i]? = some o := by simpa using ho
    have ih := aAny_sound hG hd hK f (listed.setIfInBounds i true)
    unfold wpOp
    rw [ho']
    dsimp only
    unfold alist at hl
    have hnil : ∀ s, alist G ops (aAny G ops K f (listed.setIfInBounds i true)) [] s = aAny G ops K f (listed.setIfInBounds i true) s := fun s => rfl
    split at hl
    · rename_i hg
      have hw : Region.wanted o (yielded ops.toArray a.tmps) = true := by simp [Region.wanted, hg]
      rw [if_pos hw]
      exact .inl (aop_sound hG h hd0 hl fun st' β' a' w' hk hs => ih st' β' a' w' hk hs)
    · rename_i j want hg
      split at hl
      · rename_i b hy
        have hyc := yieldA_some h hy
        by_cases hb : b = want
        · have hw : Region.wanted o (yielded ops.toArray a.tmps) = true := by simp [Region.wanted, hg, hyc, hb]
          rw [if_pos hw]
          exact .inl (aop_sound hG h hd0 (hl.1 hb) fun st' β' a' w' hk hs => ih st' β' a' w' hk hs)
        · have hw : Region.wanted o (yielded ops.toArray a.tmps) = false := by simp [Region.wanted, hg, hyc, hb]
          rw [if_neg (by simp [hw])]
          exact ih _ β _ _ (hl.2 hb) (h.put hd0 (Rep.sc _ rfl))
      · rename_i hy
        have hyc := yieldA_none h hy
        have hw : Region.wanted o (yielded ops.toArray a.tmps) = false := by simp [Region.wanted, hg, hyc]
        rw [if_neg (by simp [hw])]
        exact ih _ β _ _ hl (h.put hd0 (Rep.sc _ rfl))
      · exact hl.elim
theorem any_sound (hG : G.Good) (id : Nat) (hd : ∀ o ∈ ops, ∀ d, o.dst = some d → d < N) {K : St → Prop} {Q' : Exit → Act → World → Prop}
    (hK : ∀ st' β' a' w', K st' → Sim N w0 M0 β' st' a' w' → Q' .normal a' w') (h : Sim N w0 M0 β st a w)
    (hA : aAny G ops K ops.length (Array.replicate ops.length false) st) : (Code.region id ops.toArray true).wp G.P Q' a w := by
  refine wp_region_any hG.mixed ?_
  have := aAny_sound hG hd hK ops.length (Array.replicate ops.length false) st β a _ hA h.drew
  have hsz : ops.toArray.size = ops.length := by simp
  rw [hsz]
  exact this
end
end Go.Abs
