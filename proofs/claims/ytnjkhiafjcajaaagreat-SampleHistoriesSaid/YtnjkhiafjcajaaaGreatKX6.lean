/-
  Regions whose order is open: one walk in the text's order serves every order. Program-independent. The generic layer under all claims of this repo: 15 of several.
-/
import Derived.Test.YtnjkhiafjcajaaaGreatKX5
namespace Go.Abs
set_option linter.all false
open Go.RowKit (Below)

def canonL (n size : Nat) : Array Bool := ((List.range size).map fun i => decide (i < n)).toArray
/-- The first n operations may come up in any order that the edges allow; what follows comes up behind them, in the text's order. -/
def drawB (ops : Array Oper) (n : Nat) : Bool :=
  decide (n ≤ ops.size) &&
  (List.range ops.size).all (fun j => match ops[j]? with
    | some o => o.after.all fun e => !Region.binds .any e || decide (e.on < j)
    | none => true) &&
  (List.range n).all (fun j => (List.range j).all fun i => Region.waitsFor .any ops j i || (match ops[i]?, ops[j]? with
    | some oi, some oj => oi.apart ops oj
    | _, _ => false)) &&
  (n == ops.size || (Region.sinkB .any ops n && Region.chainB .any ops n)) &&
  Region.seqB .any ops (ops.size - n) n (canonL n ops.size)

section
variable {G : Ctx} {N : Nat} {w0 : Base} {w w' : World} {M0 : Nat → Nat → Prop} {β : Nat → Option Nat} {st st' : St} {a : Act} {ops : List Oper}

theorem Sim.congr (h : Sim N w0 M0 β st a w) (hg : ∀ t, st.get t = st'.get t) (hr : st.rows = st'.rows) (ht : st.toks = st'.toks) : Sim N w0 M0 β st' a w := by
  have hM : Mo M0 β st' = Mo M0 β st := by unfold Mo; rw [hr, ht]
  refine ⟨h.size, h.defers, h.below, h.m0, fun t => ?_, ?_, ?_, ?_, ?_, by rw [← hr]; exact h.nam, h.np, h.perm⟩
  · rw [hM, ← hg, ← ht]; exact h.fr t
  · rw [hM, ← hr]; exact h.rows
  · rw [← ht]; exact h.toks
  · rw [← hr, ← ht]; exact h.inj
  · rw [← hr, ← ht]; exact h.excl

theorem qVal_sound (hG : G.Good) (h : Sim N w0 M0 β st a w) {o : Oper} {av : AV} (hq : qVal G st o av) {K' : Act → World → Prop} {Q' : Exit → Act → World → Prop}
    (hK : ∀ v w', Below w.heap.size w w' → RepA w' (Mo M0 β st) β st.toks av v → K' (a.put o.dst v) w') : o.wp G.P a w K' Q' := by
  rcases hq with hy | ⟨c, f, g, caps, xs, r, ho, hc, hf, hxs, hg, hctr, rfl⟩
  · obtain ⟨v, w', hr, hb, hv⟩ := yv_run hG.ok h hy
    unfold Oper.wp
    rw [hr]
    exact hK v w' hb hv
  · have hargs := ivsOf_rep h hxs
    have hfv := evO_rep h f
    rw [hf] at hfv
    obtain ⟨vs, hfe, hcaps⟩ := Rep.clo_inv hfv
    have hall : RepL w (Mo M0 β st) (xs ++ caps) ((c.args.map a.eval) ++ vs).toList := by
      refine ⟨?_, fun k x v hx hv => ?_⟩
      · have h1 := hargs.1; have h2 := hcaps.1
        simp at h1 h2
        simp [h1, h2]
      · rw [Array.toList_append, Array.toList_map] at hv
        have h1 := hargs.1
        by_cases hk : k < xs.length
        · rw [List.getElem?_append_left hk] at hx
          rw [List.getElem?_append_left (by omega)] at hv
          exact hargs.2 k x v hx hv
        · rw [List.getElem?_append_right (by omega)] at hx
          rw [List.getElem?_append_right (by omega), ← h1] at hv
          exact hcaps.2 _ x v hx hv
    have hcalls := hctr w (Mo M0 β st) _ (fun b o hm => h.mlt hm) hall
    have hrun : (execOp a.eval o).run G.P w = .ok (.enter g (c.args.map a.eval ++ vs)) w := by
      unfold execOp
      rw [ho]
      simp only [resolve, hc, hfe, Deferred.ofValue, Sem.run_bind, Sem.run_pure, Result.andThen_ok, Array.empty_append, invoke, callFunc_run (hG.fn g hg)]
    unfold Oper.wp
    rw [hrun, Oper.upon_enter]
    rw [Array.toArray_toList] at hcalls
    refine hcalls.mono fun e w' ⟨r', v, hr, he, hv, hb⟩ => ?_
    subst he; subst hr
    exact hK v w' hb hv

theorem mem_looksAt_op {o : Oper} {x : Operand} {t : Nat} (hx : x ∈ o.op.operands) (ht : x = .tmp t) : t ∈ o.looksAt ops.toArray := by
  subst ht
  exact List.mem_append_left _ (List.mem_filterMap.2 ⟨.tmp t, by simpa using hx, rfl⟩)
theorem qVal_congr {o : Oper} {av : AV} (h : ∀ t ∈ o.looksAt ops.toArray, st.get t = st'.get t) (hr : st.rows = st'.rows) (ht : st.toks = st'.toks) (hq : qVal G st o av) : qVal G st' o av := by
  have hx : ∀ x ∈ o.op.operands, evO st x = evO st' x := fun x hx => evO_congr fun t ht => h t (mem_looksAt_op hx ht)
  rcases hq with hy | ⟨c, f, g, caps, xs, r, ho, hc, hf, hxs, rest⟩
  · exact .inl (by rw [← yv_congr hx hr ht]; exact hy)
  · refine .inr ⟨c, f, g, caps, xs, r, ho, hc, ?_, ?_, rest⟩
    · rw [← hx f (by rw [ho]; simp [Op.operands, Call.operands, hc])]; exact hf
    · rw [← hxs]
      congr 1
      exact (List.map_congr_left fun x hx' => (hx x (by rw [ho]; simp [Op.operands, Call.operands, Array.mem_toList_iff.1 hx'])).symm)
theorem qStep_congr {o : Oper} {av : AV} (h : ∀ t ∈ o.looksAt ops.toArray, st.get t = st'.get t) (hr : st.rows = st'.rows) (ht : st.toks = st'.toks) (hq : qStep G ops st o av) : qStep G ops st' o av := by
  unfold qStep at hq ⊢
  cases hg : o.guard with
  | none => rw [hg] at hq; exact qVal_congr h hr ht hq
  | some p =>
    obtain ⟨j, want⟩ := p
    rw [hg] at hq
    have hy : yieldA st ops j = yieldA st' ops j := by
      unfold yieldA
      cases ho : ops[j]? with
      | none => rfl
      | some oj =>
        cases hd : oj.dst with
        | none => simp only [hd]
        | some t =>
          have : t ∈ o.looksAt ops.toArray := by
            have ho' : ops.toArray[j]? = some oj := by simpa using ho
            simp [Oper.looksAt, hg, ho', ho, hd]
          simp only [hd, h t this]
    simp only [← hy]
    dsimp only at hq
    cases hyy : yieldA st ops j with
    | none => rw [hyy] at hq; exact hq
    | some x =>
      cases x with
      | none => rw [hyy] at hq; exact hq
      | some b =>
        rw [hyy] at hq
        dsimp only at hq ⊢
        by_cases hb : b = want
        · rw [if_pos hb] at hq ⊢; exact qVal_congr h hr ht hq
        · rw [if_neg hb] at hq ⊢; exact hq

/-- How many of the first n are still to come. -/
def cntB (listed : Array Bool) : Nat → Nat
  | 0 => 0
  | n + 1 => cntB listed n + (if listed.getD n false = true then 0 else 1)
theorem cntB_set {listed : Array Bool} {i : Nat} (hi : i < listed.size) (h0 : listed.getD i false = false) : ∀ n, cntB (listed.setIfInBounds i true) n + (if i < n then 1 else 0) = cntB listed n
  | 0 => by simp [cntB]
  | n + 1 => by
    have ih := cntB_set hi h0 n
    simp only [cntB]
    by_cases hin : i = n
    · subst hin
      have : (listed.setIfInBounds i true).getD i false = true := by simp [hi]
      rw [if_pos this, h0]
      simp only [Nat.lt_irrefl, if_false, Nat.add_zero] at ih
      simp [ih]
    · have : (listed.setIfInBounds i true).getD n false = listed.getD n false := getD_set_ne false hin
      rw [this]
      generalize (if listed.getD n false = true then 0 else 1) = x
      by_cases h : i < n
      · rw [if_pos h] at ih; rw [if_pos (by omega : i < n + 1)]; omega
      · rw [if_neg h] at ih; rw [if_neg (by omega : ¬ i < n + 1)]; omega
theorem cntB_zero {listed : Array Bool} : ∀ {n}, cntB listed n = 0 → ∀ i, i < n → listed.getD i false = true
  | 0, _, i, hi => by omega
  | n + 1, h, i, hi => by
    simp only [cntB] at h
    by_cases hin : i = n
    · subst hin
      by_cases hl : listed.getD i false = true
      · exact hl
      · rw [if_neg hl] at h; omega
    · exact cntB_zero (n := n) (by omega) i (by omega)
theorem cntB_pos {listed : Array Bool} : ∀ {n}, cntB listed n ≠ 0 → ∃ i, i < n ∧ listed.getD i false = false ∧ ∀ j, j < i → listed.getD j false = true
  | 0, h => absurd rfl h
  | n + 1, h => by
    by_cases h0 : cntB listed n = 0
    · refine ⟨n, by omega, ?_, fun j hj => cntB_zero h0 j hj⟩
      simp only [cntB, h0] at h
      cases hl : listed.getD n false with
      | false => rfl
      | true => rw [hl] at h; simp at h
    · obtain ⟨i, h1, h2⟩ := cntB_pos h0
      exact ⟨i, by omega, h2⟩

theorem draw_sound (hG : G.Good) (id n : Nat) (hB : drawB ops.toArray n = true) (hd : ∀ o ∈ ops, ∀ d, o.dst = some d → d < N) {K : St → Prop} {Q' : Exit → Act → World → Prop}
    (hK : ∀ st' β' a' w', K st' → Sim N w0 M0 β' st' a' w' → Q' .normal a' w') (h : Sim N w0 M0 β st a w)
    (hA : ahead G ops (fun s => alist G ops K (ops.drop n) s) (ops.take n) st) : (Code.region id ops.toArray true).wp G.P Q' a w := by
  simp only [drawB, Bool.and_eq_true, decide_eq_true_eq, Bool.or_eq_true, beq_iff_eq] at hB
  obtain ⟨⟨⟨⟨hn, hafter⟩, hpair⟩, htail⟩, hseq⟩ := hB
  obtain ⟨res, hres, hfin⟩ := ahead_res _ _ hA
  have hsz : ops.toArray.size = ops.length := by simp
  have htake : ∀ i, i < n → (ops.take n)[i]? = ops[i]? := fun i hi => by rw [List.getElem?_take, if_pos hi]
  have hlt : ∀ i o, (ops.take n)[i]? = some o → i < n ∧ ops[i]? = some o := fun i o hi => by
    rw [List.getElem?_take] at hi
    split at hi
    · exact ⟨‹_›, hi⟩
    · cases hi
  have arr : ∀ (i : Nat) (o : Oper), ops[i]? = some o → ops.toArray[i]? = some o := fun i o h => by simpa using h
  have hpair' : ∀ i j oi oj, i < j → j < n → ops[i]? = some oi → ops[j]? = some oj → Region.waitsFor .any ops.toArray j i = true ∨ oi.apart ops.toArray oj = true := by
    intro i j oi oj hij hj h1 h2
    have := List.all_eq_true.1 (List.all_eq_true.1 hpair j (List.mem_range.2 hj)) i (List.mem_range.2 hij)
    rw [arr i oi h1, arr j oj h2] at this
    simpa using this
  have hafter' : ∀ (j : Nat) oj, ops[j]? = some oj → ∀ e ∈ oj.after, Region.binds .any e = true → e.on < j := by
    intro j oj hj e he hb
    have hjl : j < ops.toArray.size := by rw [hsz]; exact (List.getElem?_eq_some_iff.1 hj).1
    have := List.all_eq_true.1 hafter j (List.mem_range.2 hjl)
    rw [arr j oj hj] at this
    have := Array.all_eq_true'.1 this e he
    simpa [hb] using this
  have main : ∀ c (listed : Array Bool) (a : Act) (w : World), cntB listed n = c → HeadInv .any ops.toArray n listed →
      Sim N w0 M0 β (stUp res (fun i => listed.getD i false) (ops.take n) st) a w → wpAny G.P .any ops.toArray Q' (c + (ops.toArray.size - n)) listed a w := by
    intro c
    induction c with
    | zero =>
      intro listed a w hc inv hs
      rw [Nat.zero_add]
      have hall := cntB_zero hc
      have hcan : listed = canonL n ops.toArray.size := by
        apply Array.ext
        · rw [inv.size]; simp [canonL]
        · intro i h1 h2
          have hil : i < ops.length := by rw [inv.size] at h1; simpa using h1
          by_cases hin : i < n
          · have := hall i hin
            have e1 : listed[i] = true := by simpa [h1] using this
            rw [e1]; simp [canonL, hin]
          · have := inv.tail i (by omega) (by rw [inv.size] at h1; exact h1)
            have e1 : listed[i] = false := by simpa [h1] using this
            rw [e1]; simp [canonL, hin]
      have hs' : Sim N w0 M0 β (stUp res (fun _ => true) (ops.take n) st) a w := by
        refine hs.congr (fun t => stUp_get _ _ _ _ _ _ rfl fun i o hi _ => hall i (hlt i o hi).1) ?_ ?_
        · rw [(stUp_rows _ _ _ _).1, (stUp_rows _ _ _ _).1]
        · rw [(stUp_rows _ _ _ _).2, (stUp_rows _ _ _ _).2]
      have hlist := alist_sound hG hK (ops.drop n) _ β a w (fun o ho => hd o (List.mem_of_mem_drop ho)) hfin hs'
      have hdl : (ops.drop n).length = ops.toArray.size - n := by simp
      have := wpAny_of_seq (P := G.P) (md := .any) (Q' := Q') (ops.drop n) n listed a w (fun j => by simp [List.getElem?_drop]) (by rw [hcan, hdl]; exact hseq) hlist
      rwa [hdl] at this
    | succ c ih =>
      intro listed a w hc inv hs
      obtain ⟨i0, hi0, hun0, hmin⟩ := cntB_pos (by omega : cntB listed n ≠ 0)
      have hL : ∀ i, i < n → (listed.getD i true = false ↔ listed.getD i false = false) := fun i hi => by
        have : i < listed.size := by rw [inv.size]; omega
        simp [this]
      have hready0 : i0 ∈ Region.ready .any ops.toArray listed := by
        have hil : i0 < ops.length := by rw [← hsz]; omega
        refine mem_ready.2 ⟨(hL i0 hi0).2 hun0, ops[i0], arr i0 _ (List.getElem?_eq_getElem hil), fun e he hb => hmin _ (hafter' i0 _ (List.getElem?_eq_getElem hil) e he hb)⟩
      have hgoal : (Region.ready .any ops.toArray listed = [] → Q' .normal a w) ∧ ∀ i ∈ Region.ready .any ops.toArray listed, wpOp G.P ops.toArray Q' i (wpAny G.P .any ops.toArray Q' (c + (ops.toArray.size - n)) (listed.setIfInBounds i true)) a w := by
        refine ⟨fun hr => (by rw [hr] at hready0; cases hready0), fun i hi => ?_⟩
        obtain ⟨hun, oi, hoi, hall⟩ := mem_ready.1 hi
        have hoi' : ops[i]? = some oi := by simpa using hoi
        have hisz : i < ops.toArray.size := (Array.getElem?_eq_some_iff.1 hoi).1
        have hin : i < n := by
          rcases Nat.lt_or_ge i n with h' | h'
          · exact h'
          · rcases htail with e | ⟨hsink, hchain⟩
            · omega
            · exact absurd hi (tail_waits hsink hchain (by omega) inv _ i0 rfl hi0 ((hL i0 hi0).2 hun0) i h')
        have hunf : listed.getD i false = false := (hL i hin).1 hun
        have hwait : ∀ k, Region.waitsFor .any ops.toArray i k = true → listed.getD k false = true := fun k hk => by
          obtain ⟨oj, hoj, e, he, hb, hon⟩ := Region.waitsFor_spec hk
          rw [hoi] at hoj; cases hoj
          rw [← hon]; exact hall e he hb
        have hlate : ∀ k, Region.waitsFor .any ops.toArray k i = true → listed.getD k false = false := fun k hk => by
          obtain ⟨ok, hok, e, he, hb, hon⟩ := Region.waitsFor_spec hk
          cases hl : listed.getD k false with
          | false => rfl
          | true =>
            have := inv.closed k ok hok hl e he hb
            rw [hon, hunf] at this; cases this
        -- the state in which it comes up agrees, where it looks, with the state of the text's order
        have hagree : ∀ t ∈ oi.looksAt ops.toArray, (stUp res (fun _ => true) ((ops.take n).take i) st).get t = (stUp res (fun k => listed.getD k false) (ops.take n) st).get t := by
          intro t ht
          rw [stUp_take]
          refine stUp_get _ _ _ _ _ _ rfl fun k ok hk hdk => ?_
          obtain ⟨hkn, hok⟩ := hlt k ok hk
          rcases Nat.lt_trichotomy k i with hki | hki | hki
          · rcases hpair' k i ok oi hki hin hok hoi' with hw | hap
            · rw [hwait k hw]; simp [hki]
            · exact absurd ht ((Oper.apart_spec hap).1 t hdk)
          · subst hki; rw [hunf]; simp
          · rcases hpair' i k oi ok hki hkn hoi' hok with hw | hap
            · rw [hlate k hw]; simp; omega
            · exact absurd ht ((Oper.apart_spec hap).2.2 t hdk)
        have hq : qStep G ops (stUp res (fun k => listed.getD k false) (ops.take n) st) oi (res i) :=
          qStep_congr hagree (by rw [(stUp_rows _ _ _ _).1, (stUp_rows _ _ _ _).1]) (by rw [(stUp_rows _ _ _ _).2, (stUp_rows _ _ _ _).2]) (hres i oi (by rw [htake i hin]; exact hoi'))
        have hisL : i < listed.size := by rw [inv.size]; exact hisz
        have hcnt : cntB (listed.setIfInBounds i true) n = c := by
          have := cntB_set hisL hunf n
          rw [if_pos hin] at this; omega
        have next : ∀ v w2, Below w.heap.size w w2 → RepA w2 (Mo M0 β (stUp res (fun k => listed.getD k false) (ops.take n) st)) β (stUp res (fun k => listed.getD k false) (ops.take n) st).toks (res i) v →
            wpAny G.P .any ops.toArray Q' (c + (ops.toArray.size - n)) (listed.setIfInBounds i true) (a.put oi.dst v) w2 := by
          intro v w2 hb hv
          have hs2 := (hs.ext hb).put (dst := oi.dst) (hd oi (List.mem_of_getElem? hoi')) hv
          refine ih _ _ _ hcnt (inv.set hi hin) (hs2.congr (fun t => ?_) ?_ ?_)
          · have hset : ∀ k, k ≠ i → (listed.setIfInBounds i true).getD k false = listed.getD k false := fun k hk => getD_set_ne false (Ne.symm hk)
            by_cases hdt : oi.dst = some t
            · rw [hdt, get_put_same]
              refine (stUp_last (ops.take n) res _ st i oi (by rw [htake i hin]; exact hoi') hdt (by simp [hisL]) fun k ok hik hk hLk hdk => ?_).symm
              obtain ⟨hkn, hok⟩ := hlt k ok hk
              rw [hset k (by omega)] at hLk
              rcases hpair' i k oi ok hik hkn hoi' hok with hw | hap
              · rw [hlate k hw] at hLk; cases hLk
              · exact (Oper.apart_spec hap).2.1 t hdt hdk
            · rw [get_put_ne hdt]
              refine stUp_get _ _ _ _ _ _ rfl fun k ok hk hdk => ?_
              have : k ≠ i := fun e => by
                subst e
                obtain ⟨_, hok⟩ := hlt k ok hk
                rw [hoi'] at hok; cases hok
                exact hdt hdk
              exact (hset k this).symm
          · rw [show ((stUp res (fun k => listed.getD k false) (ops.take n) st).put oi.dst (res i)).rows = (stUp res (fun k => listed.getD k false) (ops.take n) st).rows by unfold St.put; split <;> rfl, (stUp_rows _ _ _ _).1, (stUp_rows _ _ _ _).1]
          · rw [show ((stUp res (fun k => listed.getD k false) (ops.take n) st).put oi.dst (res i)).toks = (stUp res (fun k => listed.getD k false) (ops.take n) st).toks by unfold St.put; split <;> rfl, (stUp_rows _ _ _ _).2, (stUp_rows _ _ _ _).2]
        unfold wpOp
        rw [hoi]
        dsimp only
        unfold qStep at hq
        cases hg : oi.guard with
        | none =>
          rw [hg] at hq
          rw [if_pos (by simp [Region.wanted, hg])]
          exact .inl (qVal_sound hG hs hq next)
        | some p =>
          obtain ⟨j, want⟩ := p
          rw [hg] at hq
          dsimp only at hq
          split at hq
          · rename_i b hy
            have hyc := yieldA_some hs hy
            by_cases hb : b = want
            · rw [if_pos hb] at hq
              rw [if_pos (by simp [Region.wanted, hg, hyc, hb])]
              exact .inl (qVal_sound hG hs hq next)
            · rw [if_neg hb] at hq
              rw [if_neg (by simp [Region.wanted, hg, hyc, hb])]
              exact next _ w (Below.refl _ _) (by rw [hq]; exact Rep.sc _ rfl)
          · rename_i hy
            have hyc := yieldA_none hs hy
            rw [if_neg (by simp [Region.wanted, hg, hyc])]
            exact next _ w (Below.refl _ _) (by rw [hq]; exact Rep.sc _ rfl)
          · exact hq.elim
      have : c + 1 + (ops.toArray.size - n) = (c + (ops.toArray.size - n)) + 1 := by omega
      rw [this]
      exact hgoal
  refine wp_region_any hG.mixed ?_
  have inv0 : HeadInv .any ops.toArray n (Array.replicate ops.toArray.size false) :=
    ⟨by simp, fun j oj _ hl => (by rw [getD_replicate_false] at hl; cases hl), fun t _ ht => getD_in (by simpa using ht) (getD_replicate_false _ _)⟩
  have hc0 : ∀ k, cntB (Array.replicate ops.toArray.size false) k = k := fun k => by
    induction k with
    | zero => rfl
    | succ k ihk => simp only [cntB, ihk, getD_replicate_false]; simp
  have := main n (Array.replicate ops.toArray.size false) a _ (hc0 n) inv0 (h.drew.congr (fun t => by
    have hf : ∀ (l : List Oper) (res : Nat → AV) (L : Nat → Bool) (st : St), (∀ i, L i = false) → stUp res L l st = st := by
      intro l
      induction l with
      | nil => intros; rfl
      | cons o l ih =>
        intro res L st hL
        simp only [stUp, hL 0]
        exact ih _ _ _ fun i => hL (i + 1)
    rw [hf _ _ _ _ fun i => getD_replicate_false _ _]) (stUp_rows _ _ _ _).1.symm (stUp_rows _ _ _ _).2.symm)
  rwa [show n + (ops.toArray.size - n) = ops.toArray.size by omega] at this
end
end Go.Abs
