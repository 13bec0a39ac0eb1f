/- A part of the proof: what functions of the program do, and the layer under it. No further condition. -/
import Derived.Test.YtnjkhiafjcajaaaGreatKX23
import Derived.Test.YtnjkhiafjcajaaaGreatKX19
import Derived.Test.YtnjkhiafjcajaaaGreatKX21
import Derived.Test.YtnjkhiafjcajaaaGreatKX22
import Derived.Test.YtnjkhiafjcajaaaGreatKX20
import Derived.Test.YtnjkhiafjcajaaaGreatKX18
namespace Go.Proofs.YtnjkhiafjcajaaaGreat
set_option linter.all false
open Go.Abs

theorem btw_eq (n a b : Int) : btw n a b = (decide (a ≤ n) && decide (n ≤ b)) := by
  rw [Bool.eq_iff_iff, btw_iff]; simp
theorem lt_not (a b : Int) : (!decide (a < b)) = decide (b ≤ a) := by
  rw [Bool.eq_iff_iff]; simp
theorem certF_ref (e : Evid) (c : Cert) : certF e c = (btw c.scale 0 (e.scales - 1) && (!decide (c.fr < 0) && (btw c.until' c.fr 100000 && (btw c.grams 0 1099511627776 && (btw c.perMille 0 1000 && btw c.drift 0 10000000))))) := by
  rw [certF, lt_not, btw_eq c.until', idx_btw']
  generalize btw c.scale 0 (e.scales - 1) = a
  generalize decide (0 ≤ c.fr) = b
  generalize decide (c.fr ≤ c.until') = c1
  generalize decide (c.until' ≤ 100000) = d
  cases a <;> cases b <;> cases c1 <;> cases d <;> simp [Bool.and_assoc]
theorem recallF_ref (e : Evid) (r : Recall) : recallF e r = (btw r.scale 0 (e.scales - 1) && btw r.since 0 100000) := by
  rw [recallF, idx_btw']
theorem purF_ref (e : Evid) (p : Purity) : purF e p = (btw p.move 0 ((e.moves.length : Int) - 1) && (btw p.mat 0 (e.mats - 1) && (!decide (p.least < 0) && btw p.most p.least 1000))) := by
  rw [purF, idx_btw', idx_btw', btw_eq p.most, lt_not p.most, lt_not 1000]
  simp [Bool.and_assoc]
end Go.Proofs.YtnjkhiafjcajaaaGreat

namespace Go.Proofs.YtnjkhiafjcajaaaGreat
set_option linter.all false
open Go.Abs

theorem full_fit (e : Evid) : full14 e = !(pairs e).all fitP := by
  simp only [full14, pairs, fitP, List.all_cons, List.all_nil, Bool.and_true, Bool.not_and, Bool.not_not, Bool.or_assoc]
theorem step_ref (e : Evid) (i : Nat) (last : Int) (m p : Move) (r : List Move) (h : (i = 0 ∧ last = 0) ∨ (0 < i ∧ p.day = last ∧ 0 ≤ last)) :
    movesErr e last (m :: r) = if decide (refErr e (decide (0 < (i : Int))) p.day m = 0) = true then movesErr e m.day r else refErr e (decide (0 < (i : Int))) p.day m := by
  have hb : (btw m.day 0 100000 = false ∨ (decide (0 < (i : Int)) && decide (m.day < p.day)) = true) ↔ (m.day < last ∨ 100000 < m.day) := by
    rw [btw_not]
    rcases h with ⟨rfl, rfl⟩ | ⟨h1, h2, h3⟩
    · simp; omega
    · have : decide (0 < (i : Int)) = true := decide_eq_true (by omega)
      rw [this, Bool.true_and, decide_eq_true_iff]; omega
  by_cases h1 : m.day < last ∨ 100000 < m.day
  · have h2 := hb.2 h1
    have e1 : movesErr e last (m :: r) = 17 := by rcases h1 with h1 | h1 <;> simp [movesErr, h1]
    have e2 : refErr e (decide (0 < (i : Int))) p.day m = 17 := by
      rw [refErr]
      rcases h2 with h2 | h2
      · rw [if_pos h2]
      · split
        · rfl
        · rfl
    rw [e1, e2]; rfl
  · have h2 := mt hb.1 h1
    rw [movesErr, refErr]
    rw [not_or] at h1 h2
    simp only [h1.1, h1.2, h2.1, h2.2, decide_false, Bool.false_eq_true, if_false]
    rcases moveF e m <;> simp
theorem ref_day {e : Evid} {b : Bool} {d : Int} {m : Move} (h : refErr e b d m = 0) : 0 ≤ m.day := by
  rcases hb : btw m.day 0 100000 with _ | _
  · simp [refErr, hb] at h
  · exact (btw_iff.1 hb).1
end Go.Proofs.YtnjkhiafjcajaaaGreat

namespace Go.Proofs.YtnjkhiafjcajaaaGreat
set_option linter.all false
open Go.Abs

def zeroE : Evid := ⟨0, 0, 0, [], [], [], [], []⟩
def addS (e : Evid) : List Purity → List Sample → List Purity × Int
  | acc, [] => (acc, 0)
  | acc, s :: r => if decide ((sampledF e s).2 = 0) = true then addS e (acc ++ (sampledF e s).1) r else ([], (sampledF e s).2)
def addR (e : Evid) : List Purity → List Recipe → List Purity × Int
  | acc, [] => (acc, 0)
  | acc, s :: r => if decide ((cookedF e s).2 = 0) = true then addR e (acc ++ (cookedF e s).1) r else ([], (cookedF e s).2)
def expandF (e : Evid) (ss : List Sample) (rs : List Recipe) : Evid × Int :=
  if decide (checkF e = 0) = false then (zeroE, checkF e) else
  if decide ((addS e e.purs ss).2 = 0) = false then (zeroE, (addS e e.purs ss).2) else
  if decide ((addR e (addS e e.purs ss).1 rs).2 = 0) = false then (zeroE, (addR e (addS e e.purs ss).1 rs).2) else
  if decide (200 < ((addR e (addS e e.purs ss).1 rs).1.length : Int)) = true then (zeroE, 6) else ({ e with purs := (addR e (addS e e.purs ss).1 rs).1 }, 0)
def resE (r : Evid × Int) : IV := .tup [r.1.iv, .int r.2]
theorem sampled_len (e : Evid) (s : Sample) (h : e.mats ≤ 6) : (sampledF e s).1.length ≤ 6 := by
  unfold sampledF
  split
  · simp
  · split
    · simp
    · split
      · simp
      · rename_i h3
        simp at h3
        show (puritiesF s).1.length ≤ 6
        omega
theorem cookGo_len (x : Recipe) : ∀ (l : List Move) (i : Nat), (cookGo x i l).length ≤ l.length
  | [], _ => Nat.le_refl _
  | m :: r, i => by
    have := cookGo_len x r (i + 1)
    rw [cookGo]
    split <;> simp <;> omega
theorem cooked_len (e : Evid) (x : Recipe) (h : e.moves.length ≤ 200) : (cookedF e x).1.length ≤ 200 := by
  unfold cookedF
  have := cookGo_len x e.moves 0
  (repeat' split) <;> simp <;> omega
theorem check_fit {e : Evid} (h : checkF e = 0) : (pairs e).all fitP = true ∧ 1 ≤ e.mats := by
  unfold checkF at h
  split at h
  · cases h
  · rename_i h1
    split at h
    · cases h
    · rename_i h2
      simp at h1 h2
      exact ⟨by simpa using h1, by omega⟩
theorem purs_len4 (l : List Purity) : ∀ c ∈ l.map Purity.c, c.length = 4 := fun c hc => by
  obtain ⟨z, _, rfl⟩ := List.mem_map.1 hc; rfl
end Go.Proofs.YtnjkhiafjcajaaaGreat

namespace Go.Proofs.YtnjkhiafjcajaaaGreat
set_option linter.all false
open Go.Abs

theorem checkF_parts {e : Evid} (h : checkF e = 0) : (pairs e).all fitP = true ∧ 1 ≤ e.mats ∧ 0 ≤ e.houses ∧ 0 ≤ e.scales ∧ e.places.all (placeF e) = true ∧ movesErr e 0 e.moves = 0 ∧ saidF e = true := by
  unfold checkF at h
  split at h
  · cases h
  · split at h
    · cases h
    · split at h
      · cases h
      · split at h
        · cases h
        · split at h
          · cases h
          · split at h
            · rename_i h6; exact absurd h h6
            · split at h
              · rename_i h1 h2 h3 h4 h5 h6 h7
                simp at h1 h2 h3 h4 h5 h6
                exact ⟨by simpa using h1, by omega, by omega, by omega, by simpa using h5, h6, h7⟩
              · cases h
theorem movesErr_with (e : Evid) (l : List Purity) : ∀ (ms : List Move) (d : Int), movesErr { e with purs := l } d ms = movesErr e d ms
  | [], _ => rfl
  | m :: r, d => by
    have e1 : moveF { e with purs := l } m = moveF e m := rfl
    rw [movesErr, movesErr, movesErr_with e l r, e1]
theorem checkF_with {e : Evid} {l : List Purity} (h : checkF e = 0) (hl : l.length ≤ 200) (hp : l.all (purF e) = true) : checkF { e with purs := l } = 0 := by
  obtain ⟨h1, h2, h3, h4, h5, h6, h7⟩ := checkF_parts h
  have g1 : (pairs { e with purs := l }).all fitP = true := by
    simp only [pairs, List.all_cons, List.all_nil, Bool.and_true, Bool.and_eq_true] at h1 ⊢
    obtain ⟨a1, a2, a3, a4, a5, a6, a7, _⟩ := h1
    exact ⟨a1, a2, a3, a4, a5, a6, a7, by simp [fitP]; omega⟩
  have g7 : saidF { e with purs := l } = true := by
    simp only [saidF, Bool.and_eq_true] at h7 ⊢
    exact ⟨⟨h7.1.1, h7.1.2⟩, hp⟩
  have g5 : List.all e.places (placeF { e with purs := l }) = true := h5
  unfold checkF
  rw [if_neg (by rw [g1]; simp), if_neg (by simp; omega), if_neg (by simp; omega), if_neg (by simp; omega), if_neg (by rw [g5]; simp), if_neg (by rw [movesErr_with]; simpa using h6), if_pos g7]
theorem all_move {e : Evid} : ∀ {ms : List Move} {d : Int}, movesErr e d ms = 0 → ∀ m ∈ ms, moveF e m = true
  | [], _, _, m, hm => by cases hm
  | x :: r, d, h, m, hm => by
    rw [movesErr] at h
    split at h
    · cases h
    · split at h
      · cases h
      · split at h
        · cases h
        · rename_i h3
          rcases List.mem_cons.1 hm with rfl | hm
          · simpa using h3
          · exact all_move h m hm
theorem check_moves {e : Evid} (h : checkF e = 0) : ∀ x ∈ e.moves, (0 ≤ x.fr ∧ x.fr < (e.places.length : Int)) ∧ (0 ≤ x.to ∧ x.to < (e.places.length : Int)) := by
  intro x hx
  have := all_move (checkF_parts h).2.2.2.2.2.1 x hx
  simp only [moveF, Bool.and_eq_true, idx_iff] at this
  exact ⟨this.1.1.1.1.1.1.1, this.1.1.1.1.1.1.2⟩
theorem purF_iff {e : Evid} {p : Purity} : purF e p = true ↔ (0 ≤ p.move ∧ p.move < (e.moves.length : Int)) ∧ (0 ≤ p.mat ∧ p.mat < e.mats) ∧ 0 ≤ p.least ∧ p.least ≤ p.most ∧ p.most ≤ 1000 := by
  simp only [purF, Bool.and_eq_true, idx_iff, Bool.not_eq_true', decide_eq_false_iff_not]
  omega
theorem check_purs {e : Evid} (h : checkF e = 0) : ∀ p ∈ e.purs, purF e p = true := by
  have := (checkF_parts h).2.2.2.2.2.2
  simp only [saidF, Bool.and_eq_true, List.all_eq_true] at this
  exact this.2
theorem check_purs' {e : Evid} (h : checkF e = 0) : ∀ p ∈ e.purs, (0 ≤ p.mat ∧ p.mat < e.mats) ∧ (-9223372036854775808 ≤ p.least ∧ p.least ≤ 9223372036854775807) ∧ (-9223372036854775808 ≤ p.most ∧ p.most ≤ 9223372036854775807) := by
  intro p hp
  have := purF_iff.1 (check_purs h p hp)
  omega
/-! Purities of samples and recipes are right. -/
theorem isum_mem {l : List Int} (h : ∀ x ∈ l, 0 ≤ x) : ∀ x ∈ l, x ≤ isum l := by
  induction l with
  | nil => intro x hx; cases hx
  | cons y l ih =>
    have h0 : 0 ≤ isum l := by
      clear ih
      induction l with
      | nil => simp [isum]
      | cons z l ih2 =>
        have := ih2 (fun x hx => h x (by rcases List.mem_cons.1 hx with rfl | hx <;> simp [*]))
        have := h z (by simp)
        rw [isum]; omega
    intro x hx
    rw [isum]
    rcases List.mem_cons.1 hx with rfl | hx
    · omega
    · have := ih (fun x hx => h x (by simp [hx])) x hx
      have := h y (by simp)
      omega
theorem tdiv_le {n S : Int} (hS : 0 < S) (h0 : 0 ≤ n) (h1 : n ≤ S) : 0 ≤ (1000 * n).tdiv S ∧ (1000 * n).tdiv S ≤ 1000 := by
  rw [Int.tdiv_eq_ediv_of_nonneg (by omega)]
  refine ⟨Int.ediv_nonneg (by omega) (by omega), ?_⟩
  exact Int.ediv_le_of_le_mul hS (by omega)
theorem purGo_ok {e : Evid} {s : Sample} {S : Int} (hS : 0 < S) (hm : 0 ≤ s.move ∧ s.move < (e.moves.length : Int)) (hs : 0 ≤ s.slack) : ∀ (l : List Int) (i : Nat), (∀ n ∈ l, 0 ≤ n ∧ n ≤ S) → (i + l.length : Int) ≤ e.mats → (purGo s S i l).all (purF e) = true
  | [], _, _, _ => rfl
  | n :: r, i, h, hi => by
    rw [List.length_cons] at hi
    rw [purGo, List.all_cons, purGo_ok hS hm hs r (i + 1) (fun x hx => h x (by simp [hx])) (by omega), Bool.and_true, purF_iff]
    obtain ⟨h0, h1⟩ := h n (by simp)
    obtain ⟨t0, t1⟩ := tdiv_le hS h0 h1
    have hh : lowF n S ≤ highF n S := by unfold highF; split <;> omega
    have e1 : lowF n S = (1000 * n).tdiv S := rfl
    dsimp only [purOf]
    refine ⟨hm, by omega, by omega, ?_, by omega⟩
    rw [e1] at hh ⊢
    omega
theorem sampled_ok {e : Evid} {s : Sample} (h : (sampledF e s).2 = 0) : (sampledF e s).1.all (purF e) = true := by
  unfold sampledF at h ⊢
  split
  · rfl
  · rename_i h1
    rw [if_neg h1] at h
    split
    · rfl
    · rename_i h2
      rw [if_neg h2] at h
      split
      · rfl
      · rename_i h3
        simp at h1 h2 h3
        have hl := pur_len h1
        show (puritiesF s).1.all (purF e) = true
        have h1' := h1
        unfold puritiesF at h1 ⊢
        split at h1
        · cases h1
        · split at h1
          · cases h1
          · rename_i h4 h5
            rw [if_neg h4, if_neg h5]
            simp only [Bool.not_eq_false, sampleOk, Bool.and_eq_true, btw_iff, Bool.not_eq_true', List.any_eq_false] at h4
            obtain ⟨⟨⟨⟨b1, b2⟩, b3⟩, b4⟩, b5⟩ := h4
            have hb : ∀ x ∈ s.grams, 0 ≤ x := fun x hx => by
              have := b4 x hx
              first | omega | (simp [btw_iff] at this; omega)
            have hle := isum_mem hb
            have hpos : 0 ≤ isum s.grams := by
              cases hg : s.grams with
              | nil => simp [isum]
              | cons y r =>
                have h1 := hb y (by rw [hg]; simp)
                have h2 := hle y (by rw [hg]; simp)
                rw [hg] at h2; omega
            exact purGo_ok (by omega) ⟨by omega, by omega⟩ (by omega) _ _ (fun n hn => ⟨hb n hn, hle n hn⟩) (by omega)
theorem cookGo_ok {e : Evid} {x : Recipe} (hm : 0 ≤ x.mat ∧ x.mat < e.mats) (hl : 0 ≤ x.least ∧ x.least ≤ x.most ∧ x.most ≤ 1000) : ∀ (l : List Move) (i : Nat), i + l.length ≤ e.moves.length → (cookGo x i l).all (purF e) = true
  | [], _, _ => rfl
  | m :: r, i, h => by
    rw [List.length_cons] at h
    have ih := cookGo_ok hm hl r (i + 1) (by omega)
    rw [cookGo]
    split
    · rw [List.all_cons, ih, Bool.and_true, purF_iff]
      refine ⟨⟨?_, ?_⟩, hm, hl⟩ <;> dsimp only <;> omega
    · exact ih
theorem cooked_ok {e : Evid} {x : Recipe} : (cookedF e x).1.all (purF e) = true := by
  unfold cookedF
  split
  · rfl
  · split
    · rfl
    · split
      · rfl
      · split
        · rfl
        · split
          · rfl
          · rename_i h1 h2 h3 h4 h5
            simp only [Bool.not_eq_false, btw_iff, decide_eq_true_eq] at h1 h2 h3 h4 h5
            exact cookGo_ok (by omega) (by omega) _ _ (by omega)
theorem addS_ext (e : Evid) : ∀ (ss : List Sample) (acc : List Purity), (addS e acc ss).2 = 0 → ∃ m, (addS e acc ss).1 = acc ++ m ∧ m.all (purF e) = true
  | [], acc, _ => ⟨[], by simp [addS], rfl⟩
  | s :: r, acc, h => by
    rw [addS] at h ⊢
    split at h
    · rename_i h1
      rw [if_pos h1]
      obtain ⟨m, h2, h3⟩ := addS_ext e r _ h
      exact ⟨(sampledF e s).1 ++ m, by rw [h2, List.append_assoc], by rw [List.all_append, h3, sampled_ok (of_decide_eq_true h1)]; rfl⟩
    · rename_i h1
      simp at h1
      exact absurd h h1
theorem addR_ext (e : Evid) : ∀ (ss : List Recipe) (acc : List Purity), (addR e acc ss).2 = 0 → ∃ m, (addR e acc ss).1 = acc ++ m ∧ m.all (purF e) = true
  | [], acc, _ => ⟨[], by simp [addR], rfl⟩
  | s :: r, acc, h => by
    rw [addR] at h ⊢
    split at h
    · rename_i h1
      rw [if_pos h1]
      obtain ⟨m, h2, h3⟩ := addR_ext e r _ h
      exact ⟨(cookedF e s).1 ++ m, by rw [h2, List.append_assoc], by rw [List.all_append, h3, cooked_ok]; rfl⟩
    · rename_i h1
      simp at h1
      exact absurd h h1
/-- An expansion: nothing, or further right purities. -/
theorem expand_cases (e : Evid) (ss : List Sample) (rs : List Recipe) (h0 : checkF e = 0) : ((expandF e ss rs).2 ≠ 0 ∧ (expandF e ss rs).1 = zeroE) ∨
    ∃ m, expandF e ss rs = ({ e with purs := e.purs ++ m }, 0) ∧ m.all (purF e) = true ∧ checkF { e with purs := e.purs ++ m } = 0 := by
  unfold expandF
  rw [if_neg (by simp [h0])]
  split
  · rename_i h1; simp at h1; exact .inl ⟨h1, rfl⟩
  · rename_i h1
    split
    · rename_i h2; simp at h2; exact .inl ⟨h2, rfl⟩
    · rename_i h2
      split
      · exact .inl ⟨by decide, rfl⟩
      · rename_i h3
        simp at h1 h2 h3
        obtain ⟨m1, e1, a1⟩ := addS_ext e ss e.purs h1
        obtain ⟨m2, e2, a2⟩ := addR_ext e rs _ h2
        rw [e1, List.append_assoc] at e2
        rw [e1] at h3 ⊢
        refine .inr ⟨m1 ++ m2, by rw [e2], by rw [List.all_append, a1, a2]; rfl, ?_⟩
        rw [e2] at h3
        refine checkF_with h0 (by omega) ?_
        rw [List.all_append, List.all_append, a1, a2, List.all_eq_true.2 (check_purs h0)]; rfl
/-! What further purities change. -/
theorem cmp_le {a b : Rat} : decide (cmpR a b ≤ 0) = !decide (b < a) := by
  by_cases h : b < a
  · rw [decide_eq_true h, decide_eq_false (by have := cmpR_pos.2 h; omega)]; rfl
  · rw [decide_eq_false h, decide_eq_true (by have := mt cmpR_pos.1 h; omega)]; rfl
theorem cmp_lt {a b : Rat} : decide (cmpR a b < 0) = decide (a < b) := decide_eq_decide.2 cmpR_neg
theorem cmp_gt {a b : Rat} : decide (0 < cmpR a b) = decide (b < a) := decide_eq_decide.2 cmpR_pos
theorem keep_keeps {l : List Rat} {p : Purity} (h0 : 0 ≤ p.mat) (h1 : p.mat < (l.length : Int)) : keepF l (sumF l) p = keepsF l p := by
  obtain ⟨f, hf⟩ : ∃ f, l[p.mat.toNat]? = some f := ⟨_, List.getElem?_eq_getElem (by omega)⟩
  unfold keepF keepsF
  rw [if_pos h0, hf]
  dsimp only
  rw [Bool.not_or, cmp_le, cmp_le, cmp_lt, cmp_gt, Rat.mul_comm ((1000 : Int) : Rat) f, Rat.mul_comm ((p.least : Int) : Rat) _, Rat.mul_comm ((p.most : Int) : Rat) _]
theorem histGo_with {e : Evid} {m : List Purity} {H S : List (List Rat)} : ∀ (ms : List Move) (i : Nat), i + ms.length ≤ H.length →
    (histGo { e with purs := e.purs ++ m } H S i ms = 0 ↔ histGo e H S i ms = 0 ∧ ∀ (k : Nat) l, i ≤ k → k < i + ms.length → H[k]? = some l → m.all (pureP k l (sumF l)) = true)
  | [], i, _ => by
    simp only [histGo, List.length_nil, true_and, true_iff]
    intro k l h1 h2
    omega
  | x :: ms, i, hi => by
    rw [List.length_cons] at hi
    obtain ⟨l, hl⟩ : ∃ l, H[i]? = some l := ⟨_, List.getElem?_eq_getElem (by omega)⟩
    have ih := histGo_with (e := e) (m := m) (H := H) (S := S) ms (i + 1) (by omega)
    have hw : weighedF { e with purs := e.purs ++ m } x (sumF l) = weighedF e x (sumF l) := rfl
    have hp : pureF { e with purs := e.purs ++ m } i l (sumF l) = (pureF e i l (sumF l) && m.all (pureP i l (sumF l))) := by
      show List.all (e.purs ++ m) _ = _
      rw [List.all_append]; rfl
    have hsplit : (∀ (k : Nat) l, i ≤ k → k < i + (x :: ms).length → H[k]? = some l → m.all (pureP k l (sumF l)) = true) ↔
        (m.all (pureP i l (sumF l)) = true ∧ ∀ (k : Nat) l, i + 1 ≤ k → k < i + 1 + ms.length → H[k]? = some l → m.all (pureP k l (sumF l)) = true) := by
      constructor
      · intro h
        exact ⟨h i l (Nat.le_refl _) (by simp) hl, fun k l h1 h2 h3 => h k l (by omega) (by rw [List.length_cons]; omega) h3⟩
      · intro ⟨h1, h2⟩ k l' h3 h4 h5
        rw [List.length_cons] at h4
        rcases Nat.lt_or_eq_of_le h3 with h6 | h6
        · exact h2 k l' h6 (by omega) h5
        · subst h6
          rw [hl] at h5; cases h5; exact h1
    rw [hsplit, histGo, histGo, hl]
    dsimp only
    rw [hw, hp]
    generalize m.all (pureP i l (sumF l)) = b at *
    generalize pureF e i l (sumF l) = pt at *
    generalize weighedF e x (sumF l) = wt at *
    generalize takenF ((e.places[x.fr.toNat]?.map Place.kind).getD 0) ((stN e.moves H e.mats.toNat S i).getD x.fr.toNat []) x l = tk at *
    by_cases c1 : l.any negF = true
    · simp [c1]
    · rw [if_neg c1, if_neg c1]
      by_cases c2 : tk ≠ 0
      · rw [if_pos c2, if_pos c2]
        exact ⟨fun h => absurd h c2, fun h => absurd h.1 c2⟩
      · rw [if_neg c2, if_neg c2]
        cases wt
        · simp
        · cases pt
          · simp
          · cases b
            · simp
            · simpa using ih
def keepsM (H : List (List Rat)) (p : Purity) : Bool := match H[p.move.toNat]? with
  | none => false
  | some l => keepsF l p
theorem hist_with {e : Evid} {m : List Purity} {H S : List (List Rat)} (hHl : H.length = e.moves.length) (hH : ∀ l ∈ H, (l.length : Int) = e.mats) (hm : m.all (purF e) = true) :
    histGo { e with purs := e.purs ++ m } H S 0 e.moves = 0 ↔ histGo e H S 0 e.moves = 0 ∧ m.all (keepsM H) = true := by
  rw [histGo_with e.moves 0 (by omega)]
  have hm := List.all_eq_true.1 hm
  refine and_congr_right fun _ => ⟨fun h => List.all_eq_true.2 fun p hp => ?_, fun h k l _ hk hl => List.all_eq_true.2 fun p hp => ?_⟩
  · obtain ⟨g1, g2, g3⟩ := purF_iff.1 (hm p hp)
    obtain ⟨l, hl⟩ : ∃ l, H[p.move.toNat]? = some l := ⟨_, List.getElem?_eq_getElem (by omega)⟩
    have := List.all_eq_true.1 (h p.move.toNat l (Nat.zero_le _) (by omega) hl) p hp
    have hll := hH l (List.mem_of_getElem? hl)
    unfold keepsM
    rw [hl]
    dsimp only
    rw [pureP, decide_eq_true (by omega), Bool.not_true, Bool.false_or, keep_keeps g2.1 (by omega)] at this
    exact this
  · obtain ⟨g1, g2, g3⟩ := purF_iff.1 (hm p hp)
    have := List.all_eq_true.1 h p hp
    have hll := hH l (List.mem_of_getElem? hl)
    rw [pureP]
    by_cases hkp : p.move = k
    · rw [keepsM, hkp, Int.toNat_natCast, hl] at this
      dsimp only at this
      rw [keep_keeps g2.1 (by omega), this, Bool.or_true]
    · rw [decide_eq_false hkp]; rfl
end Go.Proofs.YtnjkhiafjcajaaaGreat

namespace Go.Proofs.YtnjkhiafjcajaaaGreat
set_option linter.all false
open Go.Abs

set_option maxRecDepth 100000 in
set_option maxHeartbeats 2000000 in
theorem c23 (g b : List Int) (slack : Int) (l : List Purity) (hp : puritiesF ⟨3, g, slack⟩ = (l, 0)) (hg : g.length ≤ 100000) (hb : b.length = 2 * l.length) (hl : l.length ≤ 1000)
    (hall : ∀ (i : Nat) x, l[i]? = some x → b[2 * i]? = some x.least ∧ b[2 * i + 1]? = some x.most ∧ x.move = 3 ∧ x.mat = i) : Ctr G.P 40 [ints g, .int slack, ints b] (· = .bool true) := by
  have h10 := c10 ⟨3, g, slack⟩ hg
  rw [hp] at h10
  have w1 := i64_ok (n := 2 * (l.length : Int)) (by omega)
  have hb' : decide (2 * (l.length : Int) = b.length) = true := decide_eq_true (by omega)
  refine ctr_go good _ _ [.tmp 6] Tryz.func40 rfl rfl (by decide +kernel) rfl ?_
  simp only [go_sem, Evid.iv, Evid.c, Place.c, Move.c, Cert.c, Recall.c, Purity.c, Sample.c, Recipe.c, ints, ic]
  refine CallP_eq h10 (by decide) ?_
  simp only [resP, purs, w1, hb', go_sem, Evid.iv, Evid.c, Place.c, Move.c, Cert.c, Recall.c, Purity.c, Sample.c, Recipe.c, ints, ic]
  clear h10 hb'
  refine LoopP_of [2, 7, 9] [] (fun i : Nat => ⟨[(2, .im (.sl (b.map ic))), (7, .im (.sl (l.map Purity.c))), (9, .im (.int i))], [], []⟩) (fun i => i ≤ l.length) (fun i => l.length - i) 0 ?_ (Nat.zero_le _) ?_
  · simp only [Int.natCast_zero, go_sem, Evid.iv, Evid.c, Place.c, Move.c, Cert.c, Recall.c, Purity.c, Sample.c, Recipe.c, ints, ic]
  · intro i hi
    by_cases hlt : (i : Int) < l.length
    · have hd : decide ((i : Int) < l.length) = true := decide_eq_true hlt
      obtain ⟨x, hx⟩ := at_nat hlt
      obtain ⟨x1, x2, x3, x4⟩ := hall i x hx
      have h1 := i64_ok (n := (i : Int) + 1) (by omega)
      have h2 := i64_ok (n := 2 * (i : Int)) (by omega)
      have h3 := i64_ok (n := 2 * (i : Int) + 1) (by omega)
      have n2 : (2 * (i : Int)).toNat = 2 * i := by omega
      have n3 : (2 * (i : Int) + 1).toNat = 2 * i + 1 := by omega
      have p2 : (0 : Int) ≤ 2 * (i : Int) := by omega
      have p3 : (0 : Int) ≤ 2 * (i : Int) + 1 := by omega
      simp only [hd, go_sem, Evid.iv, Evid.c, Place.c, Move.c, Cert.c, Recall.c, Purity.c, Sample.c, Recipe.c, ints, ic]
      refine DrawP_of 18 (by decide +kernel) ?_
      simp only [hd, List.getElem?_map, hx, x1, x2, x3, x4, h1, h2, h3, n2, n3, p2, p3, eq_self, go_sem, Evid.iv, Evid.c, Place.c, Move.c, Cert.c, Recall.c, Purity.c, Sample.c, Recipe.c, ints, ic]
      refine RoundP_of (i + 1) ?_ (by omega) (by omega)
      simp only [h1, Int.natCast_add, go_sem, Evid.iv, Evid.c, Place.c, Move.c, Cert.c, Recall.c, Purity.c, Sample.c, Recipe.c, ints, ic]
    · have hd : decide ((i : Int) < l.length) = false := decide_eq_false hlt
      simp only [hd, go_sem, Evid.iv, Evid.c, Place.c, Move.c, Cert.c, Recall.c, Purity.c, Sample.c, Recipe.c, ints, ic]
end Go.Proofs.YtnjkhiafjcajaaaGreat

namespace Go.Proofs.YtnjkhiafjcajaaaGreat
set_option linter.all false
open Go.Abs

set_option maxRecDepth 100000 in
set_option maxHeartbeats 2000000 in
theorem c12 (e : Evid) (ss : List Sample) (rs : List Recipe) (hs : ss.length ≤ 1000) (hr : rs.length ≤ 1000) (hss : ∀ s ∈ ss, s.grams.length ≤ 100000) : Ctr G.P 12 [e.iv, samples ss, recipes rs] (· = resE (expandF e ss rs)) := by
  have h21 := c21 e
  by_cases hk : checkF e = 0
  · obtain ⟨hfit, hm⟩ := check_fit hk
    obtain ⟨l1, l2, l3, l4, l5, l6, l7, l8⟩ := fit_len hfit
    clear hfit l7 l8
    have h31 := fun x => c31 e x (by omega) (by omega) ⟨hm, by omega⟩
    have hlS := fun s => sampled_len e s l6
    have hlR := fun s => cooked_len e s l2
    have h29 := c29 e.purs (by omega)
    have h32 := CtrV.ctr (c32 e.places (by omega))
    have h33 := CtrV.ctr (c33 e.moves (by omega))
    have h34 := CtrV.ctr (c34 e.certs (by omega))
    have h35 := CtrV.ctr (c35 e.recalls (by omega))
    rw [hk] at h21
    have hx : expandF e ss rs = if decide ((addS e e.purs ss).2 = 0) = false then (zeroE, (addS e e.purs ss).2) else
      if decide ((addR e (addS e e.purs ss).1 rs).2 = 0) = false then (zeroE, (addR e (addS e e.purs ss).1 rs).2) else
      if decide (200 < ((addR e (addS e e.purs ss).1 rs).1.length : Int)) = true then (zeroE, 6) else ({ e with purs := (addR e (addS e e.purs ss).1 rs).1 }, 0) := by simp [expandF, hk]
    rw [hx]
    clear hx hk l1 l3 l4
    refine ctr_go good _ _ [.cell 6 28, .tmp 7] Tryz.func12 rfl rfl (by decide +kernel) rfl ?_
    unfold samples recipes
    simp only [go_sem, Evid.iv, Evid.c, Place.c, Move.c, Cert.c, Recall.c, Purity.c, Sample.c, Recipe.c, ints, ic]
    refine CallP_eq h21 (by decide) ?_
    simp only [go_sem, Evid.iv, Evid.c, Place.c, Move.c, Cert.c, Recall.c, Purity.c, Sample.c, Recipe.c, ints, ic]
    clear h21
    refine CallP_vec h29 (by decide) (purs_len4 _) ?_
    simp only [go_sem, Evid.iv, Evid.c, Place.c, Move.c, Cert.c, Recall.c, Purity.c, Sample.c, Recipe.c, ints, ic]
    clear h29
    refine LoopP_ofP [2, 3, 6, 9, 28, 29, 30] [3, 6, 46, 27] [(9, 46, 43, 4)] (fun g : Nat × List Purity => ⟨[(2, .im (.sl (rs.map Recipe.c))), (3, .loc 3 8 0 0), (6, .loc 6 8 0 0), (9, .vec 46 43 4 (g.2.map Purity.c)), (28, .im (.sl (ss.map Sample.c))), (29, .im (.int ss.length)), (30, .im (.int g.1))],
        [(6, 8, [zeroE.c]), (3, 8, [e.c])], [(46, 4, g.2.length)]⟩)
      (fun g => g.1 ≤ ss.length ∧ addS e e.purs ss = addS e g.2 (ss.drop g.1) ∧ g.2.length ≤ 200 + 6 * g.1) (fun g => ss.length - g.1) (0, e.purs) ?_ ?_ ⟨Nat.zero_le _, rfl, by show e.purs.length ≤ _; omega⟩ ?_
    · simp only [List.length_map, go_sem, Evid.iv, Evid.c, Place.c, Move.c, Cert.c, Recall.c, Purity.c, Sample.c, Recipe.c, ints, ic]
    · simp only [Int.natCast_zero, zeroE, List.map_nil, List.length_map, go_sem, Evid.iv, Evid.c, Place.c, Move.c, Cert.c, Recall.c, Purity.c, Sample.c, Recipe.c, ints, ic]
    intro ⟨i, acc⟩ ⟨hi, ha, hl⟩
    dsimp only at hi ha hl
    by_cases hp : (i : Int) < ss.length
    · have hd : decide ((i : Int) < ss.length) = true := decide_eq_true hp
      obtain ⟨x, hx⟩ := at_nat hp
      have h1 := i64_ok (n := (i : Int) + 1) (by omega)
      have h30 := c30 e x (hss x (List.mem_of_getElem? hx))
      have hlx := hlS x
      rw [drop_cons hx, addS] at ha
      generalize sampledF e x = r at *
      obtain ⟨l, k⟩ := r
      dsimp only at hlx ha
      simp only [resP, purs] at h30
      simp only [hd, List.getElem?_map, hx, go_sem, Evid.iv, Evid.c, Place.c, Move.c, Cert.c, Recall.c, Purity.c, Sample.c, Recipe.c, ints, ic]
      refine CallP_eq h30 (by decide) ?_
      simp only [resP, purs, go_sem, Evid.iv, Evid.c, Place.c, Move.c, Cert.c, Recall.c, Purity.c, Sample.c, Recipe.c, ints, ic]
      refine Two_of (fun hk => ?_) (fun hk => ?_)
      · rw [hk, if_pos rfl] at ha
        simp only [eq_self, go_sem, Evid.iv, Evid.c, Place.c, Move.c, Cert.c, Recall.c, Purity.c, Sample.c, Recipe.c, ints, ic]
        refine ⟨purs_len4 _, purs_len4 _, by omega, ?_⟩
        refine RoundP_of (i + 1, acc ++ l) ?_ ?_ ⟨?_, ha, ?_⟩
        · simp only [h1, Int.natCast_add, zeroE, List.map_nil, List.map_append, List.length_append, go_sem, Evid.iv, Evid.c, Place.c, Move.c, Cert.c, Recall.c, Purity.c, Sample.c, Recipe.c, ints, ic]
        · show ss.length - (i + 1) < ss.length - i; omega
        · show i + 1 ≤ ss.length; omega
        · show (acc ++ l).length ≤ 200 + 6 * (i + 1); rw [List.length_append]; omega
      · rw [hk, if_neg Bool.false_ne_true] at ha
        rw [ha]
        have hk' := of_decide_eq_false hk
        simp only [hk', resE, zeroE, List.map_nil, go_sem, Evid.iv, Evid.c, Place.c, Move.c, Cert.c, Recall.c, Purity.c, Sample.c, Recipe.c, ints, ic]
    have hd : decide ((i : Int) < ss.length) = false := decide_eq_false hp
    rw [List.drop_of_length_le (by omega), addS] at ha
    rw [ha]
    simp only [hd, go_sem, Evid.iv, Evid.c, Place.c, Move.c, Cert.c, Recall.c, Purity.c, Sample.c, Recipe.c, ints, ic]
    clear hd hp ha hlS
    refine LoopP_ofP [3, 6, 9, 48, 49, 50] [3, 6, 66, 46] [(9, 66, 43, 4)] (fun g : Nat × List Purity => ⟨[(3, .loc 3 8 0 0), (6, .loc 6 8 0 0), (9, .vec 66 43 4 (g.2.map Purity.c)), (48, .im (.sl (rs.map Recipe.c))), (49, .im (.int rs.length)), (50, .im (.int g.1))],
        [(6, 8, [zeroE.c]), (3, 8, [e.c])], [(66, 4, g.2.length)]⟩)
      (fun g => g.1 ≤ rs.length ∧ addR e acc rs = addR e g.2 (rs.drop g.1) ∧ g.2.length ≤ 10000 + 200 * g.1) (fun g => rs.length - g.1) (0, acc) ?_ ?_ ⟨Nat.zero_le _, rfl, by show acc.length ≤ _; omega⟩ ?_
    · simp only [List.length_map, go_sem, Evid.iv, Evid.c, Place.c, Move.c, Cert.c, Recall.c, Purity.c, Sample.c, Recipe.c, ints, ic]
    · simp only [Int.natCast_zero, zeroE, List.map_nil, List.length_map, go_sem, Evid.iv, Evid.c, Place.c, Move.c, Cert.c, Recall.c, Purity.c, Sample.c, Recipe.c, ints, ic]
    clear hi hl
    intro ⟨i, acc'⟩ ⟨hi, ha, hl⟩
    dsimp only at hi ha hl
    by_cases hp : (i : Int) < rs.length
    · have hd : decide ((i : Int) < rs.length) = true := decide_eq_true hp
      obtain ⟨x, hx⟩ := at_nat hp
      have h1 := i64_ok (n := (i : Int) + 1) (by omega)
      have h31' := h31 x
      have hlx := hlR x
      rw [drop_cons hx, addR] at ha
      generalize cookedF e x = r at *
      obtain ⟨l, k⟩ := r
      dsimp only at hlx ha
      simp only [resP, purs] at h31'
      simp only [hd, List.getElem?_map, hx, go_sem, Evid.iv, Evid.c, Place.c, Move.c, Cert.c, Recall.c, Purity.c, Sample.c, Recipe.c, ints, ic]
      refine CallP_eq h31' (by decide) ?_
      simp only [resP, purs, go_sem, Evid.iv, Evid.c, Place.c, Move.c, Cert.c, Recall.c, Purity.c, Sample.c, Recipe.c, ints, ic]
      refine Two_of (fun hk => ?_) (fun hk => ?_)
      · rw [hk, if_pos rfl] at ha
        simp only [eq_self, go_sem, Evid.iv, Evid.c, Place.c, Move.c, Cert.c, Recall.c, Purity.c, Sample.c, Recipe.c, ints, ic]
        refine ⟨purs_len4 _, purs_len4 _, by omega, ?_⟩
        refine RoundP_of (i + 1, acc' ++ l) ?_ ?_ ⟨?_, ha, ?_⟩
        · simp only [h1, Int.natCast_add, zeroE, List.map_nil, List.map_append, List.length_append, go_sem, Evid.iv, Evid.c, Place.c, Move.c, Cert.c, Recall.c, Purity.c, Sample.c, Recipe.c, ints, ic]
        · show rs.length - (i + 1) < rs.length - i; omega
        · show i + 1 ≤ rs.length; omega
        · show (acc' ++ l).length ≤ 10000 + 200 * (i + 1); rw [List.length_append]; omega
      · rw [hk, if_neg Bool.false_ne_true] at ha
        rw [ha]
        have hk' := of_decide_eq_false hk
        simp only [hk', resE, zeroE, List.map_nil, go_sem, Evid.iv, Evid.c, Place.c, Move.c, Cert.c, Recall.c, Purity.c, Sample.c, Recipe.c, ints, ic]
    · have hd : decide ((i : Int) < rs.length) = false := decide_eq_false hp
      rw [List.drop_of_length_le (by omega), addR] at ha
      rw [ha]
      simp only [hd, go_sem, Evid.iv, Evid.c, Place.c, Move.c, Cert.c, Recall.c, Purity.c, Sample.c, Recipe.c, ints, ic]
      refine Two_of (fun hk => ?_) (fun hk => ?_)
      · simp only [hk, resE, zeroE, List.map_nil, go_sem, Evid.iv, Evid.c, Place.c, Move.c, Cert.c, Recall.c, Purity.c, Sample.c, Recipe.c, ints, ic]
      · have hk' : ¬ (200 < (acc'.length : Int)) := of_decide_eq_false hk
        simp only [hk, go_sem, Evid.iv, Evid.c, Place.c, Move.c, Cert.c, Recall.c, Purity.c, Sample.c, Recipe.c, ints, ic]
        refine DrawS_of (by decide +kernel) ?_
        simp only [go_sem, Evid.iv, Evid.c, Place.c, Move.c, Cert.c, Recall.c, Purity.c, Sample.c, Recipe.c, ints, ic]
        refine CallD_eq h32 (by decide) ?_
        simp only [go_sem, Evid.iv, Evid.c, Place.c, Move.c, Cert.c, Recall.c, Purity.c, Sample.c, Recipe.c, ints, ic]
        refine CallD_eq h33 (by decide) ?_
        simp only [go_sem, Evid.iv, Evid.c, Place.c, Move.c, Cert.c, Recall.c, Purity.c, Sample.c, Recipe.c, ints, ic]
        refine CallD_eq h34 (by decide) ?_
        simp only [go_sem, Evid.iv, Evid.c, Place.c, Move.c, Cert.c, Recall.c, Purity.c, Sample.c, Recipe.c, ints, ic]
        refine CallD_eq h35 (by decide) ?_
        simp only [resE, hk', hk, go_sem, Evid.iv, Evid.c, Place.c, Move.c, Cert.c, Recall.c, Purity.c, Sample.c, Recipe.c, ints, ic]
  · have hx : expandF e ss rs = (zeroE, checkF e) := by simp [expandF, hk]
    rw [hx]
    refine ctr_go good _ _ [.cell 6 28, .tmp 7] Tryz.func12 rfl rfl (by decide +kernel) rfl ?_
    simp only [go_sem, Evid.iv, Evid.c, Place.c, Move.c, Cert.c, Recall.c, Purity.c, Sample.c, Recipe.c, ints, ic]
    refine CallP_eq h21 (by decide) ?_
    simp only [hk, resE, zeroE, List.map_nil, go_sem, Evid.iv, Evid.c, Place.c, Move.c, Cert.c, Recall.c, Purity.c, Sample.c, Recipe.c, ints, ic]
end Go.Proofs.YtnjkhiafjcajaaaGreat

namespace Go.Proofs.YtnjkhiafjcajaaaGreat
set_option linter.all false
open Go.Abs

theorem two_at {P : Nat → Purity → Prop} {a b : Purity} (h0 : P 0 a) (h1 : P 1 b) : ∀ (i : Nat) x, [a, b][i]? = some x → P i x
  | 0, x, h => by simp at h; subst h; exact h0
  | 1, x, h => by simp at h; subst h; exact h1
  | n + 2, x, h => by simp at h
def sanE : Evid := ⟨1, 0, 0, [⟨2, -1, -1⟩, ⟨3, -1, -1⟩], [⟨0, 0, 1, -1, 0, false⟩, ⟨0, 1, 0, -1, 0, false⟩], [], [], []⟩
set_option maxRecDepth 100000 in
set_option maxHeartbeats 2000000 in
theorem c7 : Ctr G.P 7 [] (· = .bool true) := by
  have s1 := c23 [900, 100] [900, 900, 100, 100] 0 [⟨3, 0, 900, 900⟩, ⟨3, 1, 100, 100⟩] (by decide +kernel) (by simp) rfl (by simp) (two_at ⟨rfl, rfl, rfl, rfl⟩ ⟨rfl, rfl, rfl, rfl⟩)
  have s2 := c23 [2, 1] [666, 667, 333, 334] 0 [⟨3, 0, 666, 667⟩, ⟨3, 1, 333, 334⟩] (by decide +kernel) (by simp) rfl (by simp) (two_at ⟨rfl, rfl, rfl, rfl⟩ ⟨rfl, rfl, rfl, rfl⟩)
  have s3 := c23 [2, 1] [616, 717, 283, 384] 50 [⟨3, 0, 616, 717⟩, ⟨3, 1, 283, 384⟩] (by decide +kernel) (by simp) rfl (by simp) (two_at ⟨rfl, rfl, rfl, rfl⟩ ⟨rfl, rfl, rfl, rfl⟩)
  have s4 := c23 [1, 0] [970, 1000, 0, 30] 30 [⟨3, 0, 970, 1000⟩, ⟨3, 1, 0, 30⟩] (by decide +kernel) (by simp) rfl (by simp) (two_at ⟨rfl, rfl, rfl, rfl⟩ ⟨rfl, rfl, rfl, rfl⟩)
  have s5 := c10 ⟨0, [0, 0], 30⟩ (by simp)
  rw [show puritiesF ⟨0, [0, 0], 30⟩ = ([], 14) by decide +kernel] at s5
  have s6 := c12 sanE [⟨1, [5], 0⟩] [⟨0, 1, 0, 7, 9⟩] (by simp) (by simp) (by simp)
  rw [show expandF sanE [⟨1, [5], 0⟩] [⟨0, 1, 0, 7, 9⟩] = ({ sanE with purs := [⟨1, 0, 1000, 1000⟩, ⟨0, 0, 7, 9⟩] }, 0) by decide +kernel] at s6
  have s7 := c14 [⟨1, 0, 1000, 1000⟩, ⟨0, 0, 7, 9⟩] [⟨1, 0, 1000, 1000⟩, ⟨0, 0, 7, 9⟩] (by simp)
  rw [decide_eq_true rfl] at s7
  simp only [ints, ic, List.map_cons, List.map_nil, Sample.c, Evid.iv, Evid.c, Place.c, Move.c, Purity.c, Recipe.c, samples, recipes, resE, resP, purs, sanE] at s1 s2 s3 s4 s5 s6 s7
  refine ctr_go good _ _ [.tmp 0] Tryz.func7 rfl rfl (by decide +kernel) rfl ?_
  simp only [go_sem, Evid.iv, Evid.c, Place.c, Move.c, Cert.c, Recall.c, Purity.c, Sample.c, Recipe.c, ints, ic, Abs.flat1]
  refine CallP_eq s1 (by decide) ?_
  simp only [go_sem, Evid.iv, Evid.c, Place.c, Move.c, Cert.c, Recall.c, Purity.c, Sample.c, Recipe.c, ints, ic, Abs.flat1]
  refine CallP_eq s2 (by decide) ?_
  simp only [go_sem, Evid.iv, Evid.c, Place.c, Move.c, Cert.c, Recall.c, Purity.c, Sample.c, Recipe.c, ints, ic, Abs.flat1]
  refine CallP_eq s3 (by decide) ?_
  simp only [go_sem, Evid.iv, Evid.c, Place.c, Move.c, Cert.c, Recall.c, Purity.c, Sample.c, Recipe.c, ints, ic, Abs.flat1]
  refine CallP_eq s4 (by decide) ?_
  simp only [go_sem, Evid.iv, Evid.c, Place.c, Move.c, Cert.c, Recall.c, Purity.c, Sample.c, Recipe.c, ints, ic, Abs.flat1]
  refine CallP_eq s5 (by decide) ?_
  simp only [go_sem, Evid.iv, Evid.c, Place.c, Move.c, Cert.c, Recall.c, Purity.c, Sample.c, Recipe.c, ints, ic, Abs.flat1]
  refine CallP_eq s6 (by decide) ?_
  simp only [go_sem, Evid.iv, Evid.c, Place.c, Move.c, Cert.c, Recall.c, Purity.c, Sample.c, Recipe.c, ints, ic, Abs.flat1]
  refine CallP_eq s7 (by decide) ?_
  simp only [go_sem, Evid.iv, Evid.c, Place.c, Move.c, Cert.c, Recall.c, Purity.c, Sample.c, Recipe.c, ints, ic, Abs.flat1]
end Go.Proofs.YtnjkhiafjcajaaaGreat

namespace Go.Proofs.YtnjkhiafjcajaaaGreat
set_option linter.all false
open Go.Abs

set_option maxRecDepth 100000 in
set_option maxHeartbeats 2000000 in
theorem c15 (e : Evid) (h3 : e.places.length ≤ 100000) (h4 : e.moves.length ≤ 100000) (h5 : e.certs.length ≤ 100000) (h6 : e.recalls.length ≤ 100000) (h7 : e.purs.length ≤ 100000) : Ctr G.P 13 [e.iv, e.iv] (· = .bool true) := by
  refine ctr_go good _ _ [.tmp 4] Tryz.func13 rfl rfl (by decide +kernel) rfl ?_
  simp only [eq_self, go_sem, Evid.iv, Evid.c, Place.c, Move.c, Cert.c, Recall.c, Purity.c, Sample.c, Recipe.c, ints, ic]
  refine LoopP_of [2, 3, 5] [2, 3] (fun i : Nat => ⟨[(2, .loc 2 8 0 0), (3, .loc 3 8 0 0), (5, .im (.int i))], [(3, 8, [e.c]), (2, 8, [e.c])], []⟩) (fun i => i ≤ e.places.length) (fun i => e.places.length - i) 0 ?_ (Nat.zero_le _) ?_
  · simp only [Int.natCast_zero, go_sem, Evid.iv, Evid.c, Place.c, Move.c, Cert.c, Recall.c, Purity.c, Sample.c, Recipe.c, ints, ic]
  · intro i hi
    by_cases hp : (i : Int) < e.places.length
    · have hd : decide ((i : Int) < e.places.length) = true := decide_eq_true hp
      obtain ⟨x, hx⟩ := at_nat hp
      have h1 := i64_ok (n := (i : Int) + 1) (by omega)
      simp only [hd, List.getElem?_map, hx, go_sem, Evid.iv, Evid.c, Place.c, Move.c, Cert.c, Recall.c, Purity.c, Sample.c, Recipe.c, ints, ic]
      refine DrawP_of 11 (by decide +kernel) ?_
      simp only [hd, List.getElem?_map, hx, eq_self, go_sem, Evid.iv, Evid.c, Place.c, Move.c, Cert.c, Recall.c, Purity.c, Sample.c, Recipe.c, ints, ic]
      refine RoundP_of (i + 1) ?_ (by omega) (by omega)
      simp only [h1, Int.natCast_add, go_sem, Evid.iv, Evid.c, Place.c, Move.c, Cert.c, Recall.c, Purity.c, Sample.c, Recipe.c, ints, ic]
    · have hd : decide ((i : Int) < e.places.length) = false := decide_eq_false hp
      simp only [hd, go_sem, Evid.iv, Evid.c, Place.c, Move.c, Cert.c, Recall.c, Purity.c, Sample.c, Recipe.c, ints, ic]
      clear hd hp hi
      refine LoopP_of [2, 3, 6] [2, 3] (fun i : Nat => ⟨[(2, .loc 2 8 0 0), (3, .loc 3 8 0 0), (6, .im (.int i))], [(3, 8, [e.c]), (2, 8, [e.c])], []⟩) (fun i => i ≤ e.moves.length) (fun i => e.moves.length - i) 0 ?_ (Nat.zero_le _) ?_
      · simp only [Int.natCast_zero, go_sem, Evid.iv, Evid.c, Place.c, Move.c, Cert.c, Recall.c, Purity.c, Sample.c, Recipe.c, ints, ic]
      · intro i hi
        by_cases hp : (i : Int) < e.moves.length
        · have hd : decide ((i : Int) < e.moves.length) = true := decide_eq_true hp
          obtain ⟨x, hx⟩ := at_nat hp
          have h1 := i64_ok (n := (i : Int) + 1) (by omega)
          simp only [hd, List.getElem?_map, hx, go_sem, Evid.iv, Evid.c, Place.c, Move.c, Cert.c, Recall.c, Purity.c, Sample.c, Recipe.c, ints, ic]
          refine DrawP_of 11 (by decide +kernel) ?_
          simp only [hd, List.getElem?_map, hx, eq_self, go_sem, Evid.iv, Evid.c, Place.c, Move.c, Cert.c, Recall.c, Purity.c, Sample.c, Recipe.c, ints, ic]
          refine RoundP_of (i + 1) ?_ (by omega) (by omega)
          simp only [h1, Int.natCast_add, go_sem, Evid.iv, Evid.c, Place.c, Move.c, Cert.c, Recall.c, Purity.c, Sample.c, Recipe.c, ints, ic]
        · have hd : decide ((i : Int) < e.moves.length) = false := decide_eq_false hp
          simp only [hd, go_sem, Evid.iv, Evid.c, Place.c, Move.c, Cert.c, Recall.c, Purity.c, Sample.c, Recipe.c, ints, ic]
          clear hd hp hi
          refine LoopP_of [2, 3, 7] [2, 3] (fun i : Nat => ⟨[(2, .loc 2 8 0 0), (3, .loc 3 8 0 0), (7, .im (.int i))], [(3, 8, [e.c]), (2, 8, [e.c])], []⟩) (fun i => i ≤ e.certs.length) (fun i => e.certs.length - i) 0 ?_ (Nat.zero_le _) ?_
          · simp only [Int.natCast_zero, go_sem, Evid.iv, Evid.c, Place.c, Move.c, Cert.c, Recall.c, Purity.c, Sample.c, Recipe.c, ints, ic]
          · intro i hi
            by_cases hp : (i : Int) < e.certs.length
            · have hd : decide ((i : Int) < e.certs.length) = true := decide_eq_true hp
              obtain ⟨x, hx⟩ := at_nat hp
              have h1 := i64_ok (n := (i : Int) + 1) (by omega)
              simp only [hd, List.getElem?_map, hx, go_sem, Evid.iv, Evid.c, Place.c, Move.c, Cert.c, Recall.c, Purity.c, Sample.c, Recipe.c, ints, ic]
              refine DrawP_of 11 (by decide +kernel) ?_
              simp only [hd, List.getElem?_map, hx, eq_self, go_sem, Evid.iv, Evid.c, Place.c, Move.c, Cert.c, Recall.c, Purity.c, Sample.c, Recipe.c, ints, ic]
              refine RoundP_of (i + 1) ?_ (by omega) (by omega)
              simp only [h1, Int.natCast_add, go_sem, Evid.iv, Evid.c, Place.c, Move.c, Cert.c, Recall.c, Purity.c, Sample.c, Recipe.c, ints, ic]
            · have hd : decide ((i : Int) < e.certs.length) = false := decide_eq_false hp
              simp only [hd, go_sem, Evid.iv, Evid.c, Place.c, Move.c, Cert.c, Recall.c, Purity.c, Sample.c, Recipe.c, ints, ic]
              clear hd hp hi
              refine LoopP_of [2, 3, 8] [2, 3] (fun i : Nat => ⟨[(2, .loc 2 8 0 0), (3, .loc 3 8 0 0), (8, .im (.int i))], [(3, 8, [e.c]), (2, 8, [e.c])], []⟩) (fun i => i ≤ e.recalls.length) (fun i => e.recalls.length - i) 0 ?_ (Nat.zero_le _) ?_
              · simp only [Int.natCast_zero, go_sem, Evid.iv, Evid.c, Place.c, Move.c, Cert.c, Recall.c, Purity.c, Sample.c, Recipe.c, ints, ic]
              · intro i hi
                by_cases hp : (i : Int) < e.recalls.length
                · have hd : decide ((i : Int) < e.recalls.length) = true := decide_eq_true hp
                  obtain ⟨x, hx⟩ := at_nat hp
                  have h1 := i64_ok (n := (i : Int) + 1) (by omega)
                  simp only [hd, List.getElem?_map, hx, go_sem, Evid.iv, Evid.c, Place.c, Move.c, Cert.c, Recall.c, Purity.c, Sample.c, Recipe.c, ints, ic]
                  refine DrawP_of 11 (by decide +kernel) ?_
                  simp only [hd, List.getElem?_map, hx, eq_self, go_sem, Evid.iv, Evid.c, Place.c, Move.c, Cert.c, Recall.c, Purity.c, Sample.c, Recipe.c, ints, ic]
                  refine RoundP_of (i + 1) ?_ (by omega) (by omega)
                  simp only [h1, Int.natCast_add, go_sem, Evid.iv, Evid.c, Place.c, Move.c, Cert.c, Recall.c, Purity.c, Sample.c, Recipe.c, ints, ic]
                · have hd : decide ((i : Int) < e.recalls.length) = false := decide_eq_false hp
                  simp only [hd, go_sem, Evid.iv, Evid.c, Place.c, Move.c, Cert.c, Recall.c, Purity.c, Sample.c, Recipe.c, ints, ic]
                  clear hd hp hi
                  refine LoopP_of [2, 3, 9] [2, 3] (fun i : Nat => ⟨[(2, .loc 2 8 0 0), (3, .loc 3 8 0 0), (9, .im (.int i))], [(3, 8, [e.c]), (2, 8, [e.c])], []⟩) (fun i => i ≤ e.purs.length) (fun i => e.purs.length - i) 0 ?_ (Nat.zero_le _) ?_
                  · simp only [Int.natCast_zero, go_sem, Evid.iv, Evid.c, Place.c, Move.c, Cert.c, Recall.c, Purity.c, Sample.c, Recipe.c, ints, ic]
                  · intro i hi
                    by_cases hp : (i : Int) < e.purs.length
                    · have hd : decide ((i : Int) < e.purs.length) = true := decide_eq_true hp
                      obtain ⟨x, hx⟩ := at_nat hp
                      have h1 := i64_ok (n := (i : Int) + 1) (by omega)
                      simp only [hd, List.getElem?_map, hx, go_sem, Evid.iv, Evid.c, Place.c, Move.c, Cert.c, Recall.c, Purity.c, Sample.c, Recipe.c, ints, ic]
                      refine DrawP_of 11 (by decide +kernel) ?_
                      simp only [hd, List.getElem?_map, hx, eq_self, go_sem, Evid.iv, Evid.c, Place.c, Move.c, Cert.c, Recall.c, Purity.c, Sample.c, Recipe.c, ints, ic]
                      refine RoundP_of (i + 1) ?_ (by omega) (by omega)
                      simp only [h1, Int.natCast_add, go_sem, Evid.iv, Evid.c, Place.c, Move.c, Cert.c, Recall.c, Purity.c, Sample.c, Recipe.c, ints, ic]
                    · have hd : decide ((i : Int) < e.purs.length) = false := decide_eq_false hp
                      simp only [hd, go_sem, Evid.iv, Evid.c, Place.c, Move.c, Cert.c, Recall.c, Purity.c, Sample.c, Recipe.c, ints, ic]
end Go.Proofs.YtnjkhiafjcajaaaGreat

namespace Go.Proofs.YtnjkhiafjcajaaaGreat
set_option linter.all false
open Go.Abs

/-- A history that is not in shape. -/
theorem h_check2 (e : Evid) (h : List (List Raw)) (h0 : checkF e = 0) (hs : shapedF e h = false) (hl : h.length ≤ 100000) (hsz : ∀ l ∈ h, ∀ x ∈ l, x.l.length ≤ 50000 ∧ x.m.length ≤ 50000) (hrow : ∀ l ∈ h, l.length ≤ 100000) :
    Ctr G.P 14 [e.iv, hist h] (· = .int 2) := by
  have k1 := c21 e
  rw [h0] at k1
  have k2 := h_shaped e h hl hrow hsz
  rw [hs] at k2
  simp only [Evid.iv, Evid.c] at k1 k2
  refine ctrf_go (goodH [] []) _ _ [.tmp 4] Tryz.func14 rfl rfl (by decide +kernel) rfl ?_
  unfold Evid.iv Evid.c
  simp only [go_sem, Evid.iv, Evid.c, Purity.c, ints, ic, big, frac, fc]
  refine CallP_eq k1 (by decide) ?_
  simp only [go_sem, Evid.iv, Evid.c, Purity.c, ints, ic, big, frac, fc]
  refine CallP_eq k2 (by decide) ?_
  simp only [go_sem, Evid.iv, Evid.c, Purity.c, ints, ic, big, frac, fc]
  refine RetF_of [] ?_
  simp only [go_sem, Evid.iv, Evid.c, Purity.c, ints, ic, big, frac, fc]
theorem fewM_parts {h : List (List Raw)} (hf : fewM 10 h = true) : h.length ≤ 10 ∧ ∀ l ∈ h, l.length ≤ 10 ∧ ∀ x ∈ l, x.l.length ≤ 3 ∧ x.m.length ≤ 3 := by
  rw [fewM, Bool.and_eq_true, decide_eq_true_eq] at hf
  have hl : h.length ≤ 10 := by omega
  refine ⟨hl, fun l hlm => ?_⟩
  have h1 := hf.1
  rw [List.take_of_length_le (by show h.length ≤ 11; omega), List.all_eq_true] at h1
  have h2 := h1 l hlm
  rw [fewP, Bool.and_eq_true, decide_eq_true_eq] at h2
  have hll : l.length ≤ 10 := by omega
  refine ⟨hll, fun x hx => ?_⟩
  have h3 := h2.1
  rw [List.take_of_length_le (by show l.length ≤ 11; omega), List.all_eq_true] at h3
  have h4 := h3 x hx
  rw [fewX, Bool.and_eq_true, decide_eq_true_eq, decide_eq_true_eq] at h4
  omega
theorem few19_parts {ss : List Sample} {rs : List Recipe} (h : few19 ss rs = true) : ss.length ≤ 40 ∧ rs.length ≤ 40 ∧ ∀ s ∈ ss, s.grams.length ≤ 10 := by
  simp only [few19, Bool.and_eq_true, decide_eq_true_eq] at h
  obtain ⟨h1, h2, h3⟩ := h
  rw [List.take_of_length_le (by omega), List.all_eq_true] at h1
  refine ⟨by omega, by omega, fun s hs => ?_⟩
  have := h1 s hs
  simp [shortG] at this
  omega
/-- What the law reads, for evidence with further purities. -/
theorem all_drop {α : Type} {f : α → Bool} {l : List α} {k : Nat} (h : (l.take k).all f = false) : l.all f = false := by
  rcases hb : l.all f with _ | _
  · rfl
  · have := List.all_eq_true.1 hb
    rw [List.all_eq_true.2 (fun x hx => this x (List.mem_of_mem_take hx))] at h
    cases h
set_option maxRecDepth 100000 in
set_option maxHeartbeats 4000000 in
theorem w_hist (e : Evid) (ss : List Sample) (rs : List Recipe) (h : List (List Raw)) : Ctr G.P 3 [e.iv, samples ss, recipes rs, hist h] (· = .bool true) := by
  have k7 := c7
  have k8 := t_few16 e 8
  have k9 := c9 ss rs
  have k10 := t_fewMasses h 10 (by omega)
  have k11 := c21 e
  rcases h8 : few16 e 8 with _ | _
  · rw [h8] at k8
    simp only [Evid.iv, Evid.c] at k8
    refine ctr_go good _ _ [.tmp 8] Tryz.func3 rfl rfl (by decide +kernel) rfl ?_
    simp only [go_sem, Evid.iv, Evid.c, Purity.c, ints, ic, big, frac, fc]
    refine CallP_eq k7 (by decide) ?_
    simp only [go_sem, Evid.iv, Evid.c, Purity.c, ints, ic, big, frac, fc]
    refine CallP_eq k8 (by decide) ?_
    simp only [go_sem, Evid.iv, Evid.c, Purity.c, ints, ic, big, frac, fc]
  rw [h8] at k8
  simp only [Evid.iv, Evid.c] at k8
  rcases h9 : few19 ss rs with _ | _
  · rw [h9] at k9
    refine ctr_go good _ _ [.tmp 8] Tryz.func3 rfl rfl (by decide +kernel) rfl ?_
    simp only [go_sem, Evid.iv, Evid.c, Purity.c, ints, ic, big, frac, fc]
    refine CallP_eq k7 (by decide) ?_
    simp only [go_sem, Evid.iv, Evid.c, Purity.c, ints, ic, big, frac, fc]
    refine CallP_eq k8 (by decide) ?_
    simp only [go_sem, Evid.iv, Evid.c, Purity.c, ints, ic, big, frac, fc]
    refine CallP_eq k9 (by decide) ?_
    simp only [go_sem, Evid.iv, Evid.c, Purity.c, ints, ic, big, frac, fc]
  rw [h9] at k9
  rcases h10 : fewM 10 h with _ | _
  · rw [h10] at k10
    refine ctr_go good _ _ [.tmp 8] Tryz.func3 rfl rfl (by decide +kernel) rfl ?_
    simp only [go_sem, Evid.iv, Evid.c, Purity.c, ints, ic, big, frac, fc]
    refine CallP_eq k7 (by decide) ?_
    simp only [go_sem, Evid.iv, Evid.c, Purity.c, ints, ic, big, frac, fc]
    refine CallP_eq k8 (by decide) ?_
    simp only [go_sem, Evid.iv, Evid.c, Purity.c, ints, ic, big, frac, fc]
    refine CallP_eq k9 (by decide) ?_
    simp only [go_sem, Evid.iv, Evid.c, Purity.c, ints, ic, big, frac, fc]
    refine CallP_eq k10 (by decide) ?_
    simp only [go_sem, Evid.iv, Evid.c, Purity.c, ints, ic, big, frac, fc]
  rw [h10] at k10
  by_cases h0 : checkF e = 0
  · obtain ⟨f1, f2, f3⟩ := few19_parts h9
    obtain ⟨g1, g2⟩ := fewM_parts h10
    have k12 := c12 e ss rs (by omega) (by omega) (fun s hs => by have := f3 s hs; omega)
    rw [h0] at k11
    simp only [Evid.iv, Evid.c] at k11
    rcases expand_cases e ss rs h0 with ⟨e1, e2⟩ | ⟨m, e1, e2, e3⟩
    · generalize expandF e ss rs = r at *
      obtain ⟨x, f⟩ := r
      dsimp only at e1 e2
      subst e2
      simp only [resE, Evid.iv, Evid.c, zeroE] at k12
      refine ctr_go good _ _ [.tmp 8] Tryz.func3 rfl rfl (by decide +kernel) rfl ?_
      simp only [go_sem, Evid.iv, Evid.c, Purity.c, ints, ic, big, frac, fc]
      refine CallP_eq k7 (by decide) ?_
      simp only [go_sem, Evid.iv, Evid.c, Purity.c, ints, ic, big, frac, fc]
      refine CallP_eq k8 (by decide) ?_
      simp only [go_sem, Evid.iv, Evid.c, Purity.c, ints, ic, big, frac, fc]
      refine CallP_eq k9 (by decide) ?_
      simp only [go_sem, Evid.iv, Evid.c, Purity.c, ints, ic, big, frac, fc]
      refine CallP_eq k10 (by decide) ?_
      simp only [go_sem, Evid.iv, Evid.c, Purity.c, ints, ic, big, frac, fc]
      refine CallP_eq k11 (by decide) ?_
      simp only [go_sem, Evid.iv, Evid.c, Purity.c, ints, ic, big, frac, fc]
      refine CallP_eq k12 (by decide) ?_
      simp only [e1, go_sem, Evid.iv, Evid.c, Purity.c, ints, ic, big, frac, fc]
    · rw [e1] at k12
      have k13 := c21 { e with purs := e.purs ++ m }
      rw [e3] at k13
      have hfit := check_len h0
      have hmt := (checkF_parts h0).2.1
      have hlx := check_len e3
      have k16 := c15 e (by omega) (by omega) (by omega) (by omega) (by omega)
      obtain ⟨cx, ck, k14, k15, b, hiff, hall⟩ : ∃ cx ck : Int, Ctr G.P 14 [e.iv, hist h] (· = .int ck) ∧ Ctr G.P 14 [({ e with purs := e.purs ++ m } : Evid).iv, hist h] (· = .int cx) ∧
          ∃ b : Bool, (cx = 0 ↔ ck = 0 ∧ b = true) ∧ (ck = 0 → ∃ H : List (List Rat), h.map rowC = H.map stC ∧ H.length = e.moves.length ∧ (∀ l ∈ H, (l.length : Int) = e.mats ∧ ∀ r ∈ l, FL 3 r) ∧ b = m.all (keepsM H)) := by
        rcases hs : shapedF e h with _ | _
        · exact ⟨2, 2, h_check2 e h h0 hs (by omega) (fun l hl x hx => by have := (g2 l hl).2 x hx; omega) (fun l hl => by have := (g2 l hl).1; omega),
            h_check2 { e with purs := e.purs ++ m } h e3 hs (by omega) (fun l hl x hx => by have := (g2 l hl).2 x hx; omega) (fun l hl => by have := (g2 l hl).1; omega), true, by simp, by simp⟩
        · have hs' := hs
          rw [shapedF, Bool.and_eq_true, decide_eq_true_eq] at hs'
          obtain ⟨H, a1, a2, a3⟩ := hist_of hs'.2 (k := 3) (fun l hl x hx => (g2 l hl).2 x hx)
          have hHl : H.length = e.moves.length := by omega
          have hH : ∀ l ∈ H, l.length = e.mats.toNat ∧ ∀ r ∈ l, FL 3 r := fun l hl => ⟨by have := (a3 l hl).1; omega, (a3 l hl).2⟩
          exact ⟨_, _, h_check e h H h0 hs a2 hHl hH (fun l hl x hx => by have := (g2 l hl).2 x hx; omega) (fun l hl => by have := (g2 l hl).1; omega) (by omega) (by omega) (by omega) (by omega) (by omega) (by omega) (by omega) (check_moves h0) (check_purs' h0),
            h_check { e with purs := e.purs ++ m } h H e3 hs a2 hHl hH (fun l hl x hx => by have := (g2 l hl).2 x hx; omega) (fun l hl => by have := (g2 l hl).1; omega) (by dsimp only; omega) (by dsimp only; omega) (by dsimp only; omega) (by dsimp only; omega) (by dsimp only; omega) (by dsimp only; omega) (by dsimp only at hlx ⊢; omega) (check_moves e3) (check_purs' e3),
            m.all (keepsM H), hist_with hHl (fun l hl => (a3 l hl).1) e2, fun _ => ⟨H, a2, hHl, a3, rfl⟩⟩
      have hlt : decide (((e.purs ++ m).length : Int) < (e.purs.length : Int)) = false := decide_eq_false (by rw [List.length_append]; omega)
      have htk : ((e.purs ++ m).map Purity.c).take e.purs.length = e.purs.map Purity.c := by
        rw [List.map_append, List.take_left' (List.length_map ..)]
      unfold hist at k10 k14 k15 ⊢
      simp only [resE, Evid.iv, Evid.c] at k12 k13 k14 k15 k16
      refine ctr_go good _ _ [.tmp 8] Tryz.func3 rfl rfl (by decide +kernel) rfl ?_
      simp only [go_sem, Evid.iv, Evid.c, Purity.c, ints, ic, big, frac, fc]
      refine CallP_eq k7 (by decide) ?_
      simp only [go_sem, Evid.iv, Evid.c, Purity.c, ints, ic, big, frac, fc]
      refine CallP_eq k8 (by decide) ?_
      simp only [go_sem, Evid.iv, Evid.c, Purity.c, ints, ic, big, frac, fc]
      refine CallP_eq k9 (by decide) ?_
      simp only [go_sem, Evid.iv, Evid.c, Purity.c, ints, ic, big, frac, fc]
      refine CallP_eq k10 (by decide) ?_
      simp only [go_sem, Evid.iv, Evid.c, Purity.c, ints, ic, big, frac, fc]
      refine CallP_eq k11 (by decide) ?_
      simp only [go_sem, Evid.iv, Evid.c, Purity.c, ints, ic, big, frac, fc]
      refine CallP_eq k12 (by decide) ?_
      simp only [go_sem, Evid.iv, Evid.c, Purity.c, ints, ic, big, frac, fc]
      refine CallP_eq k13 (by decide) ?_
      have hle : (e.purs.length : Int) ≤ ((e.purs ++ m).length : Int) := by rw [List.length_append]; omega
      have h4 : ((e.purs ++ m).map Purity.c).all (fun c => c.length == 4) = true := List.all_eq_true.2 fun c hc => by
        obtain ⟨z, _, rfl⟩ := List.mem_map.1 hc; rfl
      simp only [hlt, hle, h4, and_self, if_true, Nat.sub_zero, htk, go_sem, Evid.iv, Evid.c, Purity.c, ints, ic, big, frac, fc]
      refine CallP_eq k16 (by decide) ?_
      simp only [go_sem, Evid.iv, Evid.c, Purity.c, ints, ic, big, frac, fc]
      refine CallP_eq k14 (by decide) ?_
      simp only [go_sem, Evid.iv, Evid.c, Purity.c, ints, ic, big, frac, fc]
      clear k7 k8 k9 k10 k11 k12 k13 k16 hlt hle h4 htk
      obtain ⟨kf, hif, hkf⟩ : ∃ kf : Purity → Bool, (cx = 0 ↔ ck = 0 ∧ m.all kf = true) ∧ (ck = 0 → ∃ H : List (List Rat), h.map rowC = H.map stC ∧ H.length = e.moves.length ∧ (∀ l ∈ H, (l.length : Int) = e.mats ∧ ∀ r ∈ l, FL 3 r) ∧ kf = keepsM H) := by
        by_cases hc : ck = 0
        · obtain ⟨H, a1, a2, a3, a4⟩ := hall hc
          exact ⟨keepsM H, by rw [hiff, a4], fun _ => ⟨H, a1, a2, a3, rfl⟩⟩
        · exact ⟨fun _ => true, ⟨fun h => absurd (hiff.1 h).1 hc, fun h => absurd h.1 hc⟩, fun h => absurd h hc⟩
      clear hiff hall
      refine LoopP_of [3, 4, 9, 10, 13, 14] [4, 10] (fun g : Nat × Bool => ⟨[(3, .im (.sl (h.map rowC))), (4, .loc 4 8 0 0), (9, .im (.bool true)), (10, .loc 10 8 0 0), (13, .im (.bool g.2)), (14, .im (.int (e.purs.length + g.1 : Int)))],
          [(10, 8, [({ e with purs := e.purs ++ m } : Evid).c]), (4, 8, [e.c])], []⟩)
        (fun g => g.1 ≤ m.length ∧ g.2 = (decide (ck = 0) && (m.take g.1).all kf)) (fun g => m.length - g.1) (0, decide (ck = 0)) ?_ ⟨Nat.zero_le _, by simp⟩ ?_
      · simp only [Int.natCast_zero, Int.add_zero, go_sem, Evid.iv, Evid.c, Purity.c, ints, ic, big, frac, fc]
      intro ⟨k, bb⟩ ⟨hk, hbb⟩
      dsimp only at hk hbb
      have hend : (k = m.length ∨ bb = false) → decide (cx = 0) = bb := by
        intro hor
        rcases hor with rfl | rfl
        · rw [List.take_length] at hbb
          rw [hbb]
          by_cases hx0 : cx = 0
          · obtain ⟨h1, h2⟩ := hif.1 hx0
            rw [decide_eq_true hx0, decide_eq_true h1, h2]; rfl
          · rw [decide_eq_false hx0]
            by_cases h1 : ck = 0
            · rw [decide_eq_true h1, Bool.true_and]
              rcases h2 : m.all kf with _ | _
              · rfl
              · exact absurd (hif.2 ⟨h1, h2⟩) hx0
            · rw [decide_eq_false h1]; rfl
        · refine decide_eq_false fun hc0 => ?_
          obtain ⟨h1, h2⟩ := hif.1 hc0
          rw [decide_eq_true h1, List.all_eq_true.2 (fun x hx => List.all_eq_true.1 h2 x (List.mem_of_mem_take hx))] at hbb
          cases hbb
      by_cases hp : k < m.length
      · have hd : decide ((e.purs.length + k : Int) < ((e.purs ++ m).length : Int)) = true := decide_eq_true (by rw [List.length_append]; omega)
        cases bb
        · have he := hend (.inr rfl)
          simp only [hd, go_sem, Evid.iv, Evid.c, Purity.c, ints, ic, big, frac, fc]
          refine CallP_eq k15 (by decide) ?_
          simp only [he, go_sem, Evid.iv, Evid.c, Purity.c, ints, ic, big, frac, fc]
        · have hck : ck = 0 := by
            rcases Decidable.em (ck = 0) with h1 | h1
            · exact h1
            · rw [decide_eq_false h1] at hbb; cases hbb
          obtain ⟨H, a1, a2, a3, a4⟩ := hkf hck
          obtain ⟨p, hpm⟩ : ∃ p, m[k]? = some p := ⟨_, List.getElem?_eq_getElem hp⟩
          obtain ⟨b1, b2, b3⟩ := purF_iff.1 (List.all_eq_true.1 e2 p (List.mem_of_getElem? hpm))
          have hpx : (e.purs ++ m)[(e.purs.length + k : Int).toNat]? = some p := by
            rw [show (e.purs.length + k : Int).toNat = e.purs.length + k by omega, List.getElem?_append_right (by omega), Nat.add_sub_cancel_left]; exact hpm
          have hx0 : (0 : Int) ≤ (e.purs.length + k : Int) := by omega
          have hxl : (e.purs.length + k : Int) < ((e.purs ++ m).length : Int) := of_decide_eq_true hd
          have n1 : decide (p.move < 0) = false := decide_eq_false (by omega)
          have n2 : decide ((H.length : Int) ≤ p.move) = false := decide_eq_false (by omega)
          obtain ⟨l, hl⟩ : ∃ l, H[p.move.toNat]? = some l := ⟨_, List.getElem?_eq_getElem (by omega)⟩
          have hm0 := b1.1
          have hm1 : p.move < (H.length : Int) := by omega
          have kk := t_keeps l p (by have := (a3 l (List.mem_of_getElem? hl)).1; omega) (fun r hr => ((a3 l (List.mem_of_getElem? hl)).2 r hr).mono (by omega)) (by omega) (by omega)
          have hkm : keepsF l p = kf p := by rw [a4, keepsM, hl]
          rw [hkm] at kk
          unfold fcs at kk
          simp only [Purity.c] at kk
          rw [a1]
          have h1 := i64_ok (n := (e.purs.length + k : Int) + 1) (by have := check_len e3; dsimp only at this; rw [List.length_append] at this; omega)
          rw [Int.add_assoc] at h1
          simp only [hd, List.getElem?_map, hpx, hx0, hxl, n1, n2, go_sem, Evid.iv, Evid.c, Purity.c, ints, ic, big, frac, fc]
          refine DrawP_of 7 (by decide +kernel) ?_
          simp only [List.getElem?_map, hl, stC, hm0, hm1, go_sem, Evid.iv, Evid.c, Purity.c, ints, ic, big, frac, fc]
          refine CallD_eq kk (by decide) ?_
          simp only [go_sem, Evid.iv, Evid.c, Purity.c, ints, ic, big, frac, fc]
          refine RoundP_of (k + 1, kf p) ?_ ?_ ⟨?_, ?_⟩
          · simp only [h1, Int.natCast_add, Int.add_assoc, go_sem, Evid.iv, Evid.c, Purity.c, ints, ic, big, frac, fc]
          · show m.length - (k + 1) < m.length - k; omega
          · show k + 1 ≤ m.length; omega
          · dsimp only
            rw [decide_eq_true hck, Bool.true_and] at hbb ⊢
            rw [all_take_succ hpm, ← hbb, Bool.true_and]
      · have hkm : k = m.length := by omega
        have hd : decide ((e.purs.length + k : Int) < ((e.purs ++ m).length : Int)) = false := decide_eq_false (by rw [List.length_append]; omega)
        have he := hend (.inl hkm)
        simp only [hd, go_sem, Evid.iv, Evid.c, Purity.c, ints, ic, big, frac, fc]
        refine CallP_eq k15 (by decide) ?_
        simp only [he, go_sem, Evid.iv, Evid.c, Purity.c, ints, ic, big, frac, fc]
  · refine ctr_go good _ _ [.tmp 8] Tryz.func3 rfl rfl (by decide +kernel) rfl ?_
    simp only [Evid.iv, Evid.c] at k11
    simp only [go_sem, Evid.iv, Evid.c, Purity.c, ints, ic, big, frac, fc]
    refine CallP_eq k7 (by decide) ?_
    simp only [go_sem, Evid.iv, Evid.c, Purity.c, ints, ic, big, frac, fc]
    refine CallP_eq k8 (by decide) ?_
    simp only [go_sem, Evid.iv, Evid.c, Purity.c, ints, ic, big, frac, fc]
    refine CallP_eq k9 (by decide) ?_
    simp only [go_sem, Evid.iv, Evid.c, Purity.c, ints, ic, big, frac, fc]
    refine CallP_eq k10 (by decide) ?_
    simp only [go_sem, Evid.iv, Evid.c, Purity.c, ints, ic, big, frac, fc]
    refine CallP_eq k11 (by decide) ?_
    simp only [h0, go_sem, Evid.iv, Evid.c, Purity.c, ints, ic, big, frac, fc]
end Go.Proofs.YtnjkhiafjcajaaaGreat
