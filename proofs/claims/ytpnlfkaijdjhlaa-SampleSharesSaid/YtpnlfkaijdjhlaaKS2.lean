/- A part of the proof: what functions of the program do, and the layer under it. No further condition. -/
import Derived.Test.YtpnlfkaijdjhlaaKQ1
import Derived.Test.YtpnlfkaijdjhlaaKS1
import Derived.Test.YtpnlfkaijdjhlaaKC16
namespace Go.Proofs.Ytpnlfkaijdjhlaa
set_option linter.all false
open Go.Abs

/-- The shares and the bounds, in whole numbers. -/
theorem low_high {n S : Int} (hn : 0 ≤ n) (hS : 0 < S) : lowF n S * S ≤ 1000 * n ∧ 1000 * n < (lowF n S + 1) * S ∧ 1000 * n ≤ highF n S * S ∧ (highF n S - 1) * S < 1000 * n ∧ lowF n S ≤ highF n S ∧ 0 ≤ lowF n S := by
  have h1 := Int.mul_ediv_add_emod (1000 * n) S
  have h2 := Int.emod_nonneg (1000 * n) (by omega : S ≠ 0)
  have h3 := Int.emod_lt_of_pos (1000 * n) hS
  have h4 : 0 ≤ 1000 * n / S := Int.ediv_nonneg (by omega) (by omega)
  unfold highF lowF
  rw [Int.tdiv_eq_ediv_of_nonneg (by omega), Int.tmod_eq_emod_of_nonneg (by omega)]
  generalize hq : 1000 * n / S = q at *
  generalize hr : 1000 * n % S = r at *
  have e1 : (q + 1) * S = S * q + S := by rw [Int.add_mul, Int.mul_comm]; omega
  have e2 : (q - 1) * S = S * q - S := by rw [Int.sub_mul, Int.mul_comm]; omega
  have e3 : q * S = S * q := Int.mul_comm _ _
  split
  · rename_i h
    simp only [decide_eq_true_eq] at h
    refine ⟨by omega, by omega, by omega, ?_, by omega, h4⟩
    rw [Int.add_sub_cancel]; omega
  · rename_i h
    simp only [decide_eq_true_eq] at h
    exact ⟨by omega, by omega, by omega, by omega, by omega, h4⟩
theorem isum_mem {l : List Int} (h : ∀ x ∈ l, 0 ≤ x) {n : Int} (hn : n ∈ l) : n ≤ isum l := by
  induction l with
  | nil => cases hn
  | cons x l ih =>
    have h0 : 0 ≤ isum l := by
      have : ∀ m : List Int, (∀ x ∈ m, 0 ≤ x) → 0 ≤ isum m := by
        intro m
        induction m with
        | nil => intro _; exact Int.le_refl _
        | cons y m ihm =>
          intro hm
          have := ihm fun z hz => hm z (List.mem_cons_of_mem _ hz)
          have := hm y (List.mem_cons_self ..)
          simp only [isum]; omega
      exact this l fun x hx => h x (List.mem_cons_of_mem _ hx)
    simp only [isum]
    rcases List.mem_cons.1 hn with rfl | hn
    · omega
    · have := ih (fun x hx => h x (List.mem_cons_of_mem _ hx)) hn
      have := h x (List.mem_cons_self ..)
      omega
theorem purGo_at (s : Sample) (S : Int) : ∀ (l : List Int) (k i : Nat) (n : Int), l[i]? = some n → (purGo s S k l)[i]? = some (purOf s S (k + i) n)
  | [], _, _, _, h => by simp at h
  | x :: l, k, 0, n, h => by simp at h; subst h; rfl
  | x :: l, k, i + 1, n, h => by
    rw [purGo, List.getElem?_cons_succ, purGo_at s S l (k + 1) i n (by simpa using h)]
    rw [show k + 1 + i = k + (i + 1) by omega]
def shareR (n S : Int) : Rat := Rat.divInt (1000 * n) S
theorem share_le {n S k : Int} (hS : 0 < S) : (0 < cmpR (shareR n S) (Rat.divInt k 1)) = (k * S < 1000 * n) := by
  rw [cmpR_pos, shareR, divInt_lt (by decide) hS, Int.mul_one]
theorem le_share {n S k : Int} (hS : 0 < S) : (cmpR (shareR n S) (Rat.divInt k 1) < 0) = (1000 * n < k * S) := by
  rw [cmpR_neg, shareR, divInt_lt hS (by decide), Int.mul_one]
theorem share_len {n S : Int} (hn : 0 ≤ n ∧ n ≤ 1099511627776) (hS : 0 < S ∧ S ≤ 100000000000000) : (dig (shareR n S).num.natAbs).length ≤ 3 ∧ (dig (shareR n S).den).length ≤ 3 :=
  len_divInt hS.1 (by omega) (by omega)
theorem int_len {k : Int} (hk : -100000000000000 ≤ k ∧ k ≤ 100000000000000) : (dig (Rat.divInt k 1).num.natAbs).length ≤ 3 ∧ (dig (Rat.divInt k 1).den).length ≤ 3 :=
  len_divInt (by decide) (by omega) (by decide)
/-- What a right sample's purities are like. -/
theorem ok_grams {s : Sample} (h : sampleOk s = true) : s.grams.length ≤ 6 ∧ (∀ n ∈ s.grams, 0 ≤ n ∧ n ≤ 1099511627776) ∧ 0 ≤ s.slack ∧ s.slack ≤ 1000 ∧ 0 ≤ s.move ∧ s.move ≤ 199 := by
  simp only [sampleOk, Bool.and_eq_true, Bool.not_eq_true', decide_eq_false_iff_not, List.any_eq_false, Bool.not_eq_true, Bool.not_eq_false'] at h
  obtain ⟨⟨⟨⟨h1, h2⟩, h3⟩, h4⟩, h5⟩ := h
  have h1 := btw_iff.1 h1
  have h5 := btw_iff.1 h5
  refine ⟨by omega, fun n hn => ?_, h5.1, h5.2, h1.1, h1.2⟩
  have := h4 n hn
  simp only [Bool.not_eq_false] at this
  exact btw_iff.1 this
theorem pur_ok {s : Sample} {l : List Purity} (h : puritiesF s = (l, 0)) : sampleOk s = true ∧ 0 < isum s.grams ∧ isum s.grams ≤ 6597069766656 ∧ totalF s.grams = isum s.grams ∧ l = purGo s (isum s.grams) 0 s.grams ∧ l.length = s.grams.length := by
  unfold puritiesF at h
  split at h
  · cases h
  · split at h
    · cases h
    · rename_i h1 h2
      simp only [Prod.mk.injEq, and_true] at h
      subst h
      have hok : sampleOk s = true := by simpa using h1
      obtain ⟨g1, g2, _⟩ := ok_grams hok
      have hall : s.grams.all gramB = true := List.all_eq_true.2 fun n hn => by
        have := g2 n hn
        simp [gramB]; omega
      have hs := isum_le hall
      refine ⟨hok, by omega, by omega, ?_, rfl, purGo_len _ _ _ _⟩
      rw [totalF, if_pos ⟨hall, by omega⟩]
theorem pur_fail {s : Sample} {k : Int} {l : List Purity} (h : puritiesF s = (l, k)) (hk : k ≠ 0) : l = [] := by
  unfold puritiesF at h
  split at h
  · simp only [Prod.mk.injEq] at h; exact h.1.symm
  · split at h
    · simp only [Prod.mk.injEq] at h; exact h.1.symm
    · simp only [Prod.mk.injEq] at h; exact absurd h.2.symm hk
/-- With another slack the same error. -/
theorem slack_err (s : Sample) (σ : Int) (h : btw σ 0 1000 = btw s.slack 0 1000) : (puritiesF { s with slack := σ }).2 = (puritiesF s).2 := by
  have : sampleOk { s with slack := σ } = sampleOk s := by simp only [sampleOk, h]
  simp only [puritiesF, this]
  repeat' split
  all_goals rfl
theorem slack_law {s : Sample} {σ : Int} {a b : List Purity} (hσ : s.slack ≤ σ) (ha : puritiesF s = (a, 0)) (hb : puritiesF { s with slack := σ } = (b, 0)) {i : Nat} {n : Int} (hn : s.grams[i]? = some n) :
    ∃ x y, a[i]? = some x ∧ b[i]? = some y ∧ (0 ≤ n ∧ n ≤ 1099511627776) ∧ (0 ≤ x.least ∧ x.least ≤ 1000) ∧ (0 ≤ x.most ∧ x.most ≤ 1000) ∧ y.least ≤ x.least ∧ x.most ≤ y.most ∧ x.least * isum s.grams ≤ 1000 * n ∧ 1000 * n ≤ x.most * isum s.grams := by
  obtain ⟨h1, h2, h3, _, h4, _⟩ := pur_ok ha
  obtain ⟨_, _, _, _, h5, _⟩ := pur_ok hb
  obtain ⟨g1, g2, g3, g4, _⟩ := ok_grams h1
  subst h4 h5
  have hn' := g2 n (List.mem_of_getElem? hn)
  have hle := isum_mem (fun x hx => (g2 x hx).1) (List.mem_of_getElem? hn)
  generalize isum s.grams = S at *
  refine ⟨_, _, purGo_at _ _ _ _ _ _ hn, purGo_at _ _ _ _ _ _ hn, hn', ?_⟩
  obtain ⟨l1, l2, l3, l4, l5, l6⟩ := low_high hn'.1 h2
  simp only [purOf]
  generalize lowF n S = lo at *
  generalize highF n S = hi at *
  have k1 : lo ≤ 1000 := by
    rcases Int.lt_or_le 1000 lo with h | h
    · have := Int.mul_le_mul_of_nonneg_right (show 1001 ≤ lo by omega) (Int.le_of_lt h2)
      omega
    · exact h
  have m1 : ∀ k, k ≤ lo → k * S ≤ 1000 * n := fun k hk => Int.le_trans (Int.mul_le_mul_of_nonneg_right hk (Int.le_of_lt h2)) l1
  have m2 : ∀ k, hi ≤ k → 1000 * n ≤ k * S := fun k hk => Int.le_trans l3 (Int.mul_le_mul_of_nonneg_right hk (Int.le_of_lt h2))
  refine ⟨by omega, by omega, by omega, by omega, m1 _ (by omega), ?_⟩
  rcases Int.le_total 1000 (hi + s.slack) with h | h
  · rw [Int.min_eq_left h]; omega
  · rw [Int.min_eq_right h]; exact m2 _ (by omega)
end Go.Proofs.Ytpnlfkaijdjhlaa
