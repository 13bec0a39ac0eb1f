/- A part of the proof: what functions of the program do, and the layer under it. No further condition. -/
import Derived.Test.YtpnlfkaijdjhlaaKN1
namespace Go.Proofs.Ytpnlfkaijdjhlaa
set_option linter.all false
open Go.Abs

theorem divInt_one (k : Int) : Rat.divInt k 1 = (k : Rat) := by
  rw [Rat.divInt_eq_div, Rat.intCast_one, Rat.div_def]
  have : (1 : Rat)⁻¹ = 1 := by decide +kernel
  rw [this, Rat.mul_one]
theorem absR_cases (r : Rat) : (r < 0 ∧ absR r = -r) ∨ (0 ≤ r ∧ absR r = r) := by
  by_cases h : r < 0
  · exact .inl ⟨h, if_pos ((sign_neg r).2 h)⟩
  · exact .inr ⟨Rat.not_lt.1 h, if_neg fun h' => h ((sign_neg r).1 h')⟩
theorem cmpR_zero {a b : Rat} : cmpR a b = 0 → a = b := by
  intro h
  have h1 : ¬ cmpR a b < 0 := by omega
  have h2 : ¬ 0 < cmpR a b := by omega
  rw [cmpR_neg] at h1
  rw [cmpR_pos] at h2
  exact Rat.le_antisymm (Rat.not_lt.1 h2) (Rat.not_lt.1 h1)
theorem cmpR_self {a b : Rat} (h : a = b) : cmpR a b = 0 := by
  subst h
  have h1 : ¬ cmpR a a < 0 := fun h => by rw [cmpR_neg] at h; exact Rat.lt_irrefl h
  have h2 : ¬ 0 < cmpR a a := fun h => by rw [cmpR_pos] at h; exact Rat.lt_irrefl h
  omega
theorem nearI_iff {load grams : List Int} {most : Int} {less : Bool} {i : Nat} : nearI load grams most less i = true ↔
    (if less = true then absR (shareR (dgt load i) (isum load) - shareR (dgt grams i) (isum grams)) < most else absR (shareR (dgt load i) (isum load) - shareR (dgt grams i) (isum grams)) ≤ most) := by
  unfold nearI
  generalize absR _ = D
  rw [divInt_one]
  have h1 := cmpR_pos (a := D) (b := (most : Rat))
  cases less with
  | false =>
    simp only [Bool.false_and, Bool.or_false, Bool.not_eq_true', decide_eq_false_iff_not, Bool.false_eq_true, if_false]
    rw [h1, Rat.not_lt]
  | true =>
    simp only [Bool.true_and, Bool.not_eq_true', Bool.or_eq_false_iff, decide_eq_false_iff_not, if_true]
    rw [h1, Rat.not_lt]
    constructor
    · rintro ⟨h2, h3⟩
      exact Rat.lt_of_le_of_ne h2 fun h => h3 (cmpR_self h)
    · intro h
      refine ⟨Rat.le_of_lt h, fun h3 => ?_⟩
      rw [cmpR_zero h3] at h
      exact Rat.lt_irrefl h
/-- The load keeps the purities. -/
def keepI (load : List Int) (l : List Purity) (i : Nat) : Bool :=
  match l[i]? with
  | some x => decide (0 ≤ cmpR (shareR (dgt load i) (isum load)) (Rat.divInt x.least 1)) && decide (cmpR (shareR (dgt load i) (isum load)) (Rat.divInt x.most 1) ≤ 0)
  | none => true
theorem keepI_iff {load : List Int} {l : List Purity} {i : Nat} {x : Purity} (h : l[i]? = some x) : keepI load l i = true ↔ (x.least : Rat) ≤ shareR (dgt load i) (isum load) ∧ shareR (dgt load i) (isum load) ≤ x.most := by
  unfold keepI
  rw [h]
  dsimp only
  generalize shareR _ _ = X
  rw [divInt_one, divInt_one]
  have h1 := cmpR_neg (a := X) (b := (x.least : Rat))
  have h2 := cmpR_pos (a := X) (b := (x.most : Rat))
  rw [Bool.and_eq_true, decide_eq_true_eq, decide_eq_true_eq, ← Int.not_lt, h1, ← Int.not_lt, h2, Rat.not_lt, Rat.not_lt]
theorem share_cast {n S k : Int} (hS : 0 < S) : ((k : Rat) ≤ shareR n S ↔ k * S ≤ 1000 * n) ∧ (shareR n S ≤ (k : Rat) ↔ 1000 * n ≤ k * S) ∧ ((k : Rat) < shareR n S ↔ k * S < 1000 * n) ∧ (shareR n S < (k : Rat) ↔ 1000 * n < k * S) := by
  rw [← divInt_one]
  unfold shareR
  refine ⟨?_, ?_, ?_, ?_⟩
  · rw [divInt_le (by decide) hS, Int.mul_one]
  · rw [divInt_le hS (by decide), Int.mul_one]
  · rw [divInt_lt (by decide) hS, Int.mul_one]
  · rw [divInt_lt hS (by decide), Int.mul_one]
/-- The two halves, for one element. -/
theorem share_law {s : Sample} {l : List Purity} (h : puritiesF s = (l, 0)) {load : List Int} (hl : Grams load) {i : Nat} (hi : i < s.grams.length) (hlen : load.length = s.grams.length) :
    (nearI load s.grams s.slack false i = true → keepI load l i = true) ∧ (keepI load l i = true → nearI load s.grams (s.slack + 1) true i = true) := by
  obtain ⟨h1, h2, h3, _, h4, _⟩ := pur_ok h
  obtain ⟨g1, g2, g3, g4, _⟩ := ok_grams h1
  subst h4
  have hn : s.grams[i]? = some (dgt s.grams i) := get_nat (by omega)
  have hn' := g2 _ (List.mem_of_getElem? hn)
  obtain ⟨hm, m0, m1⟩ := hl.at (i := i) (by omega)
  obtain ⟨L0, _, _⟩ := hl.sum
  have hmle := isum_mem (fun x hx => by have := List.all_eq_true.1 hl.1 x hx; simp [gramB] at this; omega) (List.mem_of_getElem? hm)
  have hp := purGo_at s (isum s.grams) s.grams 0 i _ hn
  rw [Nat.zero_add] at hp
  rw [nearI_iff, nearI_iff, keepI_iff hp]
  simp only [Bool.false_eq_true, if_false, if_true, purOf]
  obtain ⟨l1, l2, l3, l4, l5, l6⟩ := low_high hn'.1 h2
  have c1 := (share_cast (n := dgt s.grams i) (k := lowF (dgt s.grams i) (isum s.grams)) h2).1.2 l1
  have c2 := (share_cast (n := dgt s.grams i) (k := lowF (dgt s.grams i) (isum s.grams) + 1) h2).2.2.2.2 l2
  have c3 := (share_cast (n := dgt s.grams i) (k := highF (dgt s.grams i) (isum s.grams)) h2).2.1.2 l3
  have c4 := (share_cast (n := dgt s.grams i) (k := highF (dgt s.grams i) (isum s.grams) - 1) h2).2.2.1.2 l4
  have d1 := (share_cast (n := dgt load i) (k := 0) L0).1.2 (by omega)
  have d2 := (share_cast (n := dgt load i) (k := 1000) L0).2.1.2 (by omega)
  generalize lowF (dgt s.grams i) (isum s.grams) = lo at *
  generalize highF (dgt s.grams i) (isum s.grams) = hi' at *
  generalize shareR (dgt s.grams i) (isum s.grams) = Y at *
  generalize shareR (dgt load i) (isum load) = X at *
  have e1 : ((max 0 (lo - s.slack) : Int) : Rat) ≤ X ↔ ((lo : Rat) - s.slack ≤ X) := by
    rcases Int.le_total 0 (lo - s.slack) with h | h
    · rw [Int.max_eq_right h, Rat.intCast_sub]
    · rw [Int.max_eq_left h]
      have := Rat.intCast_le_intCast.2 h
      rw [Rat.intCast_sub] at this
      constructor
      · intro _; exact Rat.le_trans this d1
      · intro _; exact d1
  have e2 : X ≤ ((min 1000 (hi' + s.slack) : Int) : Rat) ↔ (X ≤ (hi' : Rat) + s.slack) := by
    rcases Int.le_total 1000 (hi' + s.slack) with h | h
    · rw [Int.min_eq_left h]
      have := Rat.intCast_le_intCast.2 h
      rw [Rat.intCast_add] at this
      constructor
      · intro _; exact Rat.le_trans d2 this
      · intro _; exact d2
    · rw [Int.min_eq_right h, Rat.intCast_add]
  rw [e1, e2]
  rw [Rat.intCast_add] at c2 ⊢
  rw [Rat.intCast_sub] at c4
  have o1 : ((1 : Int) : Rat) = 1 := rfl
  rw [o1] at c2 c4 ⊢
  generalize (lo : Rat) = lo at *
  generalize (hi' : Rat) = hi' at *
  generalize (s.slack : Rat) = sl at *
  rcases absR_cases (X - Y) with ⟨q1, q2⟩ | ⟨q1, q2⟩
  · rw [q2]
    constructor
    · intro h; constructor <;> grind
    · intro h; grind
  · rw [q2]
    constructor
    · intro h; constructor <;> grind
    · intro h; grind
end Go.Proofs.Ytpnlfkaijdjhlaa
