/- The data of the seat as Lean structures, and their trees. -/
import Derived.Test.YtnjkhiafjcajaaaGreatKX17
import Derived.Test.YtnjkhiafjcajaaaGreatKX14
import Derived.Test.YtnjkhiafjcajaaaGreatKX13
import Derived.Test.YtnjkhiafjcajaaaGreatKX12
namespace Go.Proofs.YtnjkhiafjcajaaaGreat
set_option linter.all false
open Go.Abs

theorem one_fits (n : Int) : (fits n && decide (intF n = 1)) = decide (n = 1) := by
  by_cases h : fits n = true
  · rw [fits_yes h, h, Bool.true_and]
  · have h' : fits n = false := by simpa using h
    rw [h', Bool.false_and]
    refine (decide_eq_false fun e => ?_).symm
    subst e; exact absurd h' (by decide)
theorem t_one (z : Int) (h : (dig z.natAbs).length ≤ 1000000) : Ctr G.P 120 [big z] (· = .bool (decide (z = 1))) := by
  have hi := t_pint z h
  have ho := one_fits z
  by_cases hf : fits z = true
  · rw [hf] at hi ho
    rw [Bool.true_and] at ho
    refine ctr_go good _ _ [.tmp 2] Tryz.func120 rfl rfl (by decide +kernel) rfl ?_
    simp only [go_sem, ints, ic, big, frac]
    refine CallP_eq hi (by decide) ?_
    simp only [ho, go_sem, ints, ic, big, frac]
  · have h' : fits z = false := by simpa using hf
    rw [h'] at hi ho
    rw [Bool.false_and] at ho
    rw [← ho]
    clear ho
    refine ctr_go good _ _ [.tmp 2] Tryz.func120 rfl rfl (by decide +kernel) rfl ?_
    simp only [go_sem, ints, ic, big, frac]
    refine CallP_eq hi (by decide) ?_
    simp only [go_sem, ints, ic, big, frac]
set_option maxRecDepth 100000 in
theorem t_pfright (s t : Int) (l m : List Int) (hl : l.length ≤ 50000) (hm : m.length ≤ 50000) : Ctr G.P 77 [.agg [.int s, ints l, .int t, ints m]] (· = .bool (fracF s l t m)) := by
  have r1 := t_pright s l (by omega)
  have r2 := t_pright t m (by omega)
  by_cases h1 : rightF s l = true
  case neg =>
    have h1 : rightF s l = false := by simpa using h1
    rw [h1] at r1
    rw [fracF, h1, Bool.false_and]
    refine ctr_go good _ _ [.tmp 2] Tryz.func77 rfl rfl (by decide +kernel) rfl ?_
    simp only [go_sem, ints, ic, big, frac]
    refine CallP_eq r1 (by decide) ?_
    simp only [go_sem, ints, ic, big, frac]
  case pos =>
  by_cases h2 : rightF t m = true
  case neg =>
    have h2 : rightF t m = false := by simpa using h2
    rw [h1] at r1
    rw [h2] at r2
    rw [fracF, h2, Bool.false_and, Bool.and_false]
    refine ctr_go good _ _ [.tmp 2] Tryz.func77 rfl rfl (by decide +kernel) rfl ?_
    simp only [go_sem, ints, ic, big, frac]
    refine CallP_eq r1 (by decide) ?_
    simp only [go_sem, ints, ic, big, frac]
    refine CallP_eq r2 (by decide) ?_
    simp only [go_sem, ints, ic, big, frac]
  case pos =>
  rw [h1] at r1
  rw [h2] at r2
  by_cases h3 : t = 1
  case neg =>
    have d3 : decide (t = 1) = false := decide_eq_false h3
    rw [fracF, d3, Bool.false_and, Bool.and_false, Bool.and_false]
    refine ctr_go good _ _ [.tmp 2] Tryz.func77 rfl rfl (by decide +kernel) rfl ?_
    simp only [go_sem, ints, ic, big, frac]
    refine CallP_eq r1 (by decide) ?_
    simp only [go_sem, ints, ic, big, frac]
    refine CallP_eq r2 (by decide) ?_
    simp only [d3, go_sem, ints, ic, big, frac]
  case pos =>
  have d3 : decide (t = 1) = true := decide_eq_true h3
  rw [fracF, h1, h2, d3, Bool.true_and, Bool.true_and, Bool.true_and]
  obtain ⟨z, e1, e2⟩ := big_of h1
  obtain ⟨w, e3, e4⟩ := big_of h2
  have hwp : 0 < w.natAbs := by
    have : 0 < w := Int.sign_eq_one_iff_pos.1 (by omega)
    omega
  subst e1 e2 e3 e4
  rw [val_dig, val_dig, Int.toNat_natCast, Int.toNat_natCast]
  have hg := t_pgcd z w hl hm
  have hgl : (dig (Nat.gcd z.natAbs w.natAbs)).length ≤ 50000 := len_mono (Nat.gcd_le_right _ hwp) hm
  have ho := t_one (Nat.gcd z.natAbs w.natAbs : Nat) (by rw [Int.natAbs_natCast]; omega)
  have hci : decide (((Nat.gcd z.natAbs w.natAbs : Nat) : Int) = 1) = decide (Nat.gcd z.natAbs w.natAbs = 1) := by
    rw [decide_eq_decide]; omega
  simp only [big, ints] at hg ho
  refine ctr_go good _ _ [.tmp 2] Tryz.func77 rfl rfl (by decide +kernel) rfl ?_
  simp only [go_sem, ints, ic, big, frac]
  refine CallP_eq r1 (by decide) ?_
  simp only [go_sem, ints, ic, big, frac]
  refine CallP_eq r2 (by decide) ?_
  simp only [d3, go_sem, ints, ic, big, frac]
  refine CallP_eq hg (by decide) ?_
  simp only [go_sem, ints, ic, big, frac]
  refine CallP_eq ho (by decide) ?_
  simp only [hci, go_sem, ints, ic, big, frac]
theorem t_prightf (r : Rat) (lp : (dig r.num.natAbs).length ≤ 50000) (lq : (dig r.den).length ≤ 50000) : Ctr G.P 77 [frac r] (· = .bool true) := by
  have := t_pfright r.num.sign (r.den : Int).sign (dig r.num.natAbs) (dig (r.den : Int).natAbs) lp (by rw [Int.natAbs_natCast]; exact lq)
  rw [right_frac] at this
  exact this
theorem t_ptimes (a b : Int) (la : (dig a.natAbs).length ≤ 100000) (lb : (dig b.natAbs).length ≤ 100000) : Ctr G.P 79 [big a, big b] (· = big (a * b)) := by
  have hm := t_pmulb a b la lb
  refine ctr_go good _ _ [.cell 4 55] Tryz.func79 rfl rfl (by decide +kernel) rfl ?_
  simp only [go_sem, ints, ic, big, frac]
  refine CallP_eq hm (by decide) ?_
  simp only [go_sem, ints, ic, big, frac]
set_option maxRecDepth 100000 in
theorem t_pcmpf (a b : Rat) (h1 : (dig a.num.natAbs).length ≤ 50000) (h2 : (dig a.den).length ≤ 50000) (h3 : (dig b.num.natAbs).length ≤ 50000) (h4 : (dig b.den).length ≤ 50000) : Ctr G.P 26 [frac a, frac b] (· = .int (cmpR a b)) := by
  have ra := t_prightf a h1 h2
  have rb := t_prightf b h3 h4
  have m1 := t_ptimes a.num b.den (by omega) (by rw [Int.natAbs_natCast]; omega)
  have m2 := t_ptimes b.num a.den (by omega) (by rw [Int.natAbs_natCast]; omega)
  have l1 : (dig (a.num * b.den).natAbs).length ≤ 1000000 := by
    rw [Int.natAbs_mul, Int.natAbs_natCast]; have := len_mul h1 h4; omega
  have l2 : (dig (b.num * a.den).natAbs).length ≤ 1000000 := by
    rw [Int.natAbs_mul, Int.natAbs_natCast]; have := len_mul h3 h2; omega
  have hc := t_pcompareb (a.num * b.den) (b.num * a.den) l1 l2
  simp only [big, ints] at m1 m2 hc
  refine ctr_go good _ _ [.tmp 4] Tryz.func26 rfl rfl (by decide +kernel) rfl ?_
  simp only [go_sem, ints, ic, big, frac]
  refine CallP_eq ra (by decide) ?_
  simp only [go_sem, ints, ic, big, frac]
  refine CallP_eq rb (by decide) ?_
  simp only [go_sem, ints, ic, big, frac]
  refine DrawP_of 12 (by decide +kernel) ?_
  simp only [go_sem, ints, ic, big, frac]
  refine CallD_eq m1 (by decide) ?_
  simp only [go_sem, ints, ic, big, frac]
  refine CallD_eq m2 (by decide) ?_
  simp only [go_sem, ints, ic, big, frac]
  refine CallD_eq hc (by decide) ?_
  simp only [cmpR, go_sem, ints, ic, big, frac]
theorem t_psignf (r : Rat) (lp : (dig r.num.natAbs).length ≤ 50000) (lq : (dig r.den).length ≤ 50000) : Ctr G.P 35 [frac r] (· = .int r.num.sign) := by
  have h := t_prightf r lp lq
  refine ctr_go good _ _ [.tmp 2] Tryz.func35 rfl rfl (by decide +kernel) rfl ?_
  simp only [go_sem, ints, ic, big, frac]
  refine CallP_eq h (by decide) ?_
  simp only [go_sem, ints, ic, big, frac]
end Go.Proofs.YtnjkhiafjcajaaaGreat

namespace Go.Proofs.YtnjkhiafjcajaaaGreat
set_option linter.all false
open Go.Abs

end Go.Proofs.YtnjkhiafjcajaaaGreat

namespace Go.Proofs.YtnjkhiafjcajaaaGreat
set_option linter.all false
open Go.Abs

set_option maxRecDepth 100000 in
theorem t_pneg (z : Int) (h : (dig z.natAbs).length ≤ 1000000) : Ctr G.P 115 [big z] (· = big (-z)) := by
  have rz := t_prightb z (by omega)
  have hc := t_clone (dig z.natAbs) (by omega)
  have hs := t_signed (0 - z.sign) (-z) z.natAbs (by rw [Int.natAbs_neg]) (fun _ => by rw [Int.sign_neg]; omega) (by rw [Int.natAbs_neg]; omega)
  have w := i64_ok (n := 0 - z.sign) (by have := sign_le z; omega)
  refine ctr_go good _ _ [.cell 2 55] Tryz.func115 rfl rfl (by decide +kernel) rfl ?_
  simp only [go_sem, ints, ic, big]
  refine CallP_eq rz (by decide) ?_
  simp only [go_sem, ints, ic, big]
  refine DrawS_of (by decide +kernel) ?_
  simp only [w, go_sem, ints, ic, big]
  refine CallD_eq hc (by decide) ?_
  simp only [go_sem, ints, ic, big]
  refine CallD_eq hs (by decide) ?_
  simp only [go_sem, ints, ic, big]
set_option maxRecDepth 100000 in
theorem t_or (a b : Int) : Ctr G.P 123 [.sl [[.int a], [.int b]]] (· = .int (if a = 0 then b else a)) := by
  refine ctr_go good _ _ [.tmp 2] Tryz.func123 rfl rfl (by decide +kernel) rfl ?_
  simp only [go_sem, ints, ic, big]
  refine LoopP_of [3, 6, 7, 8] [] (fun i : Nat => ⟨[(3, .im (.int 0)), (6, .im (.sl [[.int a], [.int b]])), (7, .im (.int 2)), (8, .im (.int i))], [], []⟩)
    (fun i => i ≤ 2 ∧ (1 ≤ i → a = 0) ∧ (2 ≤ i → b = 0)) (fun i => 2 - i) 0 ?_ ⟨by omega, by omega, by omega⟩ ?_
  · simp only [go_sem, ints, ic, big]
  intro i ⟨hi, h1, h2⟩
  match i, hi, h1, h2 with
  | 0, _, _, _ =>
    simp only [go_sem, ints, ic, big]
    refine Two_dec (fun d d' => ?_) (fun d d' => ?_)
    · simp only [d, go_sem, ints, ic, big]
      refine RoundP_of 1 ?_ (by omega) ⟨by omega, fun _ => d', by omega⟩
      simp only [show IntKind.i64.wrap 1 = 1 from by decide, go_sem, ints, ic, big]
    · rw [if_neg d']
      simp only [d, go_sem, ints, ic, big]
  | 1, _, h1, _ =>
    rw [if_pos (h1 (by omega))]
    simp only [go_sem, ints, ic, big]
    refine Two_dec (fun d d' => ?_) (fun d d' => ?_)
    · simp only [d, go_sem, ints, ic, big]
      refine RoundP_of 2 ?_ (by omega) ⟨by omega, fun _ => h1 (by omega), fun _ => d'⟩
      simp only [show IntKind.i64.wrap 2 = 2 from by decide, go_sem, ints, ic, big]
    · simp only [d, go_sem, ints, ic, big]
  | 2, _, h1, h2 =>
    rw [if_pos (h1 (by omega)), h2 (by omega)]
    simp only [go_sem, ints, ic, big]
theorem add_same {a b : Int} (h : 0 ≤ a.sign * b.sign) : a.natAbs + b.natAbs = (a + b).natAbs ∧ (a + b ≠ 0 → (if a.sign = 0 then b.sign else a.sign) = (a + b).sign) := by
  rcases Int.lt_trichotomy a 0 with ha | ha | ha
  · have e1 := Int.sign_eq_neg_one_of_neg ha
    have hb : b ≤ 0 := by
      rcases Int.lt_or_le 0 b with h1 | h1
      · rw [e1, Int.sign_eq_one_of_pos h1] at h; omega
      · exact h1
    refine ⟨by omega, fun _ => ?_⟩
    rw [e1, Int.sign_eq_neg_one_of_neg (show a + b < 0 by omega)]; rfl
  · subst ha
    refine ⟨by simp, fun _ => ?_⟩
    simp
  · have e1 := Int.sign_eq_one_of_pos ha
    have hb : 0 ≤ b := by
      rcases Int.lt_or_le b 0 with h1 | h1
      · rw [e1, Int.sign_eq_neg_one_of_neg h1] at h; omega
      · exact h1
    refine ⟨by omega, fun _ => ?_⟩
    rw [e1, Int.sign_eq_one_of_pos (show 0 < a + b by omega)]; rfl
theorem add_less {a b : Int} (h : ¬ 0 ≤ a.sign * b.sign) (hl : a.natAbs < b.natAbs) : b.natAbs - a.natAbs = (a + b).natAbs ∧ b.sign = (a + b).sign := by
  rcases Int.lt_trichotomy a 0 with ha | ha | ha
  · have e1 := Int.sign_eq_neg_one_of_neg ha
    have hb : 0 < b := by
      rcases Int.lt_or_le 0 b with h1 | h1
      · exact h1
      · rw [e1] at h
        have : b.sign ≤ 0 := by
          rcases Int.lt_or_le b 0 with h2 | h2
          · rw [Int.sign_eq_neg_one_of_neg h2]; omega
          · have : b = 0 := by omega
            subst this; simp
        omega
    refine ⟨by omega, ?_⟩
    rw [Int.sign_eq_one_of_pos hb, Int.sign_eq_one_of_pos (by omega)]
  · subst ha; simp at h
  · have e1 := Int.sign_eq_one_of_pos ha
    have hb : b < 0 := by
      rcases Int.lt_or_le b 0 with h1 | h1
      · exact h1
      · rw [e1] at h
        have : 0 ≤ b.sign := by
          rcases Int.lt_or_le 0 b with h2 | h2
          · rw [Int.sign_eq_one_of_pos h2]; omega
          · have : b = 0 := by omega
            subst this; simp
        omega
    refine ⟨by omega, ?_⟩
    rw [Int.sign_eq_neg_one_of_neg hb, Int.sign_eq_neg_one_of_neg (by omega)]
theorem cmpI_lt {a b : Int} : cmpI a b < 0 ↔ a < b := by
  unfold cmpI; split <;> (try split) <;> omega
set_option maxRecDepth 100000 in
set_option maxHeartbeats 1000000 in
theorem t_paddb (a b : Int) (la : (dig a.natAbs).length ≤ 90000) (lb : (dig b.natAbs).length ≤ 90000) : Ctr G.P 78 [big a, big b] (· = .tup [big (a + b), .int 0]) := by
  have ra := t_prightb a (by omega)
  have rb := t_prightb b (by omega)
  have hc := t_checked (a + b)
  have ls := sign_le a
  have lt := sign_le b
  have w := i64_ok (n := a.sign * b.sign) (by rw [← Int.sign_mul]; have := sign_le (a * b); omega)
  have hlen : (dig (a + b).natAbs).length ≤ 1000000 := by have := len_add (k := 90000) la lb (by omega : (a + b).natAbs ≤ a.natAbs + b.natAbs); omega
  simp only [big, ints] at ra rb hc
  by_cases h1 : 0 ≤ a.sign * b.sign
  · have d1 : decide (0 ≤ a.sign * b.sign) = true := decide_eq_true h1
    obtain ⟨e1, e2⟩ := add_same h1
    have ho := t_or a.sign b.sign
    have ht := t_padd (dig a.natAbs) (dig b.natAbs) (dig_ok _) (dig_ok _) (by omega) (by omega)
    rw [val_dig, val_dig, ← Int.natCast_add, Int.toNat_natCast] at ht
    have hs := t_signed (if a.sign = 0 then b.sign else a.sign) (a + b) (a.natAbs + b.natAbs) e1 e2 hlen
    simp only [big, ints] at ht hs
    generalize (if a.sign = 0 then b.sign else a.sign) = sg at *
    refine ctr_go good _ _ [.cell 4 55, .tmp 5] Tryz.func78 rfl rfl (by decide +kernel) rfl ?_
    simp only [go_sem, ints, ic, big]
    refine CallP_eq ra (by decide) ?_
    simp only [go_sem, ints, ic, big]
    refine CallP_eq rb (by decide) ?_
    simp only [w, d1, go_sem, ints, ic, big]
    refine DrawS_of (by decide +kernel) ?_
    simp only [go_sem, ints, ic, big]
    refine CallD_eq ho (by decide) ?_
    simp only [go_sem, ints, ic, big]
    refine CallD_eq ht (by decide) ?_
    simp only [go_sem, ints, ic, big]
    refine CallD_eq hs (by decide) ?_
    simp only [go_sem, ints, ic, big]
    refine CallD_eq hc (by decide) ?_
    simp only [go_sem, ints, ic, big]
  · have d1 : decide (0 ≤ a.sign * b.sign) = false := decide_eq_false h1
    have hk := t_pcompare a.natAbs b.natAbs (by omega) (by omega)
    by_cases h2 : a.natAbs < b.natAbs
    · have d2 : decide (cmpI (a.natAbs : Int) (b.natAbs : Int) < 0) = true := decide_eq_true (cmpI_lt.2 (by omega))
      obtain ⟨e1, e2⟩ := add_less h1 h2
      have ht := t_psub (dig b.natAbs) (dig a.natAbs) (dig_ok _) (dig_ok _) (by rw [val_dig, val_dig]; omega) (by omega) (by omega)
      rw [val_dig, val_dig, show ((b.natAbs : Int) - (a.natAbs : Int)).toNat = b.natAbs - a.natAbs by omega] at ht
      have hs := t_signed b.sign (a + b) (b.natAbs - a.natAbs) e1 (fun _ => e2) hlen
      simp only [big, ints] at ht hs hk
      refine ctr_go good _ _ [.cell 4 55, .tmp 5] Tryz.func78 rfl rfl (by decide +kernel) rfl ?_
      simp only [go_sem, ints, ic, big]
      refine CallP_eq ra (by decide) ?_
      simp only [go_sem, ints, ic, big]
      refine CallP_eq rb (by decide) ?_
      simp only [w, d1, go_sem, ints, ic, big]
      refine CallP_eq hk (by decide) ?_
      simp only [d2, go_sem, ints, ic, big]
      refine DrawS_of (by decide +kernel) ?_
      simp only [go_sem, ints, ic, big]
      refine CallD_eq ht (by decide) ?_
      simp only [go_sem, ints, ic, big]
      refine CallD_eq hs (by decide) ?_
      simp only [go_sem, ints, ic, big]
      refine CallD_eq hc (by decide) ?_
      simp only [go_sem, ints, ic, big]
    · have d2 : decide (cmpI (a.natAbs : Int) (b.natAbs : Int) < 0) = false := decide_eq_false (fun h => by rw [cmpI_lt] at h; omega)
      have e12 : a.natAbs - b.natAbs = (a + b).natAbs ∧ (a + b ≠ 0 → a.sign = (a + b).sign) := by
        by_cases h3 : a.natAbs = b.natAbs
        · have : a + b = 0 := by
            rcases Int.natAbs_eq_natAbs_iff.1 h3 with h4 | h4
            · subst h4
              refine absurd ?_ h1
              rcases Int.lt_trichotomy a 0 with h5 | h5 | h5
              · rw [Int.sign_eq_neg_one_of_neg h5]; decide
              · rw [h5]; decide
              · rw [Int.sign_eq_one_of_pos h5]; decide
            · omega
          rw [this]; exact ⟨by simp; omega, fun h => absurd rfl h⟩
        · have h5 : ¬ 0 ≤ b.sign * a.sign := by rw [Int.mul_comm]; exact h1
          obtain ⟨f1, f2⟩ := add_less h5 (by omega)
          rw [Int.add_comm] at f1 f2
          exact ⟨f1, fun _ => f2⟩
      have ht := t_psub (dig a.natAbs) (dig b.natAbs) (dig_ok _) (dig_ok _) (by rw [val_dig, val_dig]; omega) (by omega) (by omega)
      rw [val_dig, val_dig, show ((a.natAbs : Int) - (b.natAbs : Int)).toNat = a.natAbs - b.natAbs by omega] at ht
      have hs := t_signed a.sign (a + b) (a.natAbs - b.natAbs) e12.1 e12.2 hlen
      simp only [big, ints] at ht hs hk
      refine ctr_go good _ _ [.cell 4 55, .tmp 5] Tryz.func78 rfl rfl (by decide +kernel) rfl ?_
      simp only [go_sem, ints, ic, big]
      refine CallP_eq ra (by decide) ?_
      simp only [go_sem, ints, ic, big]
      refine CallP_eq rb (by decide) ?_
      simp only [w, d1, go_sem, ints, ic, big]
      refine CallP_eq hk (by decide) ?_
      simp only [d2, go_sem, ints, ic, big]
      refine DrawS_of (by decide +kernel) ?_
      simp only [go_sem, ints, ic, big]
      refine CallD_eq ht (by decide) ?_
      simp only [go_sem, ints, ic, big]
      refine CallD_eq hs (by decide) ?_
      simp only [go_sem, ints, ic, big]
      refine CallD_eq hc (by decide) ?_
      simp only [go_sem, ints, ic, big]
end Go.Proofs.YtnjkhiafjcajaaaGreat

namespace Go.Proofs.YtnjkhiafjcajaaaGreat
set_option linter.all false
open Go.Abs

theorem and20u (n : Int) (h : 0 ≤ n ∧ n < 18446744073709551616) : bits .and .u64 n 1048575 = n % 1048576 := by
  have h2 : bits .and .u64 n 1048575 = IntKind.u64.wrap ((BitVec.ofInt 64 n &&& BitVec.ofInt 64 1048575).toNat : Nat) := rfl
  rw [h2, BitVec.toNat_and, ofInt_toNat, ofInt_toNat, Int.emod_eq_of_lt (by omega) (by omega), show ((1048575 : Int) % 18446744073709551616).toNat = 2 ^ 20 - 1 from rfl, Nat.and_two_pow_sub_one_eq_mod]
  rw [u64_in _ (by omega)]
  omega
set_option maxRecDepth 100000 in
theorem t_signedG (s z : Int) (l : List Int) (hl : OkD l) (hv : val l = z.natAbs) (hs : z ≠ 0 → s = z.sign) (h : l.length ≤ 1000000) : Ctr G.P 122 [.int s, ints l] (· = big z) := by
  have ht := t_ptrim l hl h
  rw [hv, Int.toNat_natCast] at ht
  by_cases hz : z = 0
  · subst hz
    rw [Int.natAbs_zero, dig_zero] at ht
    simp only [big, Int.natAbs_zero, dig_zero, Int.sign_zero]
    refine ctr_go good _ _ [.cell 4 55] Tryz.func122 rfl rfl (by decide +kernel) rfl ?_
    simp only [go_sem, ints, ic, big, mb20, pw20, fd20]
    refine CallP_eq ht (by decide) ?_
    simp only [List.length_nil, Int.natCast_zero, eq_self, List.map_nil, go_sem, ints, ic, big, mb20, pw20, fd20]
  · have hne : decide (((dig z.natAbs).length : Int) = 0) = false := decide_eq_false fun h => by
      have : dig z.natAbs = [] := List.length_eq_zero_iff.1 (by omega)
      rw [dig_nil] at this; omega
    rw [hs hz]
    refine ctr_go good _ _ [.cell 4 55] Tryz.func122 rfl rfl (by decide +kernel) rfl ?_
    simp only [go_sem, ints, ic, big, mb20, pw20, fd20]
    refine CallP_eq ht (by decide) ?_
    simp only [hne, go_sem, ints, ic, big, mb20, pw20, fd20]
theorem of_len' {n : Int} {k : Nat} (hn : n ≠ 0) (h0 : 0 ≤ n) (hk : k ≤ 4) (h : n < 1048576 ^ (4 - k)) : k + 1 ≤ 4 ∧ n / 1048576 < 1048576 ^ (4 - (k + 1)) := of_len hn h0 hk h
set_option maxRecDepth 100000 in
set_option maxHeartbeats 1000000 in
theorem t_pof (z : Int) (hz : -9223372036854775808 ≤ z ∧ z ≤ 9223372036854775807) : Ctr G.P 82 [.int z] (· = big z) := by
  by_cases h0 : z < 0
  · have d1 : decide (z < 0) = true := decide_eq_true h0
    have w1 : IntKind.u64.wrap (0 - IntKind.u64.wrap z) = z.natAbs := by
      rw [IntKind.wrap_u64, IntKind.wrap_u64]; omega
    obtain ⟨sg, hsg, e⟩ : ∃ sg : Int, (z ≠ 0 → sg = z.sign) ∧ sg = -1 := ⟨-1, fun _ => (Int.sign_eq_neg_one_of_neg h0).symm, rfl⟩
    refine ctr_go good _ _ [.cell 2 55] Tryz.func82 rfl rfl (by decide +kernel) rfl ?_
    simp only [d1, w1, go_sem, ints, ic, big, mb20, pw20, fd20]
    rw [← e]
    refine LoopP_ofP [2, 3, 4, 5] [2, 21] [(5, 21, 3, 1)] (fun g : Int × List Int => ⟨[(2, .loc 2 2 0 0), (3, .im (.int sg)), (4, .im (.sc (.int .u64 g.1))), (5, .vec 21 3 1 (g.2.map ic))], [(2, 2, [[.int 0, .sl []]])], [(21, 1, g.2.length)]⟩)
      (fun g => (0 ≤ g.1 ∧ g.1 ≤ z.natAbs) ∧ OkD g.2 ∧ val g.2 + 1048576 ^ g.2.length * g.1 = z.natAbs ∧ (g.2.length ≤ 4 ∧ g.1 < 1048576 ^ (4 - g.2.length))) (fun g => g.1.toNat) ((z.natAbs : Int), []) ?_ ?_ ⟨by dsimp only; omega, OkD.nil, by simp [val], by dsimp only; simp; omega⟩ ?_
    · simp only [go_sem, ints, ic, big, mb20, pw20, fd20]
      simp
    · simp only [List.map_nil, go_sem, ints, ic, big, mb20, pw20, fd20]
    · intro ⟨n, l⟩ ⟨⟨n0, n1⟩, hl, hv, hlen, hlt⟩
      dsimp only at n0 n1 hl hv hlen hlt
      by_cases hn : n = 0
      · subst hn
        rw [Int.mul_zero, Int.add_zero] at hv
        have hm := t_signedG sg z l hl hv hsg (by omega)
        simp only [go_sem, ints, ic, big, mb20, pw20, fd20]
        refine CallP_eq hm (by decide) ?_
        simp only [go_sem, ints, ic, big, mb20, pw20, fd20]
      · have dn : decide (0 < n) = true := decide_eq_true (by omega)
        have ha := and20u n (by omega)
        have hc := i64_ok (n := n % 1048576) (by omega)
        simp only [dn, ha, hc, go_sem, ints, ic, big, mb20, pw20, fd20]
        refine ⟨ic_len _, by simp, by omega, ?_⟩
        refine RoundP_of (n / 1048576, l ++ [n % 1048576]) ?_ (by dsimp only; omega) ⟨by dsimp only; omega, hl.append (OkD.cons (by omega) OkD.nil), of_step hv, by dsimp only; rw [List.length_append, List.length_cons, List.length_nil]; exact of_len hn n0 hlen hlt⟩
        simp only [List.map_append, List.length_append, go_sem, ints, ic, big, mb20, pw20, fd20]
  · have d1 : decide (z < 0) = false := decide_eq_false h0
    have w1 : IntKind.u64.wrap z = z.natAbs := by
      rw [IntKind.wrap_u64]; omega
    obtain ⟨sg, hsg, e⟩ : ∃ sg : Int, (z ≠ 0 → sg = z.sign) ∧ sg = 1 := ⟨1, fun h => (Int.sign_eq_one_of_pos (by omega)).symm, rfl⟩
    refine ctr_go good _ _ [.cell 2 55] Tryz.func82 rfl rfl (by decide +kernel) rfl ?_
    simp only [d1, w1, go_sem, ints, ic, big, mb20, pw20, fd20]
    rw [← e]
    refine LoopP_ofP [2, 3, 4, 5] [2, 21] [(5, 21, 3, 1)] (fun g : Int × List Int => ⟨[(2, .loc 2 2 0 0), (3, .im (.int sg)), (4, .im (.sc (.int .u64 g.1))), (5, .vec 21 3 1 (g.2.map ic))], [(2, 2, [[.int 0, .sl []]])], [(21, 1, g.2.length)]⟩)
      (fun g => (0 ≤ g.1 ∧ g.1 ≤ z.natAbs) ∧ OkD g.2 ∧ val g.2 + 1048576 ^ g.2.length * g.1 = z.natAbs ∧ (g.2.length ≤ 4 ∧ g.1 < 1048576 ^ (4 - g.2.length))) (fun g => g.1.toNat) ((z.natAbs : Int), []) ?_ ?_ ⟨by dsimp only; omega, OkD.nil, by simp [val], by dsimp only; simp; omega⟩ ?_
    · simp only [go_sem, ints, ic, big, mb20, pw20, fd20]
      simp
    · simp only [List.map_nil, go_sem, ints, ic, big, mb20, pw20, fd20]
    · intro ⟨n, l⟩ ⟨⟨n0, n1⟩, hl, hv, hlen, hlt⟩
      dsimp only at n0 n1 hl hv hlen hlt
      by_cases hn : n = 0
      · subst hn
        rw [Int.mul_zero, Int.add_zero] at hv
        have hm := t_signedG sg z l hl hv hsg (by omega)
        simp only [go_sem, ints, ic, big, mb20, pw20, fd20]
        refine CallP_eq hm (by decide) ?_
        simp only [go_sem, ints, ic, big, mb20, pw20, fd20]
      · have dn : decide (0 < n) = true := decide_eq_true (by omega)
        have ha := and20u n (by omega)
        have hc := i64_ok (n := n % 1048576) (by omega)
        simp only [dn, ha, hc, go_sem, ints, ic, big, mb20, pw20, fd20]
        refine ⟨ic_len _, by simp, by omega, ?_⟩
        refine RoundP_of (n / 1048576, l ++ [n % 1048576]) ?_ (by dsimp only; omega) ⟨by dsimp only; omega, hl.append (OkD.cons (by omega) OkD.nil), of_step hv, by dsimp only; rw [List.length_append, List.length_cons, List.length_nil]; exact of_len hn n0 hlen hlt⟩
        simp only [List.map_append, List.length_append, go_sem, ints, ic, big, mb20, pw20, fd20]
end Go.Proofs.YtnjkhiafjcajaaaGreat

namespace Go.Proofs.YtnjkhiafjcajaaaGreat
set_option linter.all false
open Go.Abs

theorem divInt_pos {p q : Int} (hq : 0 < q) : (Rat.divInt p q).num = p / (Nat.gcd p.natAbs q.natAbs : Nat) ∧ ((Rat.divInt p q).den : Int) = q / (Nat.gcd p.natAbs q.natAbs : Nat) := by
  have hg : (Int.gcd q p : Nat) = Nat.gcd p.natAbs q.natAbs := Nat.gcd_comm ..
  constructor
  · rw [Rat.num_divInt, Int.sign_eq_one_of_pos hq, Int.one_mul, hg]
  · rw [Rat.den_divInt, if_neg (by omega), hg, Int.natCast_ediv, Int.natAbs_of_nonneg (by omega)]
set_option maxRecDepth 100000 in
set_option maxHeartbeats 1000000 in
theorem t_new (p q : Int) (hq : q ≠ 0) (lp : (dig p.natAbs).length ≤ 40000) (lq : (dig q.natAbs).length ≤ 40000) : Ctr G.P 108 [big p, big q] (· = .tup [frac (Rat.divInt p q), .int 0]) := by
  have rp := t_rightb p (by omega)
  have rq := t_rightb q (by omega)
  have d0 : decide (q.sign = 0) = false := decide_eq_false fun h => hq (Int.sign_eq_zero_iff_zero.1 h)
  have main : ∀ P Q : Int, 0 < Q → (dig P.natAbs).length ≤ 40000 → (dig Q.natAbs).length ≤ 40000 → Rat.divInt P Q = Rat.divInt p q →
      Ctr G.P 150 [big P, big Q] (· = .tup [big (Nat.gcd P.natAbs Q.natAbs : Nat), .int 0]) ∧
      Ctr G.P 157 [big P, big (Nat.gcd P.natAbs Q.natAbs : Nat)] (· = .tup [big (Rat.divInt p q).num, big 0, .int 0]) ∧
      Ctr G.P 157 [big Q, big (Nat.gcd P.natAbs Q.natAbs : Nat)] (· = .tup [big ((Rat.divInt p q).den : Int), big 0, .int 0]) := by
    intro P Q hQ lP lQ he
    obtain ⟨e1, e2⟩ := divInt_pos (p := P) hQ
    rw [he] at e1 e2
    rw [e1, e2]
    have hgp : Nat.gcd P.natAbs Q.natAbs ≠ 0 := fun h => by have := Nat.eq_zero_of_gcd_eq_zero_right h; omega
    have hgl : (dig (Nat.gcd P.natAbs Q.natAbs)).length ≤ 40000 := len_mono (Nat.le_of_dvd (by omega) (Nat.gcd_dvd_right _ _)) lQ
    refine ⟨t_gcd P Q (by omega) (by omega), t_div P _ (by omega) (by rw [Int.natAbs_natCast]; exact Nat.gcd_dvd_left _ _) (by omega) (by rw [Int.natAbs_natCast]; omega),
      t_div Q _ (by omega) (by rw [Int.natAbs_natCast]; exact Nat.gcd_dvd_right _ _) (by omega) (by rw [Int.natAbs_natCast]; omega)⟩
  rcases Int.lt_or_gt_of_ne hq with hlt | hgt
  · have d1 : decide (q.sign < 0) = true := by rw [Int.sign_eq_neg_one_of_neg hlt]; rfl
    have n1 := t_neg p (by omega)
    have n2 := t_neg q (by omega)
    obtain ⟨hg, hd1, hd2⟩ := main (-p) (-q) (by omega) (by rw [Int.natAbs_neg]; exact lp) (by rw [Int.natAbs_neg]; exact lq) (by have := Rat.divInt_mul_right (n := p) (d := q) (a := -1) (by decide); rwa [Int.mul_neg, Int.mul_neg, Int.mul_one, Int.mul_one] at this)
    simp only [big, frac, ints] at rp rq n1 n2 hg hd1 hd2
    refine ctr_go good _ _ [.cell 4 57, .tmp 5] Tryz.func108 rfl rfl (by decide +kernel) rfl ?_
    simp only [go_sem, ints, ic, big, frac]
    refine CallP_eq rp (by decide) ?_
    simp only [go_sem, ints, ic, big, frac]
    refine CallP_eq rq (by decide) ?_
    simp only [d0, d1, go_sem, ints, ic, big, frac]
    refine CallP_eq n1 (by decide) ?_
    simp only [go_sem, ints, ic, big, frac]
    refine CallP_eq n2 (by decide) ?_
    simp only [go_sem, ints, ic, big, frac]
    refine CallP_eq hg (by decide) ?_
    simp only [go_sem, ints, ic, big, frac]
    refine CallP_eq hd1 (by decide) ?_
    simp only [go_sem, ints, ic, big, frac]
    refine CallP_eq hd2 (by decide) ?_
    simp only [go_sem, ints, ic, big, frac]
  · have d1 : decide (q.sign < 0) = false := by rw [Int.sign_eq_one_of_pos hgt]; rfl
    obtain ⟨hg, hd1, hd2⟩ := main p q hgt lp lq rfl
    simp only [big, frac, ints] at rp rq hg hd1 hd2
    refine ctr_go good _ _ [.cell 4 57, .tmp 5] Tryz.func108 rfl rfl (by decide +kernel) rfl ?_
    simp only [go_sem, ints, ic, big, frac]
    refine CallP_eq rp (by decide) ?_
    simp only [go_sem, ints, ic, big, frac]
    refine CallP_eq rq (by decide) ?_
    simp only [d0, d1, go_sem, ints, ic, big, frac]
    refine CallP_eq hg (by decide) ?_
    simp only [go_sem, ints, ic, big, frac]
    refine CallP_eq hd1 (by decide) ?_
    simp only [go_sem, ints, ic, big, frac]
    refine CallP_eq hd2 (by decide) ?_
    simp only [go_sem, ints, ic, big, frac]
end Go.Proofs.YtnjkhiafjcajaaaGreat

namespace Go.Proofs.YtnjkhiafjcajaaaGreat
set_option linter.all false
open Go.Abs

theorem i64_len {z : Int} (h : -9223372036854775808 ≤ z ∧ z ≤ 9223372036854775807) : (dig z.natAbs).length ≤ 4 := dig_len_le (by omega)
theorem t_off (p q : Int) (hq : q ≠ 0) (hp : -9223372036854775808 ≤ p ∧ p ≤ 9223372036854775807) (hq' : -9223372036854775808 ≤ q ∧ q ≤ 9223372036854775807) :
    Ctr G.P 104 [.int p, .int q] (· = .tup [frac (Rat.divInt p q), .int 0]) := by
  have h1 := t_of p hp
  have h2 := t_of q hq'
  have h3 := t_new p q hq (by have := i64_len hp; omega) (by have := i64_len hq'; omega)
  simp only [big, frac, ints] at h1 h2 h3
  refine ctr_go good _ _ [.cell 4 57, .tmp 5] Tryz.func104 rfl rfl (by decide +kernel) rfl ?_
  simp only [go_sem, ints, ic, big, frac]
  refine CallP_eq h1 (by decide) ?_
  simp only [go_sem, ints, ic, big, frac]
  refine CallP_eq h2 (by decide) ?_
  simp only [go_sem, ints, ic, big, frac]
  refine CallP_eq h3 (by decide) ?_
  simp only [go_sem, ints, ic, big, frac]
theorem t_intf (n : Int) (hn : -9223372036854775808 ≤ n ∧ n ≤ 9223372036854775807) : Ctr G.P 63 [.int n] (· = frac (Rat.divInt n 1)) := by
  have h := t_off n 1 (by omega) hn (by omega)
  simp only [frac, ints] at h
  refine ctr_go good _ _ [.cell 2 57] Tryz.func63 rfl rfl (by decide +kernel) rfl ?_
  simp only [go_sem, ints, ic, big, frac]
  refine CallP_eq h (by decide) ?_
  simp only [go_sem, ints, ic, big, frac]
theorem frac_neg (r : Rat) : frac (-r) = .agg [.int (-r.num).sign, ints (dig (-r.num).natAbs), .int (r.den : Int).sign, ints (dig (r.den : Int).natAbs)] := by
  have h1 : (-r).num = -r.num := rfl
  have h2 : (-r).den = r.den := rfl
  rw [frac, h1, h2]
end Go.Proofs.YtnjkhiafjcajaaaGreat

namespace Go.Proofs.YtnjkhiafjcajaaaGreat
set_option linter.all false
open Go.Abs

theorem dig_mul_le {a b : Int} {k m : Nat} (ha : (dig a.natAbs).length ≤ k) (hb : (dig b.natAbs).length ≤ m) : (dig (a * b).natAbs).length ≤ k + m := by
  rw [Int.natAbs_mul]; exact len_mul ha hb
theorem den_ne (a : Rat) : (a.den : Int) ≠ 0 := by have := a.den_nz; omega
theorem divInt_sub (a b : Rat) : Rat.divInt (a.num * b.den - b.num * a.den) (a.den * b.den) = a - b := by
  rw [← Rat.divInt_sub_divInt _ _ (den_ne a) (den_ne b), Rat.num_divInt_den, Rat.num_divInt_den]
theorem len_sub {a b : Int} {k : Nat} (ha : (dig a.natAbs).length ≤ k) (hb : (dig b.natAbs).length ≤ k) : (dig (a - b).natAbs).length ≤ k + 1 := len_add ha hb (by omega)
end Go.Proofs.YtnjkhiafjcajaaaGreat

namespace Go.Proofs.YtnjkhiafjcajaaaGreat
set_option linter.all false
open Go.Abs

set_option maxRecDepth 100000 in
set_option maxHeartbeats 1000000 in
theorem t_pnew (p q : Int) (hq : q ≠ 0) (lp : (dig p.natAbs).length ≤ 40000) (lq : (dig q.natAbs).length ≤ 40000) : Ctr G.P 80 [big p, big q] (· = .tup [frac (Rat.divInt p q), .int 0]) := by
  have rp := t_prightb p (by omega)
  have rq := t_prightb q (by omega)
  have d0 : decide (q.sign = 0) = false := decide_eq_false fun h => hq (Int.sign_eq_zero_iff_zero.1 h)
  have main : ∀ P Q : Int, 0 < Q → (dig P.natAbs).length ≤ 40000 → (dig Q.natAbs).length ≤ 40000 → Rat.divInt P Q = Rat.divInt p q →
      Ctr G.P 119 [big P, big Q] (· = .tup [big (Nat.gcd P.natAbs Q.natAbs : Nat), .int 0]) ∧
      Ctr G.P 128 [big P, big (Nat.gcd P.natAbs Q.natAbs : Nat)] (· = .tup [big (Rat.divInt p q).num, big (P.fmod (Nat.gcd P.natAbs Q.natAbs : Nat)), .int 0]) ∧
      Ctr G.P 128 [big Q, big (Nat.gcd P.natAbs Q.natAbs : Nat)] (· = .tup [big ((Rat.divInt p q).den : Int), big (Q.fmod (Nat.gcd P.natAbs Q.natAbs : Nat)), .int 0]) := by
    intro P Q hQ lP lQ he
    obtain ⟨e1, e2⟩ := divInt_pos (p := P) hQ
    rw [he] at e1 e2
    rw [e1, e2]
    have hgp : Nat.gcd P.natAbs Q.natAbs ≠ 0 := fun h => by have := Nat.eq_zero_of_gcd_eq_zero_right h; omega
    have hgl : (dig (Nat.gcd P.natAbs Q.natAbs)).length ≤ 40000 := len_mono (Nat.le_of_dvd (by omega) (Nat.gcd_dvd_right _ _)) lQ
    have k1 := t_pdivb P (Nat.gcd P.natAbs Q.natAbs : Nat) (by omega) (by omega) (by rw [Int.natAbs_natCast]; omega)
    have k2 := t_pdivb Q (Nat.gcd P.natAbs Q.natAbs : Nat) (by omega) (by omega) (by rw [Int.natAbs_natCast]; omega)
    rw [Int.fdiv_eq_ediv_of_nonneg _ (by omega)] at k1 k2
    exact ⟨t_pgcd P Q (by omega) (by omega), k1, k2⟩
  rcases Int.lt_or_gt_of_ne hq with hlt | hgt
  · have d1 : decide (q.sign < 0) = true := by rw [Int.sign_eq_neg_one_of_neg hlt]; rfl
    have n1 := t_pneg p (by omega)
    have n2 := t_pneg q (by omega)
    obtain ⟨hg, hd1, hd2⟩ := main (-p) (-q) (by omega) (by rw [Int.natAbs_neg]; exact lp) (by rw [Int.natAbs_neg]; exact lq) (by have := Rat.divInt_mul_right (n := p) (d := q) (a := -1) (by decide); rwa [Int.mul_neg, Int.mul_neg, Int.mul_one, Int.mul_one] at this)
    simp only [big, frac, ints] at rp rq n1 n2 hg hd1 hd2
    refine ctr_go good _ _ [.cell 4 57, .tmp 5] Tryz.func80 rfl rfl (by decide +kernel) rfl ?_
    simp only [go_sem, ints, ic, big, frac]
    refine CallP_eq rp (by decide) ?_
    simp only [go_sem, ints, ic, big, frac]
    refine CallP_eq rq (by decide) ?_
    simp only [d0, d1, go_sem, ints, ic, big, frac]
    refine DrawS_of (by decide +kernel) ?_
    simp only [go_sem, ints, ic, big, frac]
    refine CallD_eq n1 (by decide) ?_
    simp only [go_sem, ints, ic, big, frac]
    refine CallD_eq n2 (by decide) ?_
    simp only [go_sem, ints, ic, big, frac]
    refine CallP_eq hg (by decide) ?_
    simp only [go_sem, ints, ic, big, frac]
    refine CallP_eq hd1 (by decide) ?_
    simp only [go_sem, ints, ic, big, frac]
    refine CallP_eq hd2 (by decide) ?_
    simp only [go_sem, ints, ic, big, frac]
  · have d1 : decide (q.sign < 0) = false := by rw [Int.sign_eq_one_of_pos hgt]; rfl
    obtain ⟨hg, hd1, hd2⟩ := main p q hgt lp lq rfl
    simp only [big, frac, ints] at rp rq hg hd1 hd2
    refine ctr_go good _ _ [.cell 4 57, .tmp 5] Tryz.func80 rfl rfl (by decide +kernel) rfl ?_
    simp only [go_sem, ints, ic, big, frac]
    refine CallP_eq rp (by decide) ?_
    simp only [go_sem, ints, ic, big, frac]
    refine CallP_eq rq (by decide) ?_
    simp only [d0, d1, go_sem, ints, ic, big, frac]
    refine CallP_eq hg (by decide) ?_
    simp only [go_sem, ints, ic, big, frac]
    refine CallP_eq hd1 (by decide) ?_
    simp only [go_sem, ints, ic, big, frac]
    refine CallP_eq hd2 (by decide) ?_
    simp only [go_sem, ints, ic, big, frac]
theorem len_int {p : Int} (hp : -9223372036854775808 ≤ p ∧ p ≤ 9223372036854775807) : (dig p.natAbs).length ≤ 4 := dig_len_le (by omega)
set_option maxRecDepth 100000 in
theorem t_poff (p q : Int) (hq : q ≠ 0) (hp : -9223372036854775808 ≤ p ∧ p ≤ 9223372036854775807) (hq' : -9223372036854775808 ≤ q ∧ q ≤ 9223372036854775807) :
    Ctr G.P 114 [.int p, .int q] (· = .tup [frac (Rat.divInt p q), .int 0]) := by
  have o1 := t_pof p hp
  have o2 := t_pof q hq'
  have hn := t_pnew p q hq (by have := len_int hp; omega) (by have := len_int hq'; omega)
  simp only [big, frac, ints] at o1 o2 hn
  refine ctr_go good _ _ [.cell 4 57, .tmp 5] Tryz.func114 rfl rfl (by decide +kernel) rfl ?_
  simp only [go_sem, ints, ic, big, frac]
  refine CallP_eq o1 (by decide) ?_
  simp only [go_sem, ints, ic, big, frac]
  refine CallP_eq o2 (by decide) ?_
  simp only [go_sem, ints, ic, big, frac]
  refine CallP_eq hn (by decide) ?_
  simp only [go_sem, ints, ic, big, frac]
set_option maxRecDepth 100000 in
theorem t_pintf (n : Int) (hn : -9223372036854775808 ≤ n ∧ n ≤ 9223372036854775807) : Ctr G.P 25 [.int n] (· = frac (n : Rat)) := by
  have o1 := t_pof n hn
  have o2 := t_pof 1 (by omega)
  have e1 : ((n : Rat)).num = n := rfl
  have e2 : ((n : Rat)).den = 1 := rfl
  simp only [big, frac, ints, e1, e2] at o1 o2 ⊢
  refine ctr_go good _ _ [.cell 2 57] Tryz.func25 rfl rfl (by decide +kernel) rfl ?_
  simp only [go_sem, ints, ic, big, frac]
  refine CallP_eq o1 (by decide) ?_
  simp only [go_sem, ints, ic, big, frac]
  refine CallP_eq o2 (by decide) ?_
  simp only [go_sem, ints, ic, big, frac]
theorem divInt_add' (a b : Rat) : Rat.divInt (a.num * b.den + b.num * a.den) (a.den * b.den) = a + b := by
  rw [← Rat.divInt_add_divInt _ _ (den_ne a) (den_ne b), Rat.num_divInt_den, Rat.num_divInt_den]
theorem divInt_mul' (a b : Rat) : Rat.divInt (a.num * b.num) (a.den * b.den) = a * b := by
  rw [← Rat.divInt_mul_divInt, Rat.num_divInt_den, Rat.num_divInt_den]
theorem len_add' {a b : Int} {k : Nat} (ha : (dig a.natAbs).length ≤ k) (hb : (dig b.natAbs).length ≤ k) : (dig (a + b).natAbs).length ≤ k + 1 := len_add ha hb (by omega)
set_option maxRecDepth 100000 in
set_option maxHeartbeats 1000000 in
theorem t_paddf (a b : Rat) (ap : (dig a.num.natAbs).length ≤ 19000) (aq : (dig a.den).length ≤ 19000) (bp : (dig b.num.natAbs).length ≤ 19000) (bq : (dig b.den).length ≤ 19000) :
    Ctr G.P 23 [frac a, frac b] (· = .tup [frac (a + b), .int 0]) := by
  have ra := t_prightf a (by omega) (by omega)
  have rb := t_prightf b (by omega) (by omega)
  have bq' : (dig (b.den : Int).natAbs).length ≤ 19000 := by rw [Int.natAbs_natCast]; exact bq
  have aq' : (dig (a.den : Int).natAbs).length ≤ 19000 := by rw [Int.natAbs_natCast]; exact aq
  have m1 := t_ptimes a.num b.den (by omega) (by omega)
  have m2 := t_ptimes b.num a.den (by omega) (by omega)
  have m3 := t_ptimes a.den b.den (by omega) (by omega)
  have l1 := dig_mul_le ap bq'
  have l2 := dig_mul_le bp aq'
  have l3 := dig_mul_le aq' bq'
  have hs := t_paddb (a.num * b.den) (b.num * a.den) (by omega) (by omega)
  have hn := t_pnew (a.num * b.den + b.num * a.den) (a.den * b.den) (Int.mul_ne_zero (den_ne a) (den_ne b)) (by have := len_add' (k := 38000) (a := a.num * b.den) (b := b.num * a.den) (by omega) (by omega); omega) (by omega)
  rw [divInt_add'] at hn
  simp only [big, frac, ints] at ra rb m1 m2 m3 hs hn
  refine ctr_go good _ _ [.cell 4 57, .tmp 5] Tryz.func23 rfl rfl (by decide +kernel) rfl ?_
  simp only [go_sem, ints, ic, big, frac]
  refine CallP_eq ra (by decide) ?_
  simp only [go_sem, ints, ic, big, frac]
  refine CallP_eq rb (by decide) ?_
  simp only [go_sem, ints, ic, big, frac]
  refine DrawS_of (by decide +kernel) ?_
  simp only [go_sem, ints, ic, big, frac]
  refine CallD_eq m1 (by decide) ?_
  simp only [go_sem, ints, ic, big, frac]
  refine CallD_eq m2 (by decide) ?_
  simp only [go_sem, ints, ic, big, frac]
  refine CallD_eq hs (by decide) ?_
  simp only [go_sem, ints, ic, big, frac]
  refine DrawS_of (by decide +kernel) ?_
  simp only [go_sem, ints, ic, big, frac]
  refine CallD_eq m3 (by decide) ?_
  simp only [go_sem, ints, ic, big, frac]
  refine CallD_eq hn (by decide) ?_
  simp only [go_sem, ints, ic, big, frac]
set_option maxRecDepth 100000 in
set_option maxHeartbeats 1000000 in
theorem t_psubf (a b : Rat) (ap : (dig a.num.natAbs).length ≤ 19000) (aq : (dig a.den).length ≤ 19000) (bp : (dig b.num.natAbs).length ≤ 19000) (bq : (dig b.den).length ≤ 19000) :
    Ctr G.P 74 [frac a, frac b] (· = .tup [frac (a - b), .int 0]) := by
  have ra := t_prightf a (by omega) (by omega)
  have rb := t_prightf b (by omega) (by omega)
  have hn := t_pneg b.num (by omega)
  have hs := t_paddf a (-b) ap aq (by rw [show (-b).num = -b.num from rfl, Int.natAbs_neg]; exact bp) bq
  have e : a + -b = a - b := by grind
  rw [e] at hs
  simp only [big, frac, ints, show (-b).num = -b.num from rfl, show (-b).den = b.den from rfl] at ra rb hn hs
  refine ctr_go good _ _ [.cell 4 57, .tmp 5] Tryz.func74 rfl rfl (by decide +kernel) rfl ?_
  simp only [go_sem, ints, ic, big, frac]
  refine CallP_eq ra (by decide) ?_
  simp only [go_sem, ints, ic, big, frac]
  refine CallP_eq rb (by decide) ?_
  simp only [go_sem, ints, ic, big, frac]
  refine DrawS_of (by decide +kernel) ?_
  simp only [go_sem, ints, ic, big, frac]
  refine CallD_eq hn (by decide) ?_
  simp only [go_sem, ints, ic, big, frac]
  refine CallD_eq hs (by decide) ?_
  simp only [go_sem, ints, ic, big, frac]
end Go.Proofs.YtnjkhiafjcajaaaGreat

namespace Go.Proofs.YtnjkhiafjcajaaaGreat
set_option linter.all false
open Go.Abs

set_option maxRecDepth 100000 in
set_option maxHeartbeats 1000000 in
theorem t_pmulf (a b : Rat) (ap : (dig a.num.natAbs).length ≤ 19000) (aq : (dig a.den).length ≤ 19000) (bp : (dig b.num.natAbs).length ≤ 19000) (bq : (dig b.den).length ≤ 19000) :
    Ctr G.P 89 [frac a, frac b] (· = .tup [frac (a * b), .int 0]) := by
  have ra := t_prightf a (by omega) (by omega)
  have rb := t_prightf b (by omega) (by omega)
  have bq' : (dig (b.den : Int).natAbs).length ≤ 19000 := by rw [Int.natAbs_natCast]; exact bq
  have aq' : (dig (a.den : Int).natAbs).length ≤ 19000 := by rw [Int.natAbs_natCast]; exact aq
  have m1 := t_ptimes a.num b.num (by omega) (by omega)
  have m2 := t_ptimes a.den b.den (by omega) (by omega)
  have l1 := dig_mul_le ap bp
  have l2 := dig_mul_le aq' bq'
  have hn := t_pnew (a.num * b.num) (a.den * b.den) (Int.mul_ne_zero (den_ne a) (den_ne b)) (by omega) (by omega)
  rw [divInt_mul'] at hn
  simp only [big, frac, ints] at ra rb m1 m2 hn
  refine ctr_go good _ _ [.cell 4 57, .tmp 5] Tryz.func89 rfl rfl (by decide +kernel) rfl ?_
  simp only [go_sem, ints, ic, big, frac]
  refine CallP_eq ra (by decide) ?_
  simp only [go_sem, ints, ic, big, frac]
  refine CallP_eq rb (by decide) ?_
  simp only [go_sem, ints, ic, big, frac]
  refine DrawS_of (by decide +kernel) ?_
  simp only [go_sem, ints, ic, big, frac]
  refine CallD_eq m1 (by decide) ?_
  simp only [go_sem, ints, ic, big, frac]
  refine CallD_eq m2 (by decide) ?_
  simp only [go_sem, ints, ic, big, frac]
  refine CallD_eq hn (by decide) ?_
  simp only [go_sem, ints, ic, big, frac]
theorem num_ne {b : Rat} (h : b ≠ 0) : b.num ≠ 0 := fun e => h (Rat.num_eq_zero.1 e)
theorem divInt_div' (a b : Rat) (h : b ≠ 0) : Rat.divInt (a.num * b.den) (a.den * b.num) = a / b := by
  have e : b⁻¹ = Rat.divInt b.den b.num := by
    conv => lhs; rw [← Rat.num_divInt_den b]
    rw [Rat.inv_divInt]
  rw [Rat.div_def, e, ← Rat.divInt_mul_divInt, Rat.num_divInt_den]
set_option maxRecDepth 100000 in
set_option maxHeartbeats 1000000 in
theorem t_pdivf (a b : Rat) (h : b ≠ 0) (ap : (dig a.num.natAbs).length ≤ 19000) (aq : (dig a.den).length ≤ 19000) (bp : (dig b.num.natAbs).length ≤ 19000) (bq : (dig b.den).length ≤ 19000) :
    Ctr G.P 206 [frac a, frac b] (· = .tup [frac (a / b), .int 0]) := by
  have ra := t_prightf a (by omega) (by omega)
  have rb := t_prightf b (by omega) (by omega)
  have bq' : (dig (b.den : Int).natAbs).length ≤ 19000 := by rw [Int.natAbs_natCast]; exact bq
  have aq' : (dig (a.den : Int).natAbs).length ≤ 19000 := by rw [Int.natAbs_natCast]; exact aq
  have m1 := t_ptimes a.num b.den (by omega) (by omega)
  have m2 := t_ptimes a.den b.num (by omega) (by omega)
  have l1 := dig_mul_le ap bq'
  have l2 := dig_mul_le aq' bp
  have hn := t_pnew (a.num * b.den) (a.den * b.num) (Int.mul_ne_zero (den_ne a) (num_ne h)) (by omega) (by omega)
  rw [divInt_div' a b h] at hn
  have d0 : decide (b.num.sign = 0) = false := decide_eq_false fun e => num_ne h (Int.sign_eq_zero_iff_zero.1 e)
  simp only [big, frac, ints] at ra rb m1 m2 hn
  refine ctr_go good _ _ [.cell 4 57, .tmp 5] Tryz.func206 rfl rfl (by decide +kernel) rfl ?_
  simp only [go_sem, ints, ic, big, frac]
  refine CallP_eq ra (by decide) ?_
  simp only [go_sem, ints, ic, big, frac]
  refine CallP_eq rb (by decide) ?_
  simp only [go_sem, ints, ic, big, frac]
  simp only [d0, go_sem, ints, ic, big, frac]
  refine DrawS_of (by decide +kernel) ?_
  simp only [go_sem, ints, ic, big, frac]
  refine CallD_eq m1 (by decide) ?_
  simp only [go_sem, ints, ic, big, frac]
  refine CallD_eq m2 (by decide) ?_
  simp only [go_sem, ints, ic, big, frac]
  refine CallD_eq hn (by decide) ?_
  simp only [go_sem, ints, ic, big, frac]
set_option maxRecDepth 100000 in
theorem t_slim (z : Int) (h : (dig z.natAbs).length ≤ 1000000) : Ctr G.P 143 [big z] (· = big z) := by
  have n1 := t_pneg z h
  have n2 := t_pneg (-z) (by rw [Int.natAbs_neg]; exact h)
  rw [Int.neg_neg] at n2
  simp only [big, ints] at n1 n2
  refine ctr_go good _ _ [.cell 2 55] Tryz.func143 rfl rfl (by decide +kernel) rfl ?_
  simp only [go_sem, ints, ic, big, frac]
  refine CallP_eq n1 (by decide) ?_
  simp only [go_sem, ints, ic, big, frac]
  refine CallP_eq n2 (by decide) ?_
  simp only [go_sem, ints, ic, big, frac]
set_option maxRecDepth 100000 in
theorem t_pnegf (a : Rat) (ap : (dig a.num.natAbs).length ≤ 50000) (aq : (dig a.den).length ≤ 50000) : Ctr G.P 93 [frac a] (· = frac (-a)) := by
  have ra := t_prightf a (by omega) (by omega)
  have n1 := t_pneg a.num (by omega)
  have n2 := t_slim a.den (by rw [Int.natAbs_natCast]; omega)
  simp only [big, frac, ints, show (-a).num = -a.num from rfl, show (-a).den = a.den from rfl] at ra n1 n2 ⊢
  refine ctr_go good _ _ [.cell 2 57] Tryz.func93 rfl rfl (by decide +kernel) rfl ?_
  simp only [go_sem, ints, ic, big, frac]
  refine CallP_eq ra (by decide) ?_
  simp only [go_sem, ints, ic, big, frac]
  refine DrawS_of (by decide +kernel) ?_
  simp only [go_sem, ints, ic, big, frac]
  refine CallD_eq n1 (by decide) ?_
  simp only [go_sem, ints, ic, big, frac]
  refine CallD_eq n2 (by decide) ?_
  simp only [go_sem, ints, ic, big, frac]
set_option maxRecDepth 100000 in
set_option maxHeartbeats 1000000 in
theorem t_pmaxf (a b : Rat) (ap : (dig a.num.natAbs).length ≤ 50000) (aq : (dig a.den).length ≤ 50000) (bp : (dig b.num.natAbs).length ≤ 50000) (bq : (dig b.den).length ≤ 50000) :
    Ctr G.P 75 [frac a, frac b] (· = .tup [frac (if a < b then b else a), .int 0]) := by
  have ra := t_prightf a (by omega) (by omega)
  have rb := t_prightf b (by omega) (by omega)
  have hc := t_pcmpf a b (by omega) (by omega) (by omega) (by omega)
  have s1 := t_slim a.num (by omega)
  have s2 := t_slim a.den (by rw [Int.natAbs_natCast]; omega)
  have s3 := t_slim b.num (by omega)
  have s4 := t_slim b.den (by rw [Int.natAbs_natCast]; omega)
  have he : Ctr G.P 116 [frac a, frac b, .int 1] (· = .tup [frac (if a < b then b else a), .int 0]) := by
    have hle : -1 ≤ cmpR a b ∧ cmpR a b ≤ 1 := by unfold cmpR; exact cmpI_le _ _
    have w := i64_ok (n := cmpR a b * 1) (by omega)
    by_cases h : a < b
    · have d : decide (cmpR a b * 1 < 0) = true := decide_eq_true (by rw [Int.mul_one]; exact cmpR_neg.2 h)
      rw [if_pos h]
      simp only [big, frac, ints] at ra rb hc s3 s4
      refine ctr_go good _ _ [.cell 6 57, .tmp 7] Tryz.func116 rfl rfl (by decide +kernel) rfl ?_
      simp only [go_sem, ints, ic, big, frac]
      refine CallP_eq ra (by decide) ?_
      simp only [go_sem, ints, ic, big, frac]
      refine CallP_eq rb (by decide) ?_
      simp only [go_sem, ints, ic, big, frac]
      refine CallP_eq hc (by decide) ?_
      simp only [w, d, go_sem, ints, ic, big, frac]
      refine DrawS_of (by decide +kernel) ?_
      simp only [go_sem, ints, ic, big, frac]
      refine CallD_eq s3 (by decide) ?_
      simp only [go_sem, ints, ic, big, frac]
      refine CallD_eq s4 (by decide) ?_
      simp only [go_sem, ints, ic, big, frac]
    · have d : decide (cmpR a b * 1 < 0) = false := decide_eq_false (by rw [Int.mul_one]; exact fun e => h (cmpR_neg.1 e))
      rw [if_neg h]
      simp only [big, frac, ints] at ra rb hc s1 s2
      refine ctr_go good _ _ [.cell 6 57, .tmp 7] Tryz.func116 rfl rfl (by decide +kernel) rfl ?_
      simp only [go_sem, ints, ic, big, frac]
      refine CallP_eq ra (by decide) ?_
      simp only [go_sem, ints, ic, big, frac]
      refine CallP_eq rb (by decide) ?_
      simp only [go_sem, ints, ic, big, frac]
      refine CallP_eq hc (by decide) ?_
      simp only [w, d, go_sem, ints, ic, big, frac]
      refine DrawS_of (by decide +kernel) ?_
      simp only [go_sem, ints, ic, big, frac]
      refine CallD_eq s1 (by decide) ?_
      simp only [go_sem, ints, ic, big, frac]
      refine CallD_eq s2 (by decide) ?_
      simp only [go_sem, ints, ic, big, frac]
  generalize (if a < b then b else a) = c at *
  simp only [big, frac, ints] at he
  refine ctr_go good _ _ [.cell 4 57, .tmp 5] Tryz.func75 rfl rfl (by decide +kernel) rfl ?_
  simp only [go_sem, ints, ic, big, frac]
  refine CallP_eq he (by decide) ?_
  simp only [go_sem, ints, ic, big, frac]
end Go.Proofs.YtnjkhiafjcajaaaGreat

namespace Go.Proofs.YtnjkhiafjcajaaaGreat
set_option linter.all false
open Go.Abs

/-- At most k digits in each part. -/
def FL (k : Nat) (r : Rat) : Prop := (dig r.num.natAbs).length ≤ k ∧ (dig r.den).length ≤ k
theorem FL.mono {k m : Nat} {r : Rat} (h : FL k r) (hk : k ≤ m) : FL m r := ⟨Nat.le_trans h.1 hk, Nat.le_trans h.2 hk⟩
theorem FL_divInt {p q : Int} {k : Nat} (hq : q ≠ 0) (hp : (dig p.natAbs).length ≤ k) (hq' : (dig q.natAbs).length ≤ k) : FL k (Rat.divInt p q) := by
  have main : ∀ P Q : Int, 0 < Q → (dig P.natAbs).length ≤ k → (dig Q.natAbs).length ≤ k → FL k (Rat.divInt P Q) := by
    intro P Q hQ h1 h2
    obtain ⟨e1, e2⟩ := divInt_pos (p := P) hQ
    have hg : 0 < Nat.gcd P.natAbs Q.natAbs := Nat.gcd_pos_of_pos_right _ (by omega)
    refine ⟨len_mono ?_ h1, len_mono ?_ h2⟩
    · rw [e1]
      exact Int.natAbs_ediv_le_natAbs _ _
    · have h3 : (Rat.divInt P Q).den = ((Rat.divInt P Q).den : Int).natAbs := (Int.natAbs_natCast _).symm
      rw [h3, e2]
      exact Int.natAbs_ediv_le_natAbs _ _
  rcases Int.lt_or_gt_of_ne hq with h | h
  · have := main (-p) (-q) (by omega) (by rw [Int.natAbs_neg]; exact hp) (by rw [Int.natAbs_neg]; exact hq')
    have e := Rat.divInt_mul_right (n := p) (d := q) (a := -1) (by decide)
    rw [Int.mul_neg, Int.mul_neg, Int.mul_one, Int.mul_one] at e
    rwa [e] at this
  · exact main p q h hp hq'
theorem FL_int {n : Int} {k : Nat} (h : (dig n.natAbs).length ≤ k) (hk : 1 ≤ k) : FL k (n : Rat) := by
  refine ⟨h, ?_⟩
  have := dig_len_le (n := 1) (k := 1) (by omega)
  show (dig 1).length ≤ k
  omega
theorem FL_small {n : Int} (h : -9223372036854775808 ≤ n ∧ n ≤ 9223372036854775807) : FL 4 (n : Rat) := FL_int (len_int h) (by omega)
theorem FL_add {a b : Rat} {k m : Nat} (ha : FL k a) (hb : FL m b) : FL (k + m + 1) (a + b) := by
  rw [← divInt_add']
  have h1 : (dig (b.den : Int).natAbs).length ≤ m := by rw [Int.natAbs_natCast]; exact hb.2
  have h2 : (dig (a.den : Int).natAbs).length ≤ k := by rw [Int.natAbs_natCast]; exact ha.2
  have l1 := dig_mul_le ha.1 h1
  have l2 := dig_mul_le hb.1 h2
  have l3 := dig_mul_le h2 h1
  exact FL_divInt (Int.mul_ne_zero (den_ne a) (den_ne b)) (len_add' l1 (by omega)) (by omega)
theorem FL_mul {a b : Rat} {k m : Nat} (ha : FL k a) (hb : FL m b) : FL (k + m) (a * b) := by
  rw [← divInt_mul']
  have h1 : (dig (b.den : Int).natAbs).length ≤ m := by rw [Int.natAbs_natCast]; exact hb.2
  have h2 : (dig (a.den : Int).natAbs).length ≤ k := by rw [Int.natAbs_natCast]; exact ha.2
  exact FL_divInt (Int.mul_ne_zero (den_ne a) (den_ne b)) (dig_mul_le ha.1 hb.1) (dig_mul_le h2 h1)
theorem FL_neg {a : Rat} {k : Nat} (ha : FL k a) : FL k (-a) := ⟨by rw [show (-a).num = -a.num from rfl, Int.natAbs_neg]; exact ha.1, ha.2⟩
theorem FL_sub {a b : Rat} {k m : Nat} (ha : FL k a) (hb : FL m b) : FL (k + m + 1) (a - b) := by
  have e : a - b = a + -b := by grind
  rw [e]; exact FL_add ha (FL_neg hb)
theorem f_add {a b : Rat} (ha : FL 19000 a) (hb : FL 19000 b) : Ctr G.P 23 [frac a, frac b] (· = .tup [frac (a + b), .int 0]) := t_paddf a b ha.1 ha.2 hb.1 hb.2
theorem f_sub {a b : Rat} (ha : FL 19000 a) (hb : FL 19000 b) : Ctr G.P 74 [frac a, frac b] (· = .tup [frac (a - b), .int 0]) := t_psubf a b ha.1 ha.2 hb.1 hb.2
theorem f_mul {a b : Rat} (ha : FL 19000 a) (hb : FL 19000 b) : Ctr G.P 89 [frac a, frac b] (· = .tup [frac (a * b), .int 0]) := t_pmulf a b ha.1 ha.2 hb.1 hb.2
theorem f_div {a b : Rat} (h : b ≠ 0) (ha : FL 19000 a) (hb : FL 19000 b) : Ctr G.P 206 [frac a, frac b] (· = .tup [frac (a / b), .int 0]) := t_pdivf a b h ha.1 ha.2 hb.1 hb.2
theorem f_neg {a : Rat} (ha : FL 19000 a) : Ctr G.P 93 [frac a] (· = frac (-a)) := t_pnegf a (by have := ha.1; omega) (by have := ha.2; omega)
theorem f_cmp {a b : Rat} (ha : FL 19000 a) (hb : FL 19000 b) : Ctr G.P 26 [frac a, frac b] (· = .int (cmpR a b)) := t_pcmpf a b (by have := ha.1; omega) (by have := ha.2; omega) (by have := hb.1; omega) (by have := hb.2; omega)
theorem f_max {a b : Rat} (ha : FL 19000 a) (hb : FL 19000 b) : Ctr G.P 75 [frac a, frac b] (· = .tup [frac (if a < b then b else a), .int 0]) := t_pmaxf a b (by have := ha.1; omega) (by have := ha.2; omega) (by have := hb.1; omega) (by have := hb.2; omega)
theorem f_sign {a : Rat} (ha : FL 19000 a) : Ctr G.P 35 [frac a] (· = .int a.num.sign) := t_psignf a (by have := ha.1; omega) (by have := ha.2; omega)
theorem f_right {a : Rat} (ha : FL 19000 a) : Ctr G.P 77 [frac a] (· = .bool true) := t_prightf a (by have := ha.1; omega) (by have := ha.2; omega)
end Go.Proofs.YtnjkhiafjcajaaaGreat

namespace Go.Proofs.YtnjkhiafjcajaaaGreat
set_option linter.all false
open Go.Abs

structure Place where
  (kind house mat : Int)
  deriving DecidableEq, Inhabited
structure Move where
  (day fr to scale reading : Int)
  all : Bool
  deriving DecidableEq, Inhabited
structure Cert where
  (scale fr until' grams perMille drift : Int)
  deriving DecidableEq, Inhabited
structure Recall where
  (scale since : Int)
  deriving DecidableEq, Inhabited
structure Purity where
  (move mat least most : Int)
  deriving DecidableEq, Inhabited
structure Evid where
  (mats houses scales : Int)
  places : List Place
  moves : List Move
  certs : List Cert
  recalls : List Recall
  purs : List Purity
  deriving DecidableEq, Inhabited
structure Sample where
  move : Int
  grams : List Int
  slack : Int
  deriving DecidableEq, Inhabited
structure Recipe where
  (fr to mat least most : Int)
  deriving DecidableEq, Inhabited
def Place.c (p : Place) : List IV := [.int p.kind, .int p.house, .int p.mat]
def Move.c (p : Move) : List IV := [.int p.day, .int p.fr, .int p.to, .int p.scale, .int p.reading, .bool p.all]
def Cert.c (p : Cert) : List IV := [.int p.scale, .int p.fr, .int p.until', .int p.grams, .int p.perMille, .int p.drift]
def Recall.c (p : Recall) : List IV := [.int p.scale, .int p.since]
def Purity.c (p : Purity) : List IV := [.int p.move, .int p.mat, .int p.least, .int p.most]
def Sample.c (p : Sample) : List IV := [.int p.move, ints p.grams, .int p.slack]
def Recipe.c (p : Recipe) : List IV := [.int p.fr, .int p.to, .int p.mat, .int p.least, .int p.most]
def Evid.c (e : Evid) : List IV := [.int e.mats, .int e.houses, .int e.scales, .sl (e.places.map Place.c), .sl (e.moves.map Move.c), .sl (e.certs.map Cert.c), .sl (e.recalls.map Recall.c), .sl (e.purs.map Purity.c)]
def Evid.iv (e : Evid) : IV := .agg e.c
theorem Place.len (p : Place) : p.c.length = 3 := rfl
theorem Move.len (p : Move) : p.c.length = 6 := rfl
theorem Cert.len (p : Cert) : p.c.length = 6 := rfl
theorem Recall.len (p : Recall) : p.c.length = 2 := rfl
theorem Purity.len (p : Purity) : p.c.length = 4 := rfl
theorem Sample.len (p : Sample) : p.c.length = 3 := rfl
theorem Recipe.len (p : Recipe) : p.c.length = 5 := rfl
def isum : List Int → Int
  | [] => 0
  | x :: r => x + isum r
theorem isum_append (a b : List Int) : isum (a ++ b) = isum a + isum b := by
  induction a with
  | nil => simp [isum]
  | cons x r ih => simp [isum, ih]; omega
theorem take_succ {α : Type} {l : List α} {i : Nat} {x : α} (h : l[i]? = some x) : l.take (i + 1) = l.take i ++ [x] := by
  rw [List.take_add_one, h]; rfl
theorem isum_take {l : List Int} {i : Nat} {x : Int} (h : l[i]? = some x) : isum (l.take (i + 1)) = isum (l.take i) + x := by
  rw [take_succ h, isum_append]; simp [isum]
end Go.Proofs.YtnjkhiafjcajaaaGreat

namespace Go.Proofs.YtnjkhiafjcajaaaGreat
set_option linter.all false
open Go.Abs

def idx (i n : Int) : Bool := decide (0 ≤ i) && decide (i < n)
def btw (n a b : Int) : Bool := decide (a ≤ n) && decide (n ≤ b)
theorem idx_iff {i n : Int} : idx i n = true ↔ 0 ≤ i ∧ i < n := by simp [idx]
theorem idx_not {i n : Int} : idx i n = false ↔ ¬(0 ≤ i ∧ i < n) := by rw [← idx_iff]; simp
theorem btw_iff {n a b : Int} : btw n a b = true ↔ a ≤ n ∧ n ≤ b := by simp [btw]
theorem btw_not {n a b : Int} : btw n a b = false ↔ ¬(a ≤ n ∧ n ≤ b) := by rw [← btw_iff]; simp
theorem c25 (n m : Int) : Ctr G.P 99 [.int n, .int m] (· = .bool (btw n 0 m)) := by
  unfold btw
  refine ctr_go good _ _ [.tmp 4] Tryz.func99 rfl rfl (by decide +kernel) rfl ?_
  simp only [go_sem]
  repeat' (refine Two_dec (fun hd hp => ?_) (fun hd hp => ?_) <;> simp only [hd, go_sem])
theorem c68 (n a b : Int) : Ctr G.P 103 [.int n, .int a, .int b] (· = .bool (btw n a b)) := by
  unfold btw
  refine ctr_go good _ _ [.tmp 6] Tryz.func103 rfl rfl (by decide +kernel) rfl ?_
  simp only [go_sem]
  repeat' (refine Two_dec (fun hd hp => ?_) (fun hd hp => ?_) <;> simp only [hd, go_sem])
theorem c67 (i n : Int) : Ctr G.P 102 [.int i, .int n] (· = .bool (idx i n)) := by
  unfold idx
  refine ctr_go good _ _ [.tmp 4] Tryz.func102 rfl rfl (by decide +kernel) rfl ?_
  simp only [go_sem]
  repeat' (refine Two_dec (fun hd hp => ?_) (fun hd hp => ?_) <;> simp only [hd, go_sem])
attribute [irreducible] idx btw
end Go.Proofs.YtnjkhiafjcajaaaGreat

namespace Go.Proofs.YtnjkhiafjcajaaaGreat
set_option linter.all false
open Go.Abs

theorem all_take_succ {α : Type} {l : List α} {f : α → Bool} {i : Nat} {x : α} (h : l[i]? = some x) : (l.take (i + 1)).all f = ((l.take i).all f && f x) := by
  rw [take_succ h, List.all_append]; simp
theorem all_not {α : Type} {l : List α} {f : α → Bool} {i : Nat} {x : α} (h : l[i]? = some x) (hf : f x = false) : l.all f = false := by
  rw [List.all_eq_false]
  exact ⟨x, List.mem_of_getElem? h, by simp [hf]⟩
def placeF (e : Evid) (p : Place) : Bool := idx p.kind 7 && (if p.kind = 0 then idx p.house e.houses && idx p.mat e.mats else decide (p.house = -1) && decide (p.mat = -1))
theorem c47 (e : Evid) (hl : e.places.length ≤ 1000) : Ctr G.P 45 [e.iv] (· = .bool (e.places.all (placeF e))) := by
  refine ctr_go good _ _ [.tmp 2] Tryz.func45 rfl rfl (by decide +kernel) rfl ?_
  unfold Evid.iv Evid.c
  simp only [go_sem, Evid.iv, Evid.c, Place.c, Move.c, Cert.c, Recall.c, Purity.c, Sample.c, Recipe.c, ints, ic]
  refine LoopP_of [1, 6, 7, 8] [1] (fun i : Nat => ⟨[(1, .loc 1 8 0 0), (6, .im (.sl (e.places.map Place.c))), (7, .im (.int e.places.length)), (8, .im (.int i))], [(1, 8, [e.c])], []⟩)
    (fun i => i ≤ e.places.length ∧ (e.places.take i).all (placeF e) = true) (fun i => e.places.length - i) 0 ?_ ⟨Nat.zero_le _, rfl⟩ ?_
  · simp only [Evid.c, Int.natCast_zero, go_sem, Evid.iv, Evid.c, Place.c, Move.c, Cert.c, Recall.c, Purity.c, Sample.c, Recipe.c, ints, ic]
  · intro i ⟨hi, ha⟩
    simp only [go_sem, Evid.iv, Evid.c, Place.c, Move.c, Cert.c, Recall.c, Purity.c, Sample.c, Recipe.c, ints, ic]
    refine Two_dec (fun hd hp => ?_) (fun hd hp => ?_)
    · obtain ⟨x, hx⟩ : ∃ x, e.places[i]? = some x := ⟨_, List.getElem?_eq_getElem (by omega)⟩
      have h1 := i64_ok (n := (i : Int) + 1) (by omega)
      have hat := all_take_succ (f := placeF e) hx
      simp only [hd, List.getElem?_map, hx, Place.c, Evid.c, go_sem, Evid.iv, Evid.c, Place.c, Move.c, Cert.c, Recall.c, Purity.c, Sample.c, Recipe.c, ints, ic]
      repeat' (first | (refine Two_of (fun hd => ?_) (fun hd => ?_) <;> simp only [*, go_sem, Evid.iv, Evid.c, Place.c, Move.c, Cert.c, Recall.c, Purity.c, Sample.c, Recipe.c, ints, ic]) | (refine CallP_eq (c67 _ _) (by first | decide | assumption) ?_; simp only [*, go_sem, Evid.iv, Evid.c, Place.c, Move.c, Cert.c, Recall.c, Purity.c, Sample.c, Recipe.c, ints, ic]) | (refine CallD_eq (c67 _ _) (by decide) ?_; simp only [*, go_sem, Evid.iv, Evid.c, Place.c, Move.c, Cert.c, Recall.c, Purity.c, Sample.c, Recipe.c, ints, ic]))
      all_goals first
        | (refine RoundP_of (i + 1) ?_ ?_ ⟨?_, ?_⟩
           · simp only [h1, Evid.c, Int.natCast_add, go_sem, Evid.iv, Evid.c, Place.c, Move.c, Cert.c, Recall.c, Purity.c, Sample.c, Recipe.c, ints, ic]
           · omega
           · omega
           · rw [hat, ha, Bool.true_and]; clear hat ha h1; simp_all [placeF]
           done)
        | (rw [all_not hx (by clear hat ha h1; simp_all [placeF])]; done)
    · simp only [hd, go_sem, Evid.iv, Evid.c, Place.c, Move.c, Cert.c, Recall.c, Purity.c, Sample.c, Recipe.c, ints, ic]
      rw [List.take_of_length_le (by omega)] at ha
      rw [ha]
end Go.Proofs.YtnjkhiafjcajaaaGreat

namespace Go.Proofs.YtnjkhiafjcajaaaGreat
set_option linter.all false
open Go.Abs

theorem isum_bound {l : List Int} {b : Int} (h : ∀ x ∈ l, 0 ≤ x ∧ x ≤ b) : ∀ i, 0 ≤ isum (l.take i) ∧ isum (l.take i) ≤ b * (l.take i).length := by
  intro i
  have : ∀ m : List Int, (∀ x ∈ m, 0 ≤ x ∧ x ≤ b) → 0 ≤ isum m ∧ isum m ≤ b * m.length := by
    intro m
    induction m with
    | nil => simp [isum]
    | cons x r ih =>
      intro hm
      have h1 := ih fun y hy => hm y (List.mem_cons_of_mem _ hy)
      have h2 := hm x (List.mem_cons_self ..)
      simp only [isum, List.length_cons, Int.natCast_add, Int.mul_add]
      simp
      omega
  exact this _ fun x hx => h x (List.mem_of_mem_take hx)

end Go.Proofs.YtnjkhiafjcajaaaGreat

namespace Go.Proofs.YtnjkhiafjcajaaaGreat
set_option linter.all false
open Go.Abs

theorem c24 (n : Int) : Ctr G.P 98 [.int n] (· = .bool (!btw n 0 1099511627776)) := by
  refine ctr_go good _ _ [.tmp 2] Tryz.func98 rfl rfl (by decide +kernel) rfl ?_
  simp only [go_sem, Evid.iv, Evid.c, Place.c, Move.c, Cert.c, Recall.c, Purity.c, Sample.c, Recipe.c, ints, ic]
  refine CallP_eq (c25 _ _) (by decide) ?_
  simp only [go_sem, Evid.iv, Evid.c, Place.c, Move.c, Cert.c, Recall.c, Purity.c, Sample.c, Recipe.c, ints, ic]
def few14 (e : Evid) : Bool := decide ((e.places.length : Int) ≤ 110) && decide ((e.moves.length : Int) ≤ 210) && decide ((e.certs.length : Int) ≤ 110) && decide ((e.recalls.length : Int) ≤ 40) && decide ((e.purs.length : Int) ≤ 210)
def full14 (e : Evid) : Bool := decide (6 < e.mats) || decide (100 < e.houses) || decide (30 < e.scales) || decide (100 < (e.places.length : Int)) || decide (200 < (e.moves.length : Int)) || decide (100 < (e.certs.length : Int)) || decide (30 < (e.recalls.length : Int)) || decide (200 < (e.purs.length : Int))
end Go.Proofs.YtnjkhiafjcajaaaGreat

namespace Go.Proofs.YtnjkhiafjcajaaaGreat
set_option linter.all false
open Go.Abs

def pairC (p : Int × Int) : List IV := [.int p.1, .int p.2]
def pairs (e : Evid) : List (Int × Int) := [(e.mats, 6), (e.houses, 100), (e.scales, 30), (e.places.length, 100), (e.moves.length, 200), (e.certs.length, 100), (e.recalls.length, 30), (e.purs.length, 200)]
def fitP (p : Int × Int) : Bool := !decide (p.2 < p.1)
theorem c46 (e : Evid) : Ctr G.P 44 [e.iv] (· = .bool (!(pairs e).all fitP)) := by
  refine ctr_go good _ _ [.tmp 2] Tryz.func44 rfl rfl (by decide +kernel) rfl ?_
  unfold Evid.iv Evid.c
  simp only [go_sem, Evid.iv, Evid.c, Place.c, Move.c, Cert.c, Recall.c, Purity.c, Sample.c, Recipe.c, ints, ic]
  refine LoopP_of [34, 35, 36] [] (fun i : Nat => ⟨[(34, .sx ((pairs e).map pairC)), (35, .im (.int 8)), (36, .im (.int i))], [], []⟩)
    (fun i => i ≤ 8 ∧ ((pairs e).take i).all fitP = true) (fun i => 8 - i) 0 ?_ ⟨Nat.zero_le _, rfl⟩ ?_
  · simp only [pairs, pairC, Int.natCast_zero, go_sem, Evid.iv, Evid.c, Place.c, Move.c, Cert.c, Recall.c, Purity.c, Sample.c, Recipe.c, ints, ic]
  · intro i ⟨hi, ha⟩
    simp only [go_sem, Evid.iv, Evid.c, Place.c, Move.c, Cert.c, Recall.c, Purity.c, Sample.c, Recipe.c, ints, ic]
    refine Two_dec (fun hd hp => ?_) (fun hd hp => ?_)
    · obtain ⟨x, hx⟩ : ∃ x, (pairs e)[i]? = some x := ⟨_, List.getElem?_eq_getElem (by simp [pairs]; omega)⟩
      have h1 := i64_ok (n := (i : Int) + 1) (by omega)
      have hat := all_take_succ (f := fitP) hx
      simp only [hd, List.getElem?_map, hx, pairC, go_sem, Evid.iv, Evid.c, Place.c, Move.c, Cert.c, Recall.c, Purity.c, Sample.c, Recipe.c, ints, ic]
      repeat' (first | (refine Two_of (fun hd => ?_) (fun hd => ?_) <;> simp only [*, go_sem, Evid.iv, Evid.c, Place.c, Move.c, Cert.c, Recall.c, Purity.c, Sample.c, Recipe.c, ints, ic]) | (refine CallP_eq (c67 _ _) (by first | decide | assumption) ?_; simp only [*, go_sem, Evid.iv, Evid.c, Place.c, Move.c, Cert.c, Recall.c, Purity.c, Sample.c, Recipe.c, ints, ic]) | (refine CallD_eq (c67 _ _) (by decide) ?_; simp only [*, go_sem, Evid.iv, Evid.c, Place.c, Move.c, Cert.c, Recall.c, Purity.c, Sample.c, Recipe.c, ints, ic]))
      all_goals first
        | (refine RoundP_of (i + 1) ?_ ?_ ⟨?_, ?_⟩
           · simp only [h1, Int.natCast_add, go_sem, Evid.iv, Evid.c, Place.c, Move.c, Cert.c, Recall.c, Purity.c, Sample.c, Recipe.c, ints, ic]
           · omega
           · omega
           · rw [hat, ha, Bool.true_and]; clear hat ha h1; simp_all [fitP]
           done)
        | (rw [all_not hx (by clear hat ha h1; simp_all [fitP])]; rfl)
    · simp only [hd, go_sem, Evid.iv, Evid.c, Place.c, Move.c, Cert.c, Recall.c, Purity.c, Sample.c, Recipe.c, ints, ic]
      rw [List.take_of_length_le (by simp [pairs]; omega)] at ha
      rw [ha]
      simp only [go_sem, Evid.iv, Evid.c, Place.c, Move.c, Cert.c, Recall.c, Purity.c, Sample.c, Recipe.c, ints, ic]

end Go.Proofs.YtnjkhiafjcajaaaGreat

namespace Go.Proofs.YtnjkhiafjcajaaaGreat
set_option linter.all false
open Go.Abs
def kindAt (e : Evid) (i : Int) : Int := match e.places[i.toNat]? with
  | some p => p.kind
  | none => 0
theorem kindAt_of {e : Evid} {i : Int} {p : Place} (h : e.places[i.toNat]? = some p) : kindAt e i = p.kind := by simp [kindAt, h]
def moveF (e : Evid) (m : Move) : Bool :=
  idx m.fr e.places.length && idx m.to e.places.length && !decide (m.fr = m.to) && !decide (kindAt e m.fr = 5) && !decide (kindAt e m.fr = 6) && !(decide (kindAt e m.fr = 0) && m.all) && !decide (kindAt e m.to = 0) &&
    (if m.scale = -1 then decide (m.reading = 0) else idx m.scale e.scales && btw m.reading 0 1099511627776)
theorem at_idx {α : Type} {l : List α} {i : Int} (h : idx i l.length = true) : ∃ x, l[i.toNat]? = some x ∧ 0 ≤ i := by
  rw [idx_iff] at h
  exact ⟨_, List.getElem?_eq_getElem (by omega), h.1⟩
set_option maxRecDepth 100000 in
set_option maxHeartbeats 1000000 in
theorem c48 (e : Evid) (m : Move) : Ctr G.P 46 [e.iv, .agg m.c] (· = .bool (moveF e m)) := by
  rcases hf : idx m.fr e.places.length with _ | _
  · have hm : moveF e m = false := by simp [moveF, hf]
    refine ctr_go good _ _ [.tmp 4] Tryz.func46 rfl rfl (by decide +kernel) rfl ?_
    unfold Evid.iv Evid.c Move.c
    rw [hm]
    simp only [go_sem, Evid.iv, Evid.c, Place.c, Move.c, Cert.c, Recall.c, Purity.c, Sample.c, Recipe.c, ints, ic]
    repeat' (first | (refine Two_of (fun hd => ?_) (fun hd => ?_) <;> simp only [*, go_sem, Evid.iv, Evid.c, Place.c, Move.c, Cert.c, Recall.c, Purity.c, Sample.c, Recipe.c, ints, ic]) | (refine CallP_eq (c67 _ _) (by first | decide | assumption) ?_; simp only [*, go_sem, Evid.iv, Evid.c, Place.c, Move.c, Cert.c, Recall.c, Purity.c, Sample.c, Recipe.c, ints, ic]) | (refine CallD_eq (c67 _ _) (by decide) ?_; simp only [*, go_sem, Evid.iv, Evid.c, Place.c, Move.c, Cert.c, Recall.c, Purity.c, Sample.c, Recipe.c, ints, ic]))
  · obtain ⟨p, hp, h0⟩ := at_idx hf
    have hkp := kindAt_of hp
    rcases ht : idx m.to e.places.length with _ | _
    · have hm : moveF e m = false := by simp [moveF, ht]
      refine ctr_go good _ _ [.tmp 4] Tryz.func46 rfl rfl (by decide +kernel) rfl ?_
      unfold Evid.iv Evid.c Move.c
      rw [hm]
      simp only [go_sem, Evid.iv, Evid.c, Place.c, Move.c, Cert.c, Recall.c, Purity.c, Sample.c, Recipe.c, ints, ic]
      repeat' (first | (refine Two_of (fun hd => ?_) (fun hd => ?_) <;> simp only [*, go_sem, Evid.iv, Evid.c, Place.c, Move.c, Cert.c, Recall.c, Purity.c, Sample.c, Recipe.c, ints, ic]) | (refine CallP_eq (c67 _ _) (by first | decide | assumption) ?_; simp only [*, go_sem, Evid.iv, Evid.c, Place.c, Move.c, Cert.c, Recall.c, Purity.c, Sample.c, Recipe.c, ints, ic]) | (refine CallD_eq (c67 _ _) (by decide) ?_; simp only [*, go_sem, Evid.iv, Evid.c, Place.c, Move.c, Cert.c, Recall.c, Purity.c, Sample.c, Recipe.c, ints, ic]))
    · obtain ⟨q, hq, h1⟩ := at_idx ht
      have hkq := kindAt_of hq
      have hm : moveF e m = (!decide (m.fr = m.to) && !decide (p.kind = 5) && !decide (p.kind = 6) && !(decide (p.kind = 0) && m.all) && !decide (q.kind = 0) &&
        (if m.scale = -1 then decide (m.reading = 0) else idx m.scale e.scales && btw m.reading 0 1099511627776)) := by simp [moveF, hf, ht, hkp, hkq]
      refine ctr_go good _ _ [.tmp 4] Tryz.func46 rfl rfl (by decide +kernel) rfl ?_
      unfold Evid.iv Evid.c Move.c
      rw [hm]
      clear hm hkp hkq
      simp only [go_sem, Evid.iv, Evid.c, Place.c, Move.c, Cert.c, Recall.c, Purity.c, Sample.c, Recipe.c, ints, ic]
      repeat' (first | (refine Two_of (fun hd => ?_) (fun hd => ?_) <;> simp only [*, List.getElem?_map, Place.c, go_sem, Evid.iv, Evid.c, Place.c, Move.c, Cert.c, Recall.c, Purity.c, Sample.c, Recipe.c, ints, ic]) | (refine CallP_eq (c67 _ _) (by first | decide | assumption) ?_; simp only [*, List.getElem?_map, Place.c, go_sem, Evid.iv, Evid.c, Place.c, Move.c, Cert.c, Recall.c, Purity.c, Sample.c, Recipe.c, ints, ic]) | (refine CallP_eq (c68 _ _ _) (by first | decide | assumption) ?_; simp only [*, List.getElem?_map, Place.c, go_sem, Evid.iv, Evid.c, Place.c, Move.c, Cert.c, Recall.c, Purity.c, Sample.c, Recipe.c, ints, ic]) | (refine CallD_eq (c67 _ _) (by decide) ?_; simp only [*, List.getElem?_map, Place.c, go_sem, Evid.iv, Evid.c, Place.c, Move.c, Cert.c, Recall.c, Purity.c, Sample.c, Recipe.c, ints, ic]) | (refine CallD_eq (c68 _ _ _) (by decide) ?_; simp only [*, List.getElem?_map, Place.c, go_sem, Evid.iv, Evid.c, Place.c, Move.c, Cert.c, Recall.c, Purity.c, Sample.c, Recipe.c, ints, ic]))
      all_goals simp_all
end Go.Proofs.YtnjkhiafjcajaaaGreat
