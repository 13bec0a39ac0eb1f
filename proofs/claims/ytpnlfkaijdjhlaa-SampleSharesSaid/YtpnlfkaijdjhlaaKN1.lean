/- A part of the proof: what functions of the program do, and the layer under it. No further condition. -/
import Derived.Test.YtpnlfkaijdjhlaaKS2
import Derived.Test.YtpnlfkaijdjhlaaKR5
namespace Go.Proofs.Ytpnlfkaijdjhlaa
set_option linter.all false
open Go.Abs

/-- The distance of two fractions. -/
def absR (r : Rat) : Rat := if r.num.sign < 0 then -r else r
theorem sign_neg (r : Rat) : r.num.sign < 0 ↔ r < 0 := by
  have := Rat.num_nonneg (q := r)
  rw [← Rat.not_le, ← this, Int.not_le]
  rcases Int.lt_trichotomy r.num 0 with h | h | h
  · rw [Int.sign_eq_neg_one_of_neg h]; omega
  · rw [h]; decide
  · rw [Int.sign_eq_one_of_pos h]; omega
theorem len_subR {a b : Rat} {k : Nat} (a1 : (dig a.num.natAbs).length ≤ k) (a2 : (dig a.den).length ≤ k) (b1 : (dig b.num.natAbs).length ≤ k) (b2 : (dig b.den).length ≤ k) :
    (dig (a - b).num.natAbs).length ≤ k + k + 1 ∧ (dig (a - b).den).length ≤ k + k := by
  have a2' : (dig (a.den : Int).natAbs).length ≤ k := by rw [Int.natAbs_natCast]; exact a2
  have b2' : (dig (b.den : Int).natAbs).length ≤ k := by rw [Int.natAbs_natCast]; exact b2
  have l1 := dig_mul_le a1 b2'
  have l2 := dig_mul_le b1 a2'
  have l3 := dig_mul_le a2' b2'
  have hd : (0 : Int) < a.den * b.den := Int.mul_pos (by have := a.den_pos; omega) (by have := b.den_pos; omega)
  obtain ⟨h1, h2⟩ := divInt_num_le (a.num * b.den - b.num * a.den) hd
  rw [divInt_sub] at h1 h2
  exact ⟨len_mono h1 (len_sub l1 l2), len_mono h2 l3⟩
theorem absR_len {r : Rat} {k : Nat} (h1 : (dig r.num.natAbs).length ≤ k) (h2 : (dig r.den).length ≤ k) : (dig (absR r).num.natAbs).length ≤ k ∧ (dig (absR r).den).length ≤ k := by
  unfold absR
  split
  · have e1 : (-r).num = -r.num := rfl
    have e2 : (-r).den = r.den := rfl
    rw [e1, e2, Int.natAbs_neg]; exact ⟨h1, h2⟩
  · exact ⟨h1, h2⟩
/-- The share of one element is near. -/
def nearI (load grams : List Int) (most : Int) (less : Bool) (i : Nat) : Bool :=
  !(decide (0 < cmpR (absR (shareR (dgt load i) (isum load) - shareR (dgt grams i) (isum grams))) (Rat.divInt most 1)) ||
    (less && decide (cmpR (absR (shareR (dgt load i) (isum load) - shareR (dgt grams i) (isum grams))) (Rat.divInt most 1) = 0)))
def nearF (load grams : List Int) (most : Int) (less : Bool) : Bool := (List.range grams.length).all (nearI load grams most less)
theorem rangeAll_false {n i : Nat} {f : Nat → Bool} (hi : i < n) (h : f i = false) : (List.range n).all f = false := by
  rw [List.all_eq_false]; exact ⟨i, List.mem_range.2 hi, by simp [h]⟩
theorem rangeAll_true {n : Nat} {f : Nat → Bool} (h : ∀ i, i < n → f i = true) : (List.range n).all f = true := by
  rw [List.all_eq_true]; exact fun i hi => h i (List.mem_range.1 hi)
def Grams (l : List Int) : Prop := l.all gramB = true ∧ l.length ≤ 10 ∧ 0 < isum l
theorem Grams.at {l : List Int} (h : Grams l) {i : Nat} (hi : i < l.length) : l[i]? = some (dgt l i) ∧ 0 ≤ dgt l i ∧ dgt l i ≤ 1099511627776 := by
  have hx := get_nat (l := l) (i := i) (by omega)
  have := List.all_eq_true.1 h.1 _ (List.mem_of_getElem? hx)
  simp [gramB] at this
  exact ⟨hx, by omega, by omega⟩
theorem Grams.sum {l : List Int} (h : Grams l) : 0 < isum l ∧ isum l ≤ 100000000000000 ∧ totalF l = isum l := by
  have := isum_le h.1
  have h2 := h.2.1
  refine ⟨h.2.2, by omega, ?_⟩
  rw [totalF, if_pos ⟨h.1, by omega⟩]
set_option maxRecDepth 100000 in
set_option maxHeartbeats 4000000 in
theorem t_near (load grams : List Int) (most : Int) (less : Bool) (hl : Grams load) (hg : Grams grams) (hlen : load.length = grams.length) (hm : 0 ≤ most ∧ most ≤ 100000) :
    Ctr G.P 20 [ints load, ints grams, .int most, .bool less] (· = .bool (nearF load grams most less)) := by
  have tl := t_total load (by have := hl.2.1; omega)
  have tg := t_total grams (by have := hg.2.1; omega)
  obtain ⟨L0, L1, L2⟩ := hl.sum
  obtain ⟨S0, S1, S2⟩ := hg.sum
  rw [L2] at tl
  rw [S2] at tg
  have him := t_intf most (by omega)
  obtain ⟨im1, im2⟩ := int_len (k := most) (by omega)
  have lenI : (load.length : Int) = grams.length := by rw [hlen]
  have hgl := hg.2.1
  simp only [ints] at tl tg
  refine ctr_go good _ _ [.tmp 8] Try.func20 rfl rfl (by decide +kernel) rfl ?_
  simp only [go_sem, Int.reduceNegSucc, Nat.reduceAdd, Nat.reduceSub, Nat.reduceMul, Nat.reduceEqDiff, Nat.reduceLeDiff, Nat.reduceLT, Nat.reduceBEq, Nat.reduceBNe, reduceIte, reduceCtorEq, Int.reduceToNat, Int.reduceAdd, Int.reduceSub, Int.reduceMul, Int.reduceNeg, Int.reduceLT, Int.reduceLE, Int.reduceEq, Int.reduceNe, ints, ic, frac]
  refine LoopP_of [0, 1, 2, 3, 9] [] (fun i : Nat => ⟨[(0, .im (.sl (load.map ic))), (1, .im (.sl (grams.map ic))), (2, .im (.int most)), (3, .im (.bool less)), (9, .im (.int i))], [], []⟩)
    (fun i => i ≤ grams.length ∧ ∀ j, j < i → nearI load grams most less j = true) (fun i => grams.length - i) 0 ?_ ⟨Nat.zero_le _, fun j h => absurd h (by omega)⟩ ?_
  · simp only [Int.natCast_zero, go_sem, Int.reduceNegSucc, Nat.reduceAdd, Nat.reduceSub, Nat.reduceMul, Nat.reduceEqDiff, Nat.reduceLeDiff, Nat.reduceLT, Nat.reduceBEq, Nat.reduceBNe, reduceIte, reduceCtorEq, Int.reduceToNat, Int.reduceAdd, Int.reduceSub, Int.reduceMul, Int.reduceNeg, Int.reduceLT, Int.reduceLE, Int.reduceEq, Int.reduceNe, ints, ic, frac]
  intro i ⟨hi, ha⟩
  by_cases hlt : (i : Int) < grams.length
  case neg =>
    have hd : decide ((i : Int) < grams.length) = false := decide_eq_false hlt
    have : nearF load grams most less = true := rangeAll_true fun j hj => ha j (by omega)
    rw [this]
    simp only [hd, go_sem, Int.reduceNegSucc, Nat.reduceAdd, Nat.reduceSub, Nat.reduceMul, Nat.reduceEqDiff, Nat.reduceLeDiff, Nat.reduceLT, Nat.reduceBEq, Nat.reduceBNe, reduceIte, reduceCtorEq, Int.reduceToNat, Int.reduceAdd, Int.reduceSub, Int.reduceMul, Int.reduceNeg, Int.reduceLT, Int.reduceLE, Int.reduceEq, Int.reduceNe, ints, ic, frac]
  case pos =>
    have hd : decide ((i : Int) < grams.length) = true := decide_eq_true hlt
    have h1 := i64_ok (n := (i : Int) + 1) (by omega)
    obtain ⟨hx, x0, x1⟩ := hl.at (i := i) (by omega)
    obtain ⟨hy, y0, y1⟩ := hg.at (i := i) (by omega)
    have hF : nearI load grams most less i = false → nearF load grams most less = false := fun h => rangeAll_false (by omega : i < grams.length) h
    have hnear : nearI load grams most less i = !(decide (0 < cmpR (absR (shareR (dgt load i) (isum load) - shareR (dgt grams i) (isum grams))) (Rat.divInt most 1)) ||
      (less && decide (cmpR (absR (shareR (dgt load i) (isum load) - shareR (dgt grams i) (isum grams))) (Rat.divInt most 1) = 0))) := rfl
    have sx := t_share (dgt load i) (isum load) (by omega) (by omega) (by omega)
    have sy := t_share (dgt grams i) (isum grams) (by omega) (by omega) (by omega)
    obtain ⟨lx1, lx2⟩ := share_len ⟨x0, x1⟩ (S := isum load) ⟨L0, L1⟩
    obtain ⟨ly1, ly2⟩ := share_len ⟨y0, y1⟩ (S := isum grams) ⟨S0, S1⟩
    change Ctr _ _ _ (· = frac (shareR (dgt load i) (isum load))) at sx
    change Ctr _ _ _ (· = frac (shareR (dgt grams i) (isum grams))) at sy
    generalize shareR (dgt load i) (isum load) = X at *
    generalize shareR (dgt grams i) (isum grams) = Y at *
    have hs := t_subf X Y (by omega) (by omega) (by omega) (by omega)
    obtain ⟨ld1, ld2⟩ := len_subR lx1 lx2 ly1 ly2
    generalize X - Y = d at *
    obtain ⟨la1, la2⟩ := absR_len (r := d) (k := 7) (by omega) (by omega)
    have hsg := t_signf d (by omega) (by omega)
    have hng := t_negf d (by omega) (by omega)
    obtain ⟨D, hD⟩ : ∃ D, D = absR d := ⟨_, rfl⟩
    rw [← hD] at la1 la2 hnear
    have hD1 : d.num.sign < 0 → -d = D := fun h => by rw [hD, absR, if_pos h]
    have hD2 : ¬ d.num.sign < 0 → d = D := fun h => by rw [hD, absR, if_neg h]
    simp only [frac, ints] at sx sy hs hsg him
    simp only [hd, lenI, go_sem, Int.reduceNegSucc, Nat.reduceAdd, Nat.reduceSub, Nat.reduceMul, Nat.reduceEqDiff, Nat.reduceLeDiff, Nat.reduceLT, Nat.reduceBEq, Nat.reduceBNe, reduceIte, reduceCtorEq, Int.reduceToNat, Int.reduceAdd, Int.reduceSub, Int.reduceMul, Int.reduceNeg, Int.reduceLT, Int.reduceLE, Int.reduceEq, Int.reduceNe, ints, ic, frac]
    refine DrawS_of (by decide +kernel) ?_
    simp only [List.getElem?_map, hx, hy, go_sem, Int.reduceNegSucc, Nat.reduceAdd, Nat.reduceSub, Nat.reduceMul, Nat.reduceEqDiff, Nat.reduceLeDiff, Nat.reduceLT, Nat.reduceBEq, Nat.reduceBNe, reduceIte, reduceCtorEq, Int.reduceToNat, Int.reduceAdd, Int.reduceSub, Int.reduceMul, Int.reduceNeg, Int.reduceLT, Int.reduceLE, Int.reduceEq, Int.reduceNe, ints, ic, frac]
    refine CallD_eq tl (by decide) ?_
    simp only [List.getElem?_map, hx, hy, go_sem, Int.reduceNegSucc, Nat.reduceAdd, Nat.reduceSub, Nat.reduceMul, Nat.reduceEqDiff, Nat.reduceLeDiff, Nat.reduceLT, Nat.reduceBEq, Nat.reduceBNe, reduceIte, reduceCtorEq, Int.reduceToNat, Int.reduceAdd, Int.reduceSub, Int.reduceMul, Int.reduceNeg, Int.reduceLT, Int.reduceLE, Int.reduceEq, Int.reduceNe, ints, ic, frac]
    refine CallD_eq sx (by decide) ?_
    simp only [List.getElem?_map, hx, hy, go_sem, Int.reduceNegSucc, Nat.reduceAdd, Nat.reduceSub, Nat.reduceMul, Nat.reduceEqDiff, Nat.reduceLeDiff, Nat.reduceLT, Nat.reduceBEq, Nat.reduceBNe, reduceIte, reduceCtorEq, Int.reduceToNat, Int.reduceAdd, Int.reduceSub, Int.reduceMul, Int.reduceNeg, Int.reduceLT, Int.reduceLE, Int.reduceEq, Int.reduceNe, ints, ic, frac]
    refine CallD_eq tg (by decide) ?_
    simp only [List.getElem?_map, hx, hy, go_sem, Int.reduceNegSucc, Nat.reduceAdd, Nat.reduceSub, Nat.reduceMul, Nat.reduceEqDiff, Nat.reduceLeDiff, Nat.reduceLT, Nat.reduceBEq, Nat.reduceBNe, reduceIte, reduceCtorEq, Int.reduceToNat, Int.reduceAdd, Int.reduceSub, Int.reduceMul, Int.reduceNeg, Int.reduceLT, Int.reduceLE, Int.reduceEq, Int.reduceNe, ints, ic, frac]
    refine CallD_eq sy (by decide) ?_
    simp only [go_sem, Int.reduceNegSucc, Nat.reduceAdd, Nat.reduceSub, Nat.reduceMul, Nat.reduceEqDiff, Nat.reduceLeDiff, Nat.reduceLT, Nat.reduceBEq, Nat.reduceBNe, reduceIte, reduceCtorEq, Int.reduceToNat, Int.reduceAdd, Int.reduceSub, Int.reduceMul, Int.reduceNeg, Int.reduceLT, Int.reduceLE, Int.reduceEq, Int.reduceNe, ints, ic, frac]
    refine CallD_eq hs (by decide) ?_
    simp only [go_sem, Int.reduceNegSucc, Nat.reduceAdd, Nat.reduceSub, Nat.reduceMul, Nat.reduceEqDiff, Nat.reduceLeDiff, Nat.reduceLT, Nat.reduceBEq, Nat.reduceBNe, reduceIte, reduceCtorEq, Int.reduceToNat, Int.reduceAdd, Int.reduceSub, Int.reduceMul, Int.reduceNeg, Int.reduceLT, Int.reduceLE, Int.reduceEq, Int.reduceNe, ints, ic, frac]
    refine CallP_eq hsg (by decide) ?_
    simp only [go_sem, Int.reduceNegSucc, Nat.reduceAdd, Nat.reduceSub, Nat.reduceMul, Nat.reduceEqDiff, Nat.reduceLeDiff, Nat.reduceLT, Nat.reduceBEq, Nat.reduceBNe, reduceIte, reduceCtorEq, Int.reduceToNat, Int.reduceAdd, Int.reduceSub, Int.reduceMul, Int.reduceNeg, Int.reduceLT, Int.reduceLE, Int.reduceEq, Int.reduceNe, ints, ic, frac]
    by_cases hneg : d.num.sign < 0
    · have hnd : decide (d.num.sign < 0) = true := decide_eq_true hneg
      rw [hD1 hneg] at hng
      simp only [frac, ints] at hng
      simp only [hnd, go_sem, Int.reduceNegSucc, Nat.reduceAdd, Nat.reduceSub, Nat.reduceMul, Nat.reduceEqDiff, Nat.reduceLeDiff, Nat.reduceLT, Nat.reduceBEq, Nat.reduceBNe, reduceIte, reduceCtorEq, Int.reduceToNat, Int.reduceAdd, Int.reduceSub, Int.reduceMul, Int.reduceNeg, Int.reduceLT, Int.reduceLE, Int.reduceEq, Int.reduceNe, ints, ic, frac]
      refine CallP_eq hng (by decide) ?_
      simp only [go_sem, Int.reduceNegSucc, Nat.reduceAdd, Nat.reduceSub, Nat.reduceMul, Nat.reduceEqDiff, Nat.reduceLeDiff, Nat.reduceLT, Nat.reduceBEq, Nat.reduceBNe, reduceIte, reduceCtorEq, Int.reduceToNat, Int.reduceAdd, Int.reduceSub, Int.reduceMul, Int.reduceNeg, Int.reduceLT, Int.reduceLE, Int.reduceEq, Int.reduceNe, ints, ic, frac]
      have hc := t_cmpf (D) (Rat.divInt most 1) (by omega) (by omega) (by omega) (by omega)
      simp only [frac, ints] at hc
      generalize hcc : cmpR (D) (Rat.divInt most 1) = c at *
      refine DrawP_of 5 (by decide +kernel) ?_
      simp only [go_sem, Int.reduceNegSucc, Nat.reduceAdd, Nat.reduceSub, Nat.reduceMul, Nat.reduceEqDiff, Nat.reduceLeDiff, Nat.reduceLT, Nat.reduceBEq, Nat.reduceBNe, reduceIte, reduceCtorEq, Int.reduceToNat, Int.reduceAdd, Int.reduceSub, Int.reduceMul, Int.reduceNeg, Int.reduceLT, Int.reduceLE, Int.reduceEq, Int.reduceNe, ints, ic, frac]
      refine CallD_eq him (by decide) ?_
      simp only [go_sem, Int.reduceNegSucc, Nat.reduceAdd, Nat.reduceSub, Nat.reduceMul, Nat.reduceEqDiff, Nat.reduceLeDiff, Nat.reduceLT, Nat.reduceBEq, Nat.reduceBNe, reduceIte, reduceCtorEq, Int.reduceToNat, Int.reduceAdd, Int.reduceSub, Int.reduceMul, Int.reduceNeg, Int.reduceLT, Int.reduceLE, Int.reduceEq, Int.reduceNe, ints, ic, frac]
      refine CallD_eq hc (by decide) ?_
      simp only [go_sem, Int.reduceNegSucc, Nat.reduceAdd, Nat.reduceSub, Nat.reduceMul, Nat.reduceEqDiff, Nat.reduceLeDiff, Nat.reduceLT, Nat.reduceBEq, Nat.reduceBNe, reduceIte, reduceCtorEq, Int.reduceToNat, Int.reduceAdd, Int.reduceSub, Int.reduceMul, Int.reduceNeg, Int.reduceLT, Int.reduceLE, Int.reduceEq, Int.reduceNe, ints, ic, frac]
      refine Two_of (fun g1 => ?_) (fun g1 => ?_)
      · rw [hF (hnear.trans (by rw [g1]; rfl))]
        simp only [g1, go_sem, Int.reduceNegSucc, Nat.reduceAdd, Nat.reduceSub, Nat.reduceMul, Nat.reduceEqDiff, Nat.reduceLeDiff, Nat.reduceLT, Nat.reduceBEq, Nat.reduceBNe, reduceIte, reduceCtorEq, Int.reduceToNat, Int.reduceAdd, Int.reduceSub, Int.reduceMul, Int.reduceNeg, Int.reduceLT, Int.reduceLE, Int.reduceEq, Int.reduceNe, ints, ic, frac]
      · simp only [g1, go_sem, Int.reduceNegSucc, Nat.reduceAdd, Nat.reduceSub, Nat.reduceMul, Nat.reduceEqDiff, Nat.reduceLeDiff, Nat.reduceLT, Nat.reduceBEq, Nat.reduceBNe, reduceIte, reduceCtorEq, Int.reduceToNat, Int.reduceAdd, Int.reduceSub, Int.reduceMul, Int.reduceNeg, Int.reduceLT, Int.reduceLE, Int.reduceEq, Int.reduceNe, ints, ic, frac]
        cases less with
        | true =>
          simp only [g1, go_sem, Int.reduceNegSucc, Nat.reduceAdd, Nat.reduceSub, Nat.reduceMul, Nat.reduceEqDiff, Nat.reduceLeDiff, Nat.reduceLT, Nat.reduceBEq, Nat.reduceBNe, reduceIte, reduceCtorEq, Int.reduceToNat, Int.reduceAdd, Int.reduceSub, Int.reduceMul, Int.reduceNeg, Int.reduceLT, Int.reduceLE, Int.reduceEq, Int.reduceNe, ints, ic, frac]
          refine Two_of (fun g2 => ?_) (fun g2 => ?_)
          · rw [hF (hnear.trans (by rw [g1, g2]; rfl))]
            simp only [g1, g2, go_sem, Int.reduceNegSucc, Nat.reduceAdd, Nat.reduceSub, Nat.reduceMul, Nat.reduceEqDiff, Nat.reduceLeDiff, Nat.reduceLT, Nat.reduceBEq, Nat.reduceBNe, reduceIte, reduceCtorEq, Int.reduceToNat, Int.reduceAdd, Int.reduceSub, Int.reduceMul, Int.reduceNeg, Int.reduceLT, Int.reduceLE, Int.reduceEq, Int.reduceNe, ints, ic, frac]
          · have hok := hnear.trans (by rw [g1, g2]; rfl : _ = true)
            simp only [g1, g2, go_sem, Int.reduceNegSucc, Nat.reduceAdd, Nat.reduceSub, Nat.reduceMul, Nat.reduceEqDiff, Nat.reduceLeDiff, Nat.reduceLT, Nat.reduceBEq, Nat.reduceBNe, reduceIte, reduceCtorEq, Int.reduceToNat, Int.reduceAdd, Int.reduceSub, Int.reduceMul, Int.reduceNeg, Int.reduceLT, Int.reduceLE, Int.reduceEq, Int.reduceNe, ints, ic, frac]
            refine RoundP_of (i + 1) ?_ (by omega) ⟨by omega, fun j hj => ?_⟩
            · simp only [h1, Int.natCast_add, go_sem, Int.reduceNegSucc, Nat.reduceAdd, Nat.reduceSub, Nat.reduceMul, Nat.reduceEqDiff, Nat.reduceLeDiff, Nat.reduceLT, Nat.reduceBEq, Nat.reduceBNe, reduceIte, reduceCtorEq, Int.reduceToNat, Int.reduceAdd, Int.reduceSub, Int.reduceMul, Int.reduceNeg, Int.reduceLT, Int.reduceLE, Int.reduceEq, Int.reduceNe, ints, ic, frac]
            · rcases Nat.lt_or_ge j i with h | h
              · exact ha j h
              · rw [show j = i by omega]; exact hok
        | false =>
          have hok := hnear.trans (by rw [g1]; rfl : _ = true)
          simp only [g1, go_sem, Int.reduceNegSucc, Nat.reduceAdd, Nat.reduceSub, Nat.reduceMul, Nat.reduceEqDiff, Nat.reduceLeDiff, Nat.reduceLT, Nat.reduceBEq, Nat.reduceBNe, reduceIte, reduceCtorEq, Int.reduceToNat, Int.reduceAdd, Int.reduceSub, Int.reduceMul, Int.reduceNeg, Int.reduceLT, Int.reduceLE, Int.reduceEq, Int.reduceNe, ints, ic, frac]
          refine RoundP_of (i + 1) ?_ (by omega) ⟨by omega, fun j hj => ?_⟩
          · simp only [h1, Int.natCast_add, go_sem, Int.reduceNegSucc, Nat.reduceAdd, Nat.reduceSub, Nat.reduceMul, Nat.reduceEqDiff, Nat.reduceLeDiff, Nat.reduceLT, Nat.reduceBEq, Nat.reduceBNe, reduceIte, reduceCtorEq, Int.reduceToNat, Int.reduceAdd, Int.reduceSub, Int.reduceMul, Int.reduceNeg, Int.reduceLT, Int.reduceLE, Int.reduceEq, Int.reduceNe, ints, ic, frac]
          · rcases Nat.lt_or_ge j i with h | h
            · exact ha j h
            · rw [show j = i by omega]; exact hok
    · have hnd : decide (d.num.sign < 0) = false := decide_eq_false hneg
      have hdD := (hD2 hneg).symm
      clear hD hD1 hD2 hng
      subst hdD
      simp only [hnd, go_sem, Int.reduceNegSucc, Nat.reduceAdd, Nat.reduceSub, Nat.reduceMul, Nat.reduceEqDiff, Nat.reduceLeDiff, Nat.reduceLT, Nat.reduceBEq, Nat.reduceBNe, reduceIte, reduceCtorEq, Int.reduceToNat, Int.reduceAdd, Int.reduceSub, Int.reduceMul, Int.reduceNeg, Int.reduceLT, Int.reduceLE, Int.reduceEq, Int.reduceNe, ints, ic, frac]
      have hc := t_cmpf (D) (Rat.divInt most 1) (by omega) (by omega) (by omega) (by omega)
      simp only [frac, ints] at hc
      generalize hcc : cmpR (D) (Rat.divInt most 1) = c at *
      refine DrawP_of 5 (by decide +kernel) ?_
      simp only [go_sem, Int.reduceNegSucc, Nat.reduceAdd, Nat.reduceSub, Nat.reduceMul, Nat.reduceEqDiff, Nat.reduceLeDiff, Nat.reduceLT, Nat.reduceBEq, Nat.reduceBNe, reduceIte, reduceCtorEq, Int.reduceToNat, Int.reduceAdd, Int.reduceSub, Int.reduceMul, Int.reduceNeg, Int.reduceLT, Int.reduceLE, Int.reduceEq, Int.reduceNe, ints, ic, frac]
      refine CallD_eq him (by decide) ?_
      simp only [go_sem, Int.reduceNegSucc, Nat.reduceAdd, Nat.reduceSub, Nat.reduceMul, Nat.reduceEqDiff, Nat.reduceLeDiff, Nat.reduceLT, Nat.reduceBEq, Nat.reduceBNe, reduceIte, reduceCtorEq, Int.reduceToNat, Int.reduceAdd, Int.reduceSub, Int.reduceMul, Int.reduceNeg, Int.reduceLT, Int.reduceLE, Int.reduceEq, Int.reduceNe, ints, ic, frac]
      refine CallD_eq hc (by decide) ?_
      simp only [go_sem, Int.reduceNegSucc, Nat.reduceAdd, Nat.reduceSub, Nat.reduceMul, Nat.reduceEqDiff, Nat.reduceLeDiff, Nat.reduceLT, Nat.reduceBEq, Nat.reduceBNe, reduceIte, reduceCtorEq, Int.reduceToNat, Int.reduceAdd, Int.reduceSub, Int.reduceMul, Int.reduceNeg, Int.reduceLT, Int.reduceLE, Int.reduceEq, Int.reduceNe, ints, ic, frac]
      refine Two_of (fun g1 => ?_) (fun g1 => ?_)
      · rw [hF (hnear.trans (by rw [g1]; rfl))]
        simp only [g1, go_sem, Int.reduceNegSucc, Nat.reduceAdd, Nat.reduceSub, Nat.reduceMul, Nat.reduceEqDiff, Nat.reduceLeDiff, Nat.reduceLT, Nat.reduceBEq, Nat.reduceBNe, reduceIte, reduceCtorEq, Int.reduceToNat, Int.reduceAdd, Int.reduceSub, Int.reduceMul, Int.reduceNeg, Int.reduceLT, Int.reduceLE, Int.reduceEq, Int.reduceNe, ints, ic, frac]
      · simp only [g1, go_sem, Int.reduceNegSucc, Nat.reduceAdd, Nat.reduceSub, Nat.reduceMul, Nat.reduceEqDiff, Nat.reduceLeDiff, Nat.reduceLT, Nat.reduceBEq, Nat.reduceBNe, reduceIte, reduceCtorEq, Int.reduceToNat, Int.reduceAdd, Int.reduceSub, Int.reduceMul, Int.reduceNeg, Int.reduceLT, Int.reduceLE, Int.reduceEq, Int.reduceNe, ints, ic, frac]
        cases less with
        | true =>
          simp only [g1, go_sem, Int.reduceNegSucc, Nat.reduceAdd, Nat.reduceSub, Nat.reduceMul, Nat.reduceEqDiff, Nat.reduceLeDiff, Nat.reduceLT, Nat.reduceBEq, Nat.reduceBNe, reduceIte, reduceCtorEq, Int.reduceToNat, Int.reduceAdd, Int.reduceSub, Int.reduceMul, Int.reduceNeg, Int.reduceLT, Int.reduceLE, Int.reduceEq, Int.reduceNe, ints, ic, frac]
          refine Two_of (fun g2 => ?_) (fun g2 => ?_)
          · rw [hF (hnear.trans (by rw [g1, g2]; rfl))]
            simp only [g1, g2, go_sem, Int.reduceNegSucc, Nat.reduceAdd, Nat.reduceSub, Nat.reduceMul, Nat.reduceEqDiff, Nat.reduceLeDiff, Nat.reduceLT, Nat.reduceBEq, Nat.reduceBNe, reduceIte, reduceCtorEq, Int.reduceToNat, Int.reduceAdd, Int.reduceSub, Int.reduceMul, Int.reduceNeg, Int.reduceLT, Int.reduceLE, Int.reduceEq, Int.reduceNe, ints, ic, frac]
          · have hok := hnear.trans (by rw [g1, g2]; rfl : _ = true)
            simp only [g1, g2, go_sem, Int.reduceNegSucc, Nat.reduceAdd, Nat.reduceSub, Nat.reduceMul, Nat.reduceEqDiff, Nat.reduceLeDiff, Nat.reduceLT, Nat.reduceBEq, Nat.reduceBNe, reduceIte, reduceCtorEq, Int.reduceToNat, Int.reduceAdd, Int.reduceSub, Int.reduceMul, Int.reduceNeg, Int.reduceLT, Int.reduceLE, Int.reduceEq, Int.reduceNe, ints, ic, frac]
            refine RoundP_of (i + 1) ?_ (by omega) ⟨by omega, fun j hj => ?_⟩
            · simp only [h1, Int.natCast_add, go_sem, Int.reduceNegSucc, Nat.reduceAdd, Nat.reduceSub, Nat.reduceMul, Nat.reduceEqDiff, Nat.reduceLeDiff, Nat.reduceLT, Nat.reduceBEq, Nat.reduceBNe, reduceIte, reduceCtorEq, Int.reduceToNat, Int.reduceAdd, Int.reduceSub, Int.reduceMul, Int.reduceNeg, Int.reduceLT, Int.reduceLE, Int.reduceEq, Int.reduceNe, ints, ic, frac]
            · rcases Nat.lt_or_ge j i with h | h
              · exact ha j h
              · rw [show j = i by omega]; exact hok
        | false =>
          have hok := hnear.trans (by rw [g1]; rfl : _ = true)
          simp only [g1, go_sem, Int.reduceNegSucc, Nat.reduceAdd, Nat.reduceSub, Nat.reduceMul, Nat.reduceEqDiff, Nat.reduceLeDiff, Nat.reduceLT, Nat.reduceBEq, Nat.reduceBNe, reduceIte, reduceCtorEq, Int.reduceToNat, Int.reduceAdd, Int.reduceSub, Int.reduceMul, Int.reduceNeg, Int.reduceLT, Int.reduceLE, Int.reduceEq, Int.reduceNe, ints, ic, frac]
          refine RoundP_of (i + 1) ?_ (by omega) ⟨by omega, fun j hj => ?_⟩
          · simp only [h1, Int.natCast_add, go_sem, Int.reduceNegSucc, Nat.reduceAdd, Nat.reduceSub, Nat.reduceMul, Nat.reduceEqDiff, Nat.reduceLeDiff, Nat.reduceLT, Nat.reduceBEq, Nat.reduceBNe, reduceIte, reduceCtorEq, Int.reduceToNat, Int.reduceAdd, Int.reduceSub, Int.reduceMul, Int.reduceNeg, Int.reduceLT, Int.reduceLE, Int.reduceEq, Int.reduceNe, ints, ic, frac]
          · rcases Nat.lt_or_ge j i with h | h
            · exact ha j h
            · rw [show j = i by omega]; exact hok
end Go.Proofs.Ytpnlfkaijdjhlaa
