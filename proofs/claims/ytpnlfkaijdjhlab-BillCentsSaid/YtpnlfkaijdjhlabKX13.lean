/-
  Bit operations on digits to the base 2^20. Program-independent. The generic layer under all claims of this repo: numbers, 5.
-/
import Derived.Test.YtpnlfkaijdjhlabKX12
import Derived.WalkKit
import Derived.IntWalk
namespace Go.Abs
set_option linter.all false

theorem ofInt_toNat (n : Int) : (BitVec.ofInt 64 n).toNat = (n % 18446744073709551616).toNat := by
  rw [BitVec.toNat_ofInt]; rfl
theorem and20 (n : Int) : bits .and .i64 n 1048575 = n % 1048576 := by
  have h1 : (BitVec.ofInt 64 n &&& BitVec.ofInt 64 1048575).toNat = (n % 1048576).toNat := by
    rw [BitVec.toNat_and, ofInt_toNat, ofInt_toNat]
    have e : ((1048575 : Int) % 18446744073709551616).toNat = 2 ^ 20 - 1 := by decide
    rw [e, Nat.and_two_pow_sub_one_eq_mod]
    have : (n % 18446744073709551616) % 1048576 = n % 1048576 := Int.emod_emod_of_dvd n ⟨17592186044416, by decide⟩
    omega
  have h2 : bits .and .i64 n 1048575 = IntKind.i64.wrap ((BitVec.ofInt 64 n &&& BitVec.ofInt 64 1048575).toNat : Nat) := rfl
  rw [h2, h1]
  have h3 := Int.emod_nonneg n (show (1048576 : Int) ≠ 0 by decide)
  have h4 := Int.emod_lt_of_pos n (show (0 : Int) < 1048576 by decide)
  rw [Int.toNat_of_nonneg h3]
  exact IntWalk.i64_in _ (by omega)
theorem or20 (r a : Int) (hr : 0 ≤ r ∧ r < 8796093022208) (ha : 0 ≤ a ∧ a < 1048576) : bits .or .i64 (r * 1048576) a = r * 1048576 + a := by
  have h1 : (BitVec.ofInt 64 (r * 1048576) ||| BitVec.ofInt 64 a).toNat = (r * 1048576 + a).toNat := by
    rw [BitVec.toNat_or, ofInt_toNat, ofInt_toNat, Int.emod_eq_of_lt (by omega) (by omega), Int.emod_eq_of_lt (by omega) (by omega)]
    have e1 : (r * 1048576).toNat = 2 ^ 20 * r.toNat := by omega
    rw [e1, ← Nat.two_pow_add_eq_or_of_lt (by omega : a.toNat < 2 ^ 20)]
    omega
  have h2 : bits .or .i64 (r * 1048576) a = IntKind.i64.wrap ((BitVec.ofInt 64 (r * 1048576) ||| BitVec.ofInt 64 a).toNat : Nat) := rfl
  rw [h2, h1, Int.toNat_of_nonneg (by omega)]
  exact IntWalk.i64_in _ (by omega)
theorem shr20 (n : Int) : n.fdiv (2 ^ 20) = n / 1048576 := Int.fdiv_eq_ediv_of_nonneg n (by decide)
theorem fd20 (n : Int) : n.fdiv 1048576 = n / 1048576 := Int.fdiv_eq_ediv_of_nonneg n (by decide)
theorem and1 (n : Int) (h : -9223372036854775808 ≤ n ∧ n ≤ 9223372036854775807) : bits .and .i64 n 1 = n % 2 := by
  have h1 : (BitVec.ofInt 64 n &&& BitVec.ofInt 64 1).toNat = (n % 2).toNat := by
    rw [BitVec.toNat_and, ofInt_toNat, ofInt_toNat]
    have e : ((1 : Int) % 18446744073709551616).toNat = 2 ^ 1 - 1 := by decide
    rw [e, Nat.and_two_pow_sub_one_eq_mod]
    omega
  have h2 : bits .and .i64 n 1 = IntKind.i64.wrap ((BitVec.ofInt 64 n &&& BitVec.ofInt 64 1).toNat : Nat) := rfl
  rw [h2, h1, Int.toNat_of_nonneg (by omega)]
  exact IntWalk.i64_in _ (by omega)
/-- One digit of a sum. -/
theorem add_step {out a b : List Int} {i : Nat} {c n : Int} (hi : i < out.length) (hz : dgt out i = 0) (h : val out + 1048576 ^ i * c = val (a.take i) + val (b.take i)) (hn : n = dgt a i + dgt b i + c) :
    val (out.set i (n % 1048576)) + 1048576 ^ (i + 1) * (n / 1048576) = val (a.take (i + 1)) + val (b.take (i + 1)) := by
  rw [val_set _ _ _ hi, hz, Int.sub_zero, val_take_succ, val_take_succ, pow_step]
  generalize (1048576 : Int) ^ i = p at *
  have e : p * (n % 1048576) + p * 1048576 * (n / 1048576) = p * n := by
    rw [Int.mul_assoc, ← Int.mul_add, Int.emod_add_mul_ediv]
  have e2 : p * n = p * dgt a i + p * dgt b i + p * c := by rw [hn, Int.mul_add, Int.mul_add]
  omega
/-- One digit of a difference, in place; V is the number from which it is taken. -/
theorem sub_step {out b : List Int} {i : Nat} {c n V : Int} (hi : i < out.length) (h : val out - 1048576 ^ i * c = V - val (b.take i)) (hn : n = dgt out i - dgt b i - c) :
    val (out.set i (n % 1048576)) - 1048576 ^ (i + 1) * -(n / 1048576) = V - val (b.take (i + 1)) := by
  rw [val_set _ _ _ hi, val_take_succ, pow_step]
  generalize (1048576 : Int) ^ i = p at *
  have e0 := Int.emod_add_mul_ediv n 1048576
  have e : p * (n % 1048576 - dgt out i) - p * 1048576 * -(n / 1048576) = p * (n - dgt out i) := by
    rw [Int.mul_assoc, ← Int.mul_sub]
    congr 1
    omega
  have e2 : p * (n - dgt out i) = -(p * dgt b i) - p * c := by
    rw [hn, show dgt out i - dgt b i - c - dgt out i = -dgt b i - c by omega, Int.mul_sub, Int.mul_neg]
  omega
theorem dgt_set_ne {l : List Int} {i j : Nat} {v : Int} (h : i ≠ j) : dgt (l.set i v) j = dgt l j := by
  unfold dgt; rw [List.getElem?_set_ne h]
theorem mb20 : min 20 64 = (20 : Nat) := rfl
theorem pw20 : (2 : Int) ^ 20 = 1048576 := by decide
end Go.Abs

namespace Go.Proofs.Ytpnlfkaijdjhlab
set_option linter.all false
open Go.Abs

set_option maxRecDepth 100000 in
set_option maxHeartbeats 1000000 in
/-- The quotient and the remainder of digits and one digit. -/
theorem t_short (a : List Int) (d : Int) (ha : OkD a) (hd : 1 ≤ d ∧ d < 1048576) (la : a.length ≤ 1000000) : Ctr G.P 87 [ints a, .int d] (· = .tup [ints (dig (val a / d).toNat), .int (val a % d)]) := by
  have w1 := i64_ok (n := (a.length : Int) - 1) (by omega)
  have w0 : (a.length : Int) * 8 ≤ 140737488355328 := by omega
  refine ctr_go good _ _ [.tmp 4, .tmp 5] Try.func87 rfl rfl (by decide +kernel) rfl ?_
  simp only [w1, w0, go_sem, Int.reduceNegSucc, Nat.reduceAdd, Nat.reduceSub, Nat.reduceMul, Nat.reduceEqDiff, Nat.reduceLeDiff, Nat.reduceLT, Nat.reduceBEq, Nat.reduceBNe, reduceIte, reduceCtorEq, Int.reduceToNat, Int.reduceAdd, Int.reduceSub, Int.reduceMul, Int.reduceNeg, Int.reduceLT, Int.reduceLE, Int.reduceEq, Int.reduceNe, ints, ic, mb20, pw20, fd20]
  refine LoopP_of [0, 1, 6, 7, 8] [11] (fun g : Nat × List Int × Int => ⟨[(0, .im (.sl (a.map ic))), (1, .im (.int d)), (6, .gsl 11 3 1 a.length), (7, .im (.int g.2.2)), (8, .im (.int ((g.1 : Int) - 1)))], [(11, 1, g.2.1.map ic)], []⟩)
    (fun g => g.1 ≤ a.length ∧ g.2.1.length = a.length ∧ OkD g.2.1 ∧ 0 ≤ g.2.2 ∧ g.2.2 < d ∧ val (a.drop g.1) = val (g.2.1.drop g.1) * d + g.2.2) (fun g => g.1) (a.length, List.replicate a.length 0, 0) ?_
    ⟨Nat.le_refl _, List.length_replicate, OkD.replicate _, Int.le_refl _, by dsimp only; omega, by
      dsimp only
      rw [List.drop_of_length_le (Nat.le_refl _), List.drop_of_length_le (by rw [List.length_replicate]; exact Nat.le_refl _)]
      simp [val]⟩ ?_
  · simp only [w1, List.map_replicate, List.length_replicate, go_sem, Int.reduceNegSucc, Nat.reduceAdd, Nat.reduceSub, Nat.reduceMul, Nat.reduceEqDiff, Nat.reduceLeDiff, Nat.reduceLT, Nat.reduceBEq, Nat.reduceBNe, reduceIte, reduceCtorEq, Int.reduceToNat, Int.reduceAdd, Int.reduceSub, Int.reduceMul, Int.reduceNeg, Int.reduceLT, Int.reduceLE, Int.reduceEq, Int.reduceNe, ints, ic, mb20, pw20, fd20]
  intro ⟨n, q, r⟩ ⟨h1, h2, h3, h4, h5, h6⟩
  dsimp only at h1 h2 h3 h4 h5 h6
  rcases n with _ | m
  · have hg : decide ((0 : Int) ≤ ((0 : Nat) : Int) - 1) = false := by decide
    rw [List.drop_zero, List.drop_zero] at h6
    obtain ⟨e1, e2⟩ := over_end h6 h4 h5
    have ht := t_ptrim q h3 (by omega)
    rw [e1] at ht
    rw [← e2]
    simp only [ints] at ht
    have hql : a.length ≤ q.length := by omega
    have htk : (q.map ic).take a.length = q.map ic := List.take_of_length_le (by rw [List.length_map]; omega)
    simp only [hg, hql, htk, go_sem, Int.reduceNegSucc, Nat.reduceAdd, Nat.reduceSub, Nat.reduceMul, Nat.reduceEqDiff, Nat.reduceLeDiff, Nat.reduceLT, Nat.reduceBEq, Nat.reduceBNe, reduceIte, reduceCtorEq, Int.reduceToNat, Int.reduceAdd, Int.reduceSub, Int.reduceMul, Int.reduceNeg, Int.reduceLT, Int.reduceLE, Int.reduceEq, Int.reduceNe, ints, ic, mb20, pw20, fd20]
    refine CallP_eq ht (by decide) ?_
    simp only [go_sem, Int.reduceNegSucc, Nat.reduceAdd, Nat.reduceSub, Nat.reduceMul, Nat.reduceEqDiff, Nat.reduceLeDiff, Nat.reduceLT, Nat.reduceBEq, Nat.reduceBNe, reduceIte, reduceCtorEq, Int.reduceToNat, Int.reduceAdd, Int.reduceSub, Int.reduceMul, Int.reduceNeg, Int.reduceLT, Int.reduceLE, Int.reduceEq, Int.reduceNe, ints, ic, mb20, pw20, fd20]
  · have e1 : ((m + 1 : Nat) : Int) - 1 = m := by omega
    have hg : decide ((0 : Int) ≤ (m : Int)) = true := decide_eq_true (by omega)
    have hx := get_nat (l := a) (i := m) (by omega)
    have hda := ha.dgt m
    have hq : (m : Int) < a.length := by omega
    have hqx := get_nat (l := q) (i := m) (by omega)
    have w2 := i64_ok (n := r * 1048576) (by omega)
    have w3 := or20 r (dgt a m) (by omega) hda
    generalize hR : r * 1048576 + dgt a m = R at *
    have hR0 : 0 ≤ R := by omega
    have hRd : R < d * 1048576 := by omega
    have hlo : R / d < 1048576 := Int.ediv_lt_of_lt_mul (by omega) (by rw [Int.mul_comm]; exact hRd)
    have hlo0 : 0 ≤ R / d := Int.ediv_nonneg hR0 (by omega)
    have w4 : IntKind.i64.wrap (R.tdiv d) = R / d := by
      rw [Int.tdiv_eq_ediv_of_nonneg hR0]; exact i64_ok (by omega)
    have w5 : R.tmod d = R % d := Int.tmod_eq_emod_of_nonneg hR0
    have w6 : decide (d = 0) = false := decide_eq_false (by omega)
    have w7 := i64_ok (n := (m : Int) - 1) (by omega)
    have d0 : ¬ d = 0 := by omega
    have hs := over_step (lo := R / d) (by omega : m < q.length) h6
    have hmod := Int.emod_nonneg R (by omega : d ≠ 0)
    have hmod2 := Int.emod_lt_of_pos R (by omega : 0 < d)
    have hdm : dgt a m + 1048576 * r - R / d * d = R % d := by
      have := Int.emod_add_mul_ediv R d
      rw [Int.mul_comm (R / d) d]; omega
    rw [hdm] at hs
    simp only [e1, hg, hq, List.getElem?_map, hx, hqx, w2, w3, w4, w5, w6, d0, ← List.map_set, go_sem, Int.reduceNegSucc, Nat.reduceAdd, Nat.reduceSub, Nat.reduceMul, Nat.reduceEqDiff, Nat.reduceLeDiff, Nat.reduceLT, Nat.reduceBEq, Nat.reduceBNe, reduceIte, reduceCtorEq, Int.reduceToNat, Int.reduceAdd, Int.reduceSub, Int.reduceMul, Int.reduceNeg, Int.reduceLT, Int.reduceLE, Int.reduceEq, Int.reduceNe, ints, ic, mb20, pw20, fd20]
    refine RoundP_of (m, q.set m (R / d), R % d) ?_ ?_ ⟨?_, ?_, ?_, hmod, hmod2, hs⟩
    · simp only [w7, List.map_set, go_sem, Int.reduceNegSucc, Nat.reduceAdd, Nat.reduceSub, Nat.reduceMul, Nat.reduceEqDiff, Nat.reduceLeDiff, Nat.reduceLT, Nat.reduceBEq, Nat.reduceBNe, reduceIte, reduceCtorEq, Int.reduceToNat, Int.reduceAdd, Int.reduceSub, Int.reduceMul, Int.reduceNeg, Int.reduceLT, Int.reduceLE, Int.reduceEq, Int.reduceNe, ints, ic, mb20, pw20, fd20]
    · show m < m + 1; omega
    · show m ≤ a.length; omega
    · show (q.set m (R / d)).length = a.length; rw [List.length_set]; exact h2
    · exact h3.set ⟨hlo0, hlo⟩
end Go.Proofs.Ytpnlfkaijdjhlab

namespace Go.Proofs.Ytpnlfkaijdjhlab
set_option linter.all false
open Go.Abs

/-- The digits of a number, filled up with zeros. -/
def padD (n v : Nat) : List Int := dig v ++ List.replicate (n - (dig v).length) 0
theorem val_zeros {l : List Int} (hl : OkD l) (h : val l = 0) : l = List.replicate l.length 0 := by
  induction l with
  | nil => rfl
  | cons d l ih =>
    have h1 := hl.head
    have h2 := val_nonneg hl.tail
    simp only [val] at h
    have h3 := ih hl.tail (by omega)
    rw [List.length_cons, List.replicate_succ, ← h3, show d = 0 by omega]
theorem pad_eq {l : List Int} (hl : OkD l) : l = padD l.length (val l).toNat := by
  have hlen : (dig (val l).toNat).length ≤ l.length := by
    refine dig_len_le ?_
    rw [Int.toNat_of_nonneg (val_nonneg hl)]; exact val_lt hl
  have h0 := val_nonneg hl
  have hv : val (dig (val l).toNat) = val l := by rw [val_dig]; omega
  have h1 := val_split l (dig (val l).toNat).length
  have hlt : val l < 1048576 ^ (dig (val l).toNat).length := by
    have := val_lt (dig_ok (val l).toNat)
    rw [hv] at this; exact this
  have h2 := drop_zero_of_lt hl hlt
  have h3 := val_zeros (hl.drop (dig (val l).toNat).length) h2
  have h4 := take_of_lt hl hlt
  have h5 : l.take (dig (val l).toNat).length = dig (val l).toNat := by
    have : ∀ (a b : List Int), OkD a → OkD b → a.length = b.length → val a = val b → a = b := by
      intro a
      induction a with
      | nil => intro b _ _ h _; exact (List.eq_nil_of_length_eq_zero h.symm).symm
      | cons d a ih =>
        intro b ha hb h hv
        cases b with
        | nil => simp at h
        | cons e b =>
          have g1 := ha.head
          have g2 := hb.head
          simp only [val] at hv
          rw [show d = e by omega, ih b ha.tail hb.tail (by simpa using h) (by omega)]
    refine this _ _ (hl.take _) (dig_ok _) (by rw [List.length_take]; omega) (by rw [h4, hv])
  conv => lhs; rw [← List.take_append_drop (dig (val l).toNat).length l]
  rw [h5, h3, List.length_drop]
  rfl
theorem mul_last {a b out : List Int} {i : Nat} {c : Int} (hl : i + b.length < out.length) (ho : OkD out) (hz : ∀ j, i + b.length ≤ j → dgt out j = 0) (hc : 0 ≤ c ∧ c < 1048576)
    (hv : val out + 1048576 ^ (i + b.length) * c = val (a.take i) * val b + 1048576 ^ i * (dgt a i * val b)) :
    OkD (out.set (i + b.length) c) ∧ (out.set (i + b.length) c).length = out.length ∧ val (out.set (i + b.length) c) = val (a.take (i + 1)) * val b ∧ ∀ j, i + 1 + b.length ≤ j → dgt (out.set (i + b.length) c) j = 0 := by
  refine ⟨ho.set hc, List.length_set, ?_, fun j hj => ?_⟩
  · rw [val_set _ _ _ hl, hz _ (Nat.le_refl _), Int.sub_zero, hv, val_take_succ, Int.add_mul, Int.mul_assoc]
  · have := hz j (by omega)
    unfold dgt at this ⊢
    rw [List.getElem?_set_ne (by omega)]; exact this
set_option maxRecDepth 100000 in
set_option maxHeartbeats 2000000 in
theorem t_pmul (a b : List Int) (ha : OkD a) (hb : OkD b) (la : a.length ≤ 100000) (lb : b.length ≤ 100000) : Ctr G.P 89 [ints a, ints b] (· = ints (dig (val a * val b).toNat)) := by
  have w0 := i64_ok (n := (a.length : Int) + b.length) (by omega)
  have w00 : ((a.length : Int) + b.length) * 8 ≤ 140737488355328 := by omega
  have w01 : (0 : Int) ≤ (a.length : Int) + b.length := by omega
  have w02 : ((a.length : Int) + b.length).toNat = a.length + b.length := by omega
  refine ctr_go good _ _ [.tmp 4] Try.func89 rfl rfl (by decide +kernel) rfl ?_
  simp only [w0, w00, w01, w02, go_sem, Int.reduceNegSucc, Nat.reduceAdd, Nat.reduceSub, Nat.reduceMul, Nat.reduceEqDiff, Nat.reduceLeDiff, Nat.reduceLT, Nat.reduceBEq, Nat.reduceBNe, reduceIte, reduceCtorEq, Int.reduceToNat, Int.reduceAdd, Int.reduceSub, Int.reduceMul, Int.reduceNeg, Int.reduceLT, Int.reduceLE, Int.reduceEq, Int.reduceNe, ints, ic, mb20, pw20, fd20]
  refine LoopP_of [1, 5, 18, 19, 20] [17] (fun g : Nat × List Int => ⟨[(1, .im (.sl (b.map ic))), (5, .gsl 17 3 1 (a.length + b.length)), (18, .im (.sl (a.map ic))), (19, .im (.int a.length)), (20, .im (.int g.1))], [(17, 1, g.2.map ic)], []⟩)
    (fun g => g.1 ≤ a.length ∧ g.2.length = a.length + b.length ∧ OkD g.2 ∧ val g.2 = val (a.take g.1) * val b ∧ ∀ j, g.1 + b.length ≤ j → dgt g.2 j = 0) (fun g => a.length - g.1) (0, List.replicate (a.length + b.length) 0) ?_
    ⟨Nat.zero_le _, List.length_replicate, OkD.replicate _, by dsimp only; rw [val_replicate]; simp [val], fun j _ => by
      unfold dgt; rw [List.getElem?_replicate]; split <;> rfl⟩ ?_
  · simp only [Int.natCast_zero, List.map_replicate, List.length_replicate, go_sem, Int.reduceNegSucc, Nat.reduceAdd, Nat.reduceSub, Nat.reduceMul, Nat.reduceEqDiff, Nat.reduceLeDiff, Nat.reduceLT, Nat.reduceBEq, Nat.reduceBNe, reduceIte, reduceCtorEq, Int.reduceToNat, Int.reduceAdd, Int.reduceSub, Int.reduceMul, Int.reduceNeg, Int.reduceLT, Int.reduceLE, Int.reduceEq, Int.reduceNe, ints, ic, mb20, pw20, fd20]
  intro ⟨i, out0⟩ ⟨hi, hl0, ho0, hv0, hz0⟩
  dsimp only at hi hl0 ho0 hv0 hz0
  by_cases hp : (i : Int) < a.length
  case neg =>
    have hd : decide ((i : Int) < a.length) = false := decide_eq_false hp
    rw [val_take_all (l := a) (i := i) (by omega)] at hv0
    have ht := t_ptrim out0 ho0 (by omega)
    rw [hv0] at ht
    have hall : (out0.map ic).take (a.length + b.length) = out0.map ic := List.take_of_length_le (by rw [List.length_map]; omega)
    have hle : a.length + b.length ≤ out0.length := by omega
    simp only [ints] at ht
    simp only [hd, hle, hall, go_sem, Int.reduceNegSucc, Nat.reduceAdd, Nat.reduceSub, Nat.reduceMul, Nat.reduceEqDiff, Nat.reduceLeDiff, Nat.reduceLT, Nat.reduceBEq, Nat.reduceBNe, reduceIte, reduceCtorEq, Int.reduceToNat, Int.reduceAdd, Int.reduceSub, Int.reduceMul, Int.reduceNeg, Int.reduceLT, Int.reduceLE, Int.reduceEq, Int.reduceNe, ints, ic, mb20, pw20, fd20]
    refine CallP_eq ht (by decide) ?_
    simp only [go_sem, Int.reduceNegSucc, Nat.reduceAdd, Nat.reduceSub, Nat.reduceMul, Nat.reduceEqDiff, Nat.reduceLeDiff, Nat.reduceLT, Nat.reduceBEq, Nat.reduceBNe, reduceIte, reduceCtorEq, Int.reduceToNat, Int.reduceAdd, Int.reduceSub, Int.reduceMul, Int.reduceNeg, Int.reduceLT, Int.reduceLE, Int.reduceEq, Int.reduceNe, ints, ic, mb20, pw20, fd20]
  case pos =>
    have hd : decide ((i : Int) < a.length) = true := decide_eq_true hp
    have hx := get_nat hp
    have h1 := i64_ok (n := (i : Int) + 1) (by omega)
    simp only [hd, List.getElem?_map, hx, go_sem, Int.reduceNegSucc, Nat.reduceAdd, Nat.reduceSub, Nat.reduceMul, Nat.reduceEqDiff, Nat.reduceLeDiff, Nat.reduceLT, Nat.reduceBEq, Nat.reduceBNe, reduceIte, reduceCtorEq, Int.reduceToNat, Int.reduceAdd, Int.reduceSub, Int.reduceMul, Int.reduceNeg, Int.reduceLT, Int.reduceLE, Int.reduceEq, Int.reduceNe, ints, ic, mb20, pw20, fd20]
    refine LoopP_of [1, 5, 6, 7, 8, 18, 19, 20, 25, 26, 27] [17] (fun g : Nat × List Int × Int => ⟨[(1, .im (.sl (b.map ic))), (5, .gsl 17 3 1 (a.length + b.length)), (6, .im (.int i)), (7, .im (.int (dgt a i))), (8, .im (.int g.2.2)), (18, .im (.sl (a.map ic))), (19, .im (.int a.length)), (20, .im (.int i)), (25, .im (.sl (b.map ic))), (26, .im (.int b.length)), (27, .im (.int g.1))], [(17, 1, g.2.1.map ic)], []⟩)
      (fun g => g.1 ≤ b.length ∧ g.2.1.length = a.length + b.length ∧ OkD g.2.1 ∧ 0 ≤ g.2.2 ∧ g.2.2 < 1048576 ∧ val g.2.1 + 1048576 ^ (i + g.1) * g.2.2 = val (a.take i) * val b + 1048576 ^ i * (dgt a i * val (b.take g.1)) ∧ ∀ j, i + b.length ≤ j → dgt g.2.1 j = 0)
      (fun g => b.length - g.1) (0, out0, 0) ?_ ⟨Nat.zero_le _, hl0, ho0, Int.le_refl _, by dsimp only; omega, by dsimp only; rw [List.take_zero, hv0]; simp [val], hz0⟩ ?_
    · simp only [Int.natCast_zero, go_sem, Int.reduceNegSucc, Nat.reduceAdd, Nat.reduceSub, Nat.reduceMul, Nat.reduceEqDiff, Nat.reduceLeDiff, Nat.reduceLT, Nat.reduceBEq, Nat.reduceBNe, reduceIte, reduceCtorEq, Int.reduceToNat, Int.reduceAdd, Int.reduceSub, Int.reduceMul, Int.reduceNeg, Int.reduceLT, Int.reduceLE, Int.reduceEq, Int.reduceNe, ints, ic, mb20, pw20, fd20]
    intro ⟨k, out, c⟩ ⟨hk, hl, ho, hc0, hc1, hv, hz⟩
    dsimp only at hk hl ho hc0 hc1 hv hz
    by_cases hkl : (k : Int) < b.length
    case neg =>
      have d1 : decide ((k : Int) < b.length) = false := decide_eq_false hkl
      have hkb : k = b.length := by omega
      subst hkb
      rw [val_take_all (l := b) (Nat.le_refl _)] at hv
      obtain ⟨g1, g2, g3, g4⟩ := mul_last (a := a) (by omega) ho hz ⟨hc0, hc1⟩ hv
      have w1 := i64_ok (n := (i : Int) + b.length) (by omega)
      have hjn : ((i : Int) + b.length).toNat = i + b.length := by omega
      have hj0 : (0 : Int) ≤ (i : Int) + b.length := by omega
      have hjl : (i : Int) + b.length < ((a.length + b.length : Nat) : Int) := by omega
      have hy : out[i + b.length]? = some (dgt out (i + b.length)) := get_nat (by omega)
      rw [hz _ (Nat.le_refl _)] at hy
      have w2 := i64_ok (n := 0 + c) (by omega)
      rw [Int.zero_add] at w2
      simp only [d1, w1, hjn, hj0, hjl, List.getElem?_map, hy, w2, Int.zero_add, go_sem, Int.reduceNegSucc, Nat.reduceAdd, Nat.reduceSub, Nat.reduceMul, Nat.reduceEqDiff, Nat.reduceLeDiff, Nat.reduceLT, Nat.reduceBEq, Nat.reduceBNe, reduceIte, reduceCtorEq, Int.reduceToNat, Int.reduceAdd, Int.reduceSub, Int.reduceMul, Int.reduceNeg, Int.reduceLT, Int.reduceLE, Int.reduceEq, Int.reduceNe, ints, ic, mb20, pw20, fd20]
      refine RoundP_of (i + 1, out.set (i + b.length) c) ?_ ?_ ⟨?_, ?_, g1, g3, g4⟩
      · simp only [h1, Int.natCast_add, List.map_set, go_sem, Int.reduceNegSucc, Nat.reduceAdd, Nat.reduceSub, Nat.reduceMul, Nat.reduceEqDiff, Nat.reduceLeDiff, Nat.reduceLT, Nat.reduceBEq, Nat.reduceBNe, reduceIte, reduceCtorEq, Int.reduceToNat, Int.reduceAdd, Int.reduceSub, Int.reduceMul, Int.reduceNeg, Int.reduceLT, Int.reduceLE, Int.reduceEq, Int.reduceNe, ints, ic, mb20, pw20, fd20]
      · show a.length - (i + 1) < a.length - i; omega
      · show i + 1 ≤ a.length; omega
      · show (out.set (i + b.length) c).length = _; rw [g2]; exact hl
    case pos =>
      have d1 : decide ((k : Int) < b.length) = true := decide_eq_true hkl
      have hyb := get_nat hkl
      have hda := ha.dgt i
      have hdb := hb.dgt k
      have hdo := ho.dgt (i + k)
      have hmul := mul_lt_sq hda hdb
      have w1 := i64_ok (n := (i : Int) + k) (by omega)
      have w2 := i64_ok (n := dgt a i * dgt b k) (by omega)
      have w3 := i64_ok (n := dgt out (i + k) + dgt a i * dgt b k) (by omega)
      have w4 := i64_ok (n := dgt out (i + k) + dgt a i * dgt b k + c) (by omega)
      have w5 := i64_ok (n := (k : Int) + 1) (by omega)
      have hjn : ((i : Int) + k).toNat = i + k := by omega
      have hj0 : (0 : Int) ≤ (i : Int) + k := by omega
      have hjl : (i : Int) + k < ((a.length + b.length : Nat) : Int) := by omega
      have hy : out[i + k]? = some (dgt out (i + k)) := get_nat (by omega)
      have hs := times_step (out := out) (b := b) (j := i + k) (i := i) (k := k) (c := c) (x := dgt a i) (V := val (a.take i) * val b) rfl (by omega) hv rfl
      generalize hn : dgt out (i + k) + dgt a i * dgt b k + c = n at *
      have a1 := and20 n
      simp only [d1, List.getElem?_map, hyb, w1, w2, hjn, hj0, hjl, hy, w3, hn, w4, a1, go_sem, Int.reduceNegSucc, Nat.reduceAdd, Nat.reduceSub, Nat.reduceMul, Nat.reduceEqDiff, Nat.reduceLeDiff, Nat.reduceLT, Nat.reduceBEq, Nat.reduceBNe, reduceIte, reduceCtorEq, Int.reduceToNat, Int.reduceAdd, Int.reduceSub, Int.reduceMul, Int.reduceNeg, Int.reduceLT, Int.reduceLE, Int.reduceEq, Int.reduceNe, ints, ic, mb20, pw20, fd20]
      refine RoundP_of (k + 1, out.set (i + k) (n % 1048576), n / 1048576) ?_ ?_ ⟨?_, ?_, ho.set (by omega), ?_, ?_, hs, fun j hj => ?_⟩
      · simp only [w5, hn, w4, Int.natCast_add, List.map_set, go_sem, Int.reduceNegSucc, Nat.reduceAdd, Nat.reduceSub, Nat.reduceMul, Nat.reduceEqDiff, Nat.reduceLeDiff, Nat.reduceLT, Nat.reduceBEq, Nat.reduceBNe, reduceIte, reduceCtorEq, Int.reduceToNat, Int.reduceAdd, Int.reduceSub, Int.reduceMul, Int.reduceNeg, Int.reduceLT, Int.reduceLE, Int.reduceEq, Int.reduceNe, ints, ic, mb20, pw20, fd20]
      · show b.length - (k + 1) < b.length - k; omega
      · show k + 1 ≤ b.length; omega
      · show (out.set (i + k) _).length = _; rw [List.length_set]; exact hl
      · show 0 ≤ n / 1048576; omega
      · show n / 1048576 < 1048576; omega
      · have := hz j hj
        unfold dgt at this ⊢
        rw [List.getElem?_set_ne (by omega)]; exact this
set_option maxRecDepth 100000 in
set_option maxHeartbeats 2000000 in
/-- The product, as a slice that is written to. -/
theorem t_pmulO (a b : List Int) (ha : OkD a) (hb : OkD b) (la : a.length ≤ 100000) (lb : b.length ≤ 100000) :
    CtrM G.P 89 [.im (ints a), .im (ints b)] [] (fun r Es new => r = .gsl 901 3 1 (dig (val a * val b).toNat).length ∧ Es = [] ∧ new = some (1, (padD (a.length + b.length) (val a * val b).toNat).map ic)) := by
  have w0 := i64_ok (n := (a.length : Int) + b.length) (by omega)
  have w00 : ((a.length : Int) + b.length) * 8 ≤ 140737488355328 := by omega
  have w01 : (0 : Int) ≤ (a.length : Int) + b.length := by omega
  have w02 : ((a.length : Int) + b.length).toNat = a.length + b.length := by omega
  refine ctrm_go good _ _ [.tmp 4] Try.func89 rfl rfl (by decide +kernel) rfl rfl (by simp) ?_
  simp only [w0, w00, w01, w02, go_sem, Int.reduceNegSucc, Nat.reduceAdd, Nat.reduceSub, Nat.reduceMul, Nat.reduceEqDiff, Nat.reduceLeDiff, Nat.reduceLT, Nat.reduceBEq, Nat.reduceBNe, reduceIte, reduceCtorEq, Int.reduceToNat, Int.reduceAdd, Int.reduceSub, Int.reduceMul, Int.reduceNeg, Int.reduceLT, Int.reduceLE, Int.reduceEq, Int.reduceNe, ints, ic, mb20, pw20, fd20]
  refine LoopP_of [1, 5, 18, 19, 20] [17] (fun g : Nat × List Int => ⟨[(1, .im (.sl (b.map ic))), (5, .gsl 17 3 1 (a.length + b.length)), (18, .im (.sl (a.map ic))), (19, .im (.int a.length)), (20, .im (.int g.1))], [(17, 1, g.2.map ic)], []⟩)
    (fun g => g.1 ≤ a.length ∧ g.2.length = a.length + b.length ∧ OkD g.2 ∧ val g.2 = val (a.take g.1) * val b ∧ ∀ j, g.1 + b.length ≤ j → dgt g.2 j = 0) (fun g => a.length - g.1) (0, List.replicate (a.length + b.length) 0) ?_
    ⟨Nat.zero_le _, List.length_replicate, OkD.replicate _, by dsimp only; rw [val_replicate]; simp [val], fun j _ => by
      unfold dgt; rw [List.getElem?_replicate]; split <;> rfl⟩ ?_
  · simp only [Int.natCast_zero, List.map_replicate, List.length_replicate, go_sem, Int.reduceNegSucc, Nat.reduceAdd, Nat.reduceSub, Nat.reduceMul, Nat.reduceEqDiff, Nat.reduceLeDiff, Nat.reduceLT, Nat.reduceBEq, Nat.reduceBNe, reduceIte, reduceCtorEq, Int.reduceToNat, Int.reduceAdd, Int.reduceSub, Int.reduceMul, Int.reduceNeg, Int.reduceLT, Int.reduceLE, Int.reduceEq, Int.reduceNe, ints, ic, mb20, pw20, fd20]
  intro ⟨i, out0⟩ ⟨hi, hl0, ho0, hv0, hz0⟩
  dsimp only at hi hl0 ho0 hv0 hz0
  by_cases hp : (i : Int) < a.length
  case neg =>
    have hd : decide ((i : Int) < a.length) = false := decide_eq_false hp
    rw [val_take_all (l := a) (i := i) (by omega)] at hv0
    have ht := t_ptrimO out0 ho0 (by omega)
    rw [hv0, hl0] at ht
    have hpad := pad_eq ho0
    rw [hl0, hv0] at hpad
    have hall : (out0.map ic).take (a.length + b.length) = out0.map ic := List.take_of_length_le (by rw [List.length_map]; omega)
    have hle : a.length + b.length ≤ out0.length := by omega
    simp only [hd, hle, hall, go_sem, Int.reduceNegSucc, Nat.reduceAdd, Nat.reduceSub, Nat.reduceMul, Nat.reduceEqDiff, Nat.reduceLeDiff, Nat.reduceLT, Nat.reduceBEq, Nat.reduceBNe, reduceIte, reduceCtorEq, Int.reduceToNat, Int.reduceAdd, Int.reduceSub, Int.reduceMul, Int.reduceNeg, Int.reduceLT, Int.reduceLE, Int.reduceEq, Int.reduceNe, ints, ic, mb20, pw20, fd20]
    refine CallP_m [(900, 17)] (ht) (by decide) (by simp) (by simp [rnm, look]) (by repeat' (first | exact trivial | refine ⟨rfl, ?_⟩)) rfl rfl rfl rfl ?_
    simp only [hpad, eq_self, go_sem, Int.reduceNegSucc, Nat.reduceAdd, Nat.reduceSub, Nat.reduceMul, Nat.reduceEqDiff, Nat.reduceLeDiff, Nat.reduceLT, Nat.reduceBEq, Nat.reduceBNe, reduceIte, reduceCtorEq, Int.reduceToNat, Int.reduceAdd, Int.reduceSub, Int.reduceMul, Int.reduceNeg, Int.reduceLT, Int.reduceLE, Int.reduceEq, Int.reduceNe, ints, ic, mb20, pw20, fd20]
  case pos =>
    have hd : decide ((i : Int) < a.length) = true := decide_eq_true hp
    have hx := get_nat hp
    have h1 := i64_ok (n := (i : Int) + 1) (by omega)
    simp only [hd, List.getElem?_map, hx, go_sem, Int.reduceNegSucc, Nat.reduceAdd, Nat.reduceSub, Nat.reduceMul, Nat.reduceEqDiff, Nat.reduceLeDiff, Nat.reduceLT, Nat.reduceBEq, Nat.reduceBNe, reduceIte, reduceCtorEq, Int.reduceToNat, Int.reduceAdd, Int.reduceSub, Int.reduceMul, Int.reduceNeg, Int.reduceLT, Int.reduceLE, Int.reduceEq, Int.reduceNe, ints, ic, mb20, pw20, fd20]
    refine LoopP_of [1, 5, 6, 7, 8, 18, 19, 20, 25, 26, 27] [17] (fun g : Nat × List Int × Int => ⟨[(1, .im (.sl (b.map ic))), (5, .gsl 17 3 1 (a.length + b.length)), (6, .im (.int i)), (7, .im (.int (dgt a i))), (8, .im (.int g.2.2)), (18, .im (.sl (a.map ic))), (19, .im (.int a.length)), (20, .im (.int i)), (25, .im (.sl (b.map ic))), (26, .im (.int b.length)), (27, .im (.int g.1))], [(17, 1, g.2.1.map ic)], []⟩)
      (fun g => g.1 ≤ b.length ∧ g.2.1.length = a.length + b.length ∧ OkD g.2.1 ∧ 0 ≤ g.2.2 ∧ g.2.2 < 1048576 ∧ val g.2.1 + 1048576 ^ (i + g.1) * g.2.2 = val (a.take i) * val b + 1048576 ^ i * (dgt a i * val (b.take g.1)) ∧ ∀ j, i + b.length ≤ j → dgt g.2.1 j = 0)
      (fun g => b.length - g.1) (0, out0, 0) ?_ ⟨Nat.zero_le _, hl0, ho0, Int.le_refl _, by dsimp only; omega, by dsimp only; rw [List.take_zero, hv0]; simp [val], hz0⟩ ?_
    · simp only [Int.natCast_zero, go_sem, Int.reduceNegSucc, Nat.reduceAdd, Nat.reduceSub, Nat.reduceMul, Nat.reduceEqDiff, Nat.reduceLeDiff, Nat.reduceLT, Nat.reduceBEq, Nat.reduceBNe, reduceIte, reduceCtorEq, Int.reduceToNat, Int.reduceAdd, Int.reduceSub, Int.reduceMul, Int.reduceNeg, Int.reduceLT, Int.reduceLE, Int.reduceEq, Int.reduceNe, ints, ic, mb20, pw20, fd20]
    intro ⟨k, out, c⟩ ⟨hk, hl, ho, hc0, hc1, hv, hz⟩
    dsimp only at hk hl ho hc0 hc1 hv hz
    by_cases hkl : (k : Int) < b.length
    case neg =>
      have d1 : decide ((k : Int) < b.length) = false := decide_eq_false hkl
      have hkb : k = b.length := by omega
      subst hkb
      rw [val_take_all (l := b) (Nat.le_refl _)] at hv
      obtain ⟨g1, g2, g3, g4⟩ := mul_last (a := a) (by omega) ho hz ⟨hc0, hc1⟩ hv
      have w1 := i64_ok (n := (i : Int) + b.length) (by omega)
      have hjn : ((i : Int) + b.length).toNat = i + b.length := by omega
      have hj0 : (0 : Int) ≤ (i : Int) + b.length := by omega
      have hjl : (i : Int) + b.length < ((a.length + b.length : Nat) : Int) := by omega
      have hy : out[i + b.length]? = some (dgt out (i + b.length)) := get_nat (by omega)
      rw [hz _ (Nat.le_refl _)] at hy
      have w2 := i64_ok (n := 0 + c) (by omega)
      rw [Int.zero_add] at w2
      simp only [d1, w1, hjn, hj0, hjl, List.getElem?_map, hy, w2, Int.zero_add, go_sem, Int.reduceNegSucc, Nat.reduceAdd, Nat.reduceSub, Nat.reduceMul, Nat.reduceEqDiff, Nat.reduceLeDiff, Nat.reduceLT, Nat.reduceBEq, Nat.reduceBNe, reduceIte, reduceCtorEq, Int.reduceToNat, Int.reduceAdd, Int.reduceSub, Int.reduceMul, Int.reduceNeg, Int.reduceLT, Int.reduceLE, Int.reduceEq, Int.reduceNe, ints, ic, mb20, pw20, fd20]
      refine RoundP_of (i + 1, out.set (i + b.length) c) ?_ ?_ ⟨?_, ?_, g1, g3, g4⟩
      · simp only [h1, Int.natCast_add, List.map_set, go_sem, Int.reduceNegSucc, Nat.reduceAdd, Nat.reduceSub, Nat.reduceMul, Nat.reduceEqDiff, Nat.reduceLeDiff, Nat.reduceLT, Nat.reduceBEq, Nat.reduceBNe, reduceIte, reduceCtorEq, Int.reduceToNat, Int.reduceAdd, Int.reduceSub, Int.reduceMul, Int.reduceNeg, Int.reduceLT, Int.reduceLE, Int.reduceEq, Int.reduceNe, ints, ic, mb20, pw20, fd20]
      · show a.length - (i + 1) < a.length - i; omega
      · show i + 1 ≤ a.length; omega
      · show (out.set (i + b.length) c).length = _; rw [g2]; exact hl
    case pos =>
      have d1 : decide ((k : Int) < b.length) = true := decide_eq_true hkl
      have hyb := get_nat hkl
      have hda := ha.dgt i
      have hdb := hb.dgt k
      have hdo := ho.dgt (i + k)
      have hmul := mul_lt_sq hda hdb
      have w1 := i64_ok (n := (i : Int) + k) (by omega)
      have w2 := i64_ok (n := dgt a i * dgt b k) (by omega)
      have w3 := i64_ok (n := dgt out (i + k) + dgt a i * dgt b k) (by omega)
      have w4 := i64_ok (n := dgt out (i + k) + dgt a i * dgt b k + c) (by omega)
      have w5 := i64_ok (n := (k : Int) + 1) (by omega)
      have hjn : ((i : Int) + k).toNat = i + k := by omega
      have hj0 : (0 : Int) ≤ (i : Int) + k := by omega
      have hjl : (i : Int) + k < ((a.length + b.length : Nat) : Int) := by omega
      have hy : out[i + k]? = some (dgt out (i + k)) := get_nat (by omega)
      have hs := times_step (out := out) (b := b) (j := i + k) (i := i) (k := k) (c := c) (x := dgt a i) (V := val (a.take i) * val b) rfl (by omega) hv rfl
      generalize hn : dgt out (i + k) + dgt a i * dgt b k + c = n at *
      have a1 := and20 n
      simp only [d1, List.getElem?_map, hyb, w1, w2, hjn, hj0, hjl, hy, w3, hn, w4, a1, go_sem, Int.reduceNegSucc, Nat.reduceAdd, Nat.reduceSub, Nat.reduceMul, Nat.reduceEqDiff, Nat.reduceLeDiff, Nat.reduceLT, Nat.reduceBEq, Nat.reduceBNe, reduceIte, reduceCtorEq, Int.reduceToNat, Int.reduceAdd, Int.reduceSub, Int.reduceMul, Int.reduceNeg, Int.reduceLT, Int.reduceLE, Int.reduceEq, Int.reduceNe, ints, ic, mb20, pw20, fd20]
      refine RoundP_of (k + 1, out.set (i + k) (n % 1048576), n / 1048576) ?_ ?_ ⟨?_, ?_, ho.set (by omega), ?_, ?_, hs, fun j hj => ?_⟩
      · simp only [w5, hn, w4, Int.natCast_add, List.map_set, go_sem, Int.reduceNegSucc, Nat.reduceAdd, Nat.reduceSub, Nat.reduceMul, Nat.reduceEqDiff, Nat.reduceLeDiff, Nat.reduceLT, Nat.reduceBEq, Nat.reduceBNe, reduceIte, reduceCtorEq, Int.reduceToNat, Int.reduceAdd, Int.reduceSub, Int.reduceMul, Int.reduceNeg, Int.reduceLT, Int.reduceLE, Int.reduceEq, Int.reduceNe, ints, ic, mb20, pw20, fd20]
      · show b.length - (k + 1) < b.length - k; omega
      · show k + 1 ≤ b.length; omega
      · show (out.set (i + k) _).length = _; rw [List.length_set]; exact hl
      · show 0 ≤ n / 1048576; omega
      · show n / 1048576 < 1048576; omega
      · have := hz j hj
        unfold dgt at this ⊢
        rw [List.getElem?_set_ne (by omega)]; exact this
end Go.Proofs.Ytpnlfkaijdjhlab

namespace Go.Proofs.Ytpnlfkaijdjhlab
set_option linter.all false
open Go.Abs

theorem lt_dgt {a b : List Int} (ha : OkD a) (hb : OkD b) {m : Nat} (h : ∀ j, m < j → dgt a j = dgt b j) (hne : dgt a m ≠ dgt b m) : decide (dgt a m < dgt b m) = decide (val a < val b) := by
  rcases Int.lt_or_gt_of_ne hne with h1 | h1
  · have := lt_at ha hb m h h1
    simp [h1, this]
  · have := lt_at hb ha m (fun j hj => (h j hj).symm) h1
    rw [decide_eq_false (by omega), decide_eq_false (by omega)]
set_option maxRecDepth 100000 in
set_option maxHeartbeats 1000000 in
theorem t_less (a b : List Int) (ha : OkD a) (hb : OkD b) (la : a.length ≤ 1000000) (lb : b.length ≤ 1000000) : Ctr G.P 84 [ints a, ints b] (· = .bool (decide (val a < val b))) := by
  have hmx : max (a.length : Int) (b.length : Int) = ((max a.length b.length : Nat) : Int) := by omega
  have hw := i64_ok (n := ((max a.length b.length : Nat) : Int) - 1) (by omega)
  refine ctr_go good _ _ [.tmp 4] Try.func84 rfl rfl (by decide +kernel) rfl ?_
  simp only [hmx, hw, go_sem, Int.reduceNegSucc, Nat.reduceAdd, Nat.reduceSub, Nat.reduceMul, Nat.reduceEqDiff, Nat.reduceLeDiff, Nat.reduceLT, Nat.reduceBEq, Nat.reduceBNe, reduceIte, reduceCtorEq, Int.reduceToNat, Int.reduceAdd, Int.reduceSub, Int.reduceMul, Int.reduceNeg, Int.reduceLT, Int.reduceLE, Int.reduceEq, Int.reduceNe, ints, ic]
  refine LoopP_of [0, 1, 5] [] (fun n : Nat => ⟨[(0, .im (.sl (a.map ic))), (1, .im (.sl (b.map ic))), (5, .im (.int ((n : Int) - 1)))], [], []⟩) (fun n => n ≤ max a.length b.length ∧ ∀ j, n ≤ j → dgt a j = dgt b j) (fun n => n) (max a.length b.length) ?_
    ⟨Nat.le_refl _, fun j hj => by rw [dgt_none (by omega), dgt_none (by omega)]⟩ ?_
  · simp only [hmx, hw, go_sem, Int.reduceNegSucc, Nat.reduceAdd, Nat.reduceSub, Nat.reduceMul, Nat.reduceEqDiff, Nat.reduceLeDiff, Nat.reduceLT, Nat.reduceBEq, Nat.reduceBNe, reduceIte, reduceCtorEq, Int.reduceToNat, Int.reduceAdd, Int.reduceSub, Int.reduceMul, Int.reduceNeg, Int.reduceLT, Int.reduceLE, Int.reduceEq, Int.reduceNe, ints, ic]
  · intro n ⟨hn, hz⟩
    rcases n with _ | m
    · have hd : decide ((0 : Int) ≤ ((0 : Nat) : Int) - 1) = false := by decide
      have hv : val a = val b := same_val fun j => hz j (Nat.zero_le _)
      have hv' : decide (val a < val b) = false := decide_eq_false (by omega)
      rw [hv']
      simp only [hd, go_sem, Int.reduceNegSucc, Nat.reduceAdd, Nat.reduceSub, Nat.reduceMul, Nat.reduceEqDiff, Nat.reduceLeDiff, Nat.reduceLT, Nat.reduceBEq, Nat.reduceBNe, reduceIte, reduceCtorEq, Int.reduceToNat, Int.reduceAdd, Int.reduceSub, Int.reduceMul, Int.reduceNeg, Int.reduceLT, Int.reduceLE, Int.reduceEq, Int.reduceNe, ints, ic]
    · have h2 : ((m + 1 : Nat) : Int) - 1 = m := by omega
      have hd : decide ((0 : Int) ≤ (m : Int)) = true := decide_eq_true (by omega)
      have h3 := i64_ok (n := (m : Int) - 1) (by omega)
      simp only [h2, hd, go_sem, Int.reduceNegSucc, Nat.reduceAdd, Nat.reduceSub, Nat.reduceMul, Nat.reduceEqDiff, Nat.reduceLeDiff, Nat.reduceLT, Nat.reduceBEq, Nat.reduceBNe, reduceIte, reduceCtorEq, Int.reduceToNat, Int.reduceAdd, Int.reduceSub, Int.reduceMul, Int.reduceNeg, Int.reduceLT, Int.reduceLE, Int.reduceEq, Int.reduceNe, ints, ic]
      refine CallP_eq (t_digit a m) (by decide) ?_
      simp only [h2, go_sem, Int.reduceNegSucc, Nat.reduceAdd, Nat.reduceSub, Nat.reduceMul, Nat.reduceEqDiff, Nat.reduceLeDiff, Nat.reduceLT, Nat.reduceBEq, Nat.reduceBNe, reduceIte, reduceCtorEq, Int.reduceToNat, Int.reduceAdd, Int.reduceSub, Int.reduceMul, Int.reduceNeg, Int.reduceLT, Int.reduceLE, Int.reduceEq, Int.reduceNe, ints, ic]
      refine CallP_eq (t_digit b m) (by decide) ?_
      simp only [h2, go_sem, Int.reduceNegSucc, Nat.reduceAdd, Nat.reduceSub, Nat.reduceMul, Nat.reduceEqDiff, Nat.reduceLeDiff, Nat.reduceLT, Nat.reduceBEq, Nat.reduceBNe, reduceIte, reduceCtorEq, Int.reduceToNat, Int.reduceAdd, Int.reduceSub, Int.reduceMul, Int.reduceNeg, Int.reduceLT, Int.reduceLE, Int.reduceEq, Int.reduceNe, ints, ic]
      refine Two_dec (fun he he' => ?_) (fun he he' => ?_)
      · simp only [h2, go_sem, Int.reduceNegSucc, Nat.reduceAdd, Nat.reduceSub, Nat.reduceMul, Nat.reduceEqDiff, Nat.reduceLeDiff, Nat.reduceLT, Nat.reduceBEq, Nat.reduceBNe, reduceIte, reduceCtorEq, Int.reduceToNat, Int.reduceAdd, Int.reduceSub, Int.reduceMul, Int.reduceNeg, Int.reduceLT, Int.reduceLE, Int.reduceEq, Int.reduceNe, ints, ic]
        refine RoundP_of m ?_ (by omega) ⟨by omega, fun j hj => ?_⟩
        · simp only [h2, h3, go_sem, Int.reduceNegSucc, Nat.reduceAdd, Nat.reduceSub, Nat.reduceMul, Nat.reduceEqDiff, Nat.reduceLeDiff, Nat.reduceLT, Nat.reduceBEq, Nat.reduceBNe, reduceIte, reduceCtorEq, Int.reduceToNat, Int.reduceAdd, Int.reduceSub, Int.reduceMul, Int.reduceNeg, Int.reduceLT, Int.reduceLE, Int.reduceEq, Int.reduceNe, ints, ic]
        · rcases Nat.lt_or_ge m j with h | h
          · exact hz j h
          · rw [show j = m by omega]; exact he'
      · have hlt := lt_dgt ha hb (m := m) (fun j hj => hz j hj) he'
        simp only [h2, go_sem, Int.reduceNegSucc, Nat.reduceAdd, Nat.reduceSub, Nat.reduceMul, Nat.reduceEqDiff, Nat.reduceLeDiff, Nat.reduceLT, Nat.reduceBEq, Nat.reduceBNe, reduceIte, reduceCtorEq, Int.reduceToNat, Int.reduceAdd, Int.reduceSub, Int.reduceMul, Int.reduceNeg, Int.reduceLT, Int.reduceLE, Int.reduceEq, Int.reduceNe, ints, ic]
        refine CallP_eq (t_digit a m) (by decide) ?_
        simp only [h2, go_sem, Int.reduceNegSucc, Nat.reduceAdd, Nat.reduceSub, Nat.reduceMul, Nat.reduceEqDiff, Nat.reduceLeDiff, Nat.reduceLT, Nat.reduceBEq, Nat.reduceBNe, reduceIte, reduceCtorEq, Int.reduceToNat, Int.reduceAdd, Int.reduceSub, Int.reduceMul, Int.reduceNeg, Int.reduceLT, Int.reduceLE, Int.reduceEq, Int.reduceNe, ints, ic]
        refine CallP_eq (t_digit b m) (by decide) ?_
        simp only [hlt, go_sem, Int.reduceNegSucc, Nat.reduceAdd, Nat.reduceSub, Nat.reduceMul, Nat.reduceEqDiff, Nat.reduceLeDiff, Nat.reduceLT, Nat.reduceBEq, Nat.reduceBNe, reduceIte, reduceCtorEq, Int.reduceToNat, Int.reduceAdd, Int.reduceSub, Int.reduceMul, Int.reduceNeg, Int.reduceLT, Int.reduceLE, Int.reduceEq, Int.reduceNe, ints, ic]
set_option maxRecDepth 100000 in
set_option maxHeartbeats 1000000 in
theorem t_minus (a b : List Int) (ha : OkD a) (hb : OkD b) (hab : val b ≤ val a) (la : a.length ≤ 100000) (lb : b.length ≤ 1000000) : Ctr G.P 86 [ints a, ints b] (· = ints (dig (val a - val b).toNat)) := by
  refine ctr_go good _ _ [.tmp 4] Try.func86 rfl rfl (by decide +kernel) rfl ?_
  simp only [go_sem, Int.reduceNegSucc, Nat.reduceAdd, Nat.reduceSub, Nat.reduceMul, Nat.reduceEqDiff, Nat.reduceLeDiff, Nat.reduceLT, Nat.reduceBEq, Nat.reduceBNe, reduceIte, reduceCtorEq, Int.reduceToNat, Int.reduceAdd, Int.reduceSub, Int.reduceMul, Int.reduceNeg, Int.reduceLT, Int.reduceLE, Int.reduceEq, Int.reduceNe, ints, ic]
  refine LoopP_ofP [0, 1, 5, 6, 7] [32] [(5, 32, 3, 1)] (fun g : Nat × List Int × Int => ⟨[(0, .im (.sl (a.map ic))), (1, .im (.sl (b.map ic))), (5, .vec 32 3 1 (g.2.1.map ic)), (6, .im (.int g.2.2)), (7, .im (.int g.1))], [], [(32, 1, g.2.1.length)]⟩)
    (fun g => g.2.1.length = g.1 ∧ OkD g.2.1 ∧ 0 ≤ g.2.2 ∧ g.2.2 ≤ 1 ∧ val g.2.1 - 1048576 ^ g.1 * g.2.2 = val (a.take g.1) - val (b.take g.1) ∧ g.1 ≤ a.length)
    (fun g => a.length - g.1) (0, [], 0) ?_ ?_ ⟨rfl, OkD.nil, Int.le_refl _, by decide, rfl, Nat.zero_le _⟩ ?_
  · simp only [go_sem, Int.reduceNegSucc, Nat.reduceAdd, Nat.reduceSub, Nat.reduceMul, Nat.reduceEqDiff, Nat.reduceLeDiff, Nat.reduceLT, Nat.reduceBEq, Nat.reduceBNe, reduceIte, reduceCtorEq, Int.reduceToNat, Int.reduceAdd, Int.reduceSub, Int.reduceMul, Int.reduceNeg, Int.reduceLT, Int.reduceLE, Int.reduceEq, Int.reduceNe, ints, ic]
    simp
  · simp only [Int.natCast_zero, List.map_nil, go_sem, Int.reduceNegSucc, Nat.reduceAdd, Nat.reduceSub, Nat.reduceMul, Nat.reduceEqDiff, Nat.reduceLeDiff, Nat.reduceLT, Nat.reduceBEq, Nat.reduceBNe, reduceIte, reduceCtorEq, Int.reduceToNat, Int.reduceAdd, Int.reduceSub, Int.reduceMul, Int.reduceNeg, Int.reduceLT, Int.reduceLE, Int.reduceEq, Int.reduceNe, ints, ic]
  · intro ⟨i, out, c⟩ ⟨h1, h2, h3, h4, h5, h6⟩
    dsimp only at h1 h2 h3 h4 h5 h6
    by_cases hp : (i : Int) < a.length
    · have hd : decide ((i : Int) < a.length) = true := decide_eq_true hp
      have hx := get_nat hp
      obtain ⟨a0, a1⟩ := ha.dgt i
      obtain ⟨b0, b1⟩ := hb.dgt i
      have w1 := i64_ok (n := dgt a i - dgt b i) (by omega)
      have w2 := i64_ok (n := dgt a i - dgt b i - c) (by omega)
      have w3 := i64_ok (n := (i : Int) + 1) (by omega)
      have w4 := i64_ok (n := dgt a i - dgt b i - c + 1048576) (by omega)
      simp only [hd, go_sem, Int.reduceNegSucc, Nat.reduceAdd, Nat.reduceSub, Nat.reduceMul, Nat.reduceEqDiff, Nat.reduceLeDiff, Nat.reduceLT, Nat.reduceBEq, Nat.reduceBNe, reduceIte, reduceCtorEq, Int.reduceToNat, Int.reduceAdd, Int.reduceSub, Int.reduceMul, Int.reduceNeg, Int.reduceLT, Int.reduceLE, Int.reduceEq, Int.reduceNe, ints, ic]
      refine DrawP_of 11 (by decide +kernel) ?_
      simp only [hd, List.getElem?_map, hx, go_sem, Int.reduceNegSucc, Nat.reduceAdd, Nat.reduceSub, Nat.reduceMul, Nat.reduceEqDiff, Nat.reduceLeDiff, Nat.reduceLT, Nat.reduceBEq, Nat.reduceBNe, reduceIte, reduceCtorEq, Int.reduceToNat, Int.reduceAdd, Int.reduceSub, Int.reduceMul, Int.reduceNeg, Int.reduceLT, Int.reduceLE, Int.reduceEq, Int.reduceNe, ints, ic]
      refine CallD_eq (t_digit b i) (by decide) ?_
      simp only [w1, w2, go_sem, Int.reduceNegSucc, Nat.reduceAdd, Nat.reduceSub, Nat.reduceMul, Nat.reduceEqDiff, Nat.reduceLeDiff, Nat.reduceLT, Nat.reduceBEq, Nat.reduceBNe, reduceIte, reduceCtorEq, Int.reduceToNat, Int.reduceAdd, Int.reduceSub, Int.reduceMul, Int.reduceNeg, Int.reduceLT, Int.reduceLE, Int.reduceEq, Int.reduceNe, ints, ic]
      refine Two_dec (fun he he' => ?_) (fun he he' => ?_)
      · have hs := minus_step (c' := 1) (d := dgt a i - dgt b i - c + 1048576) h1 h5 rfl (by omega)
        simp only [he, w4, go_sem, Int.reduceNegSucc, Nat.reduceAdd, Nat.reduceSub, Nat.reduceMul, Nat.reduceEqDiff, Nat.reduceLeDiff, Nat.reduceLT, Nat.reduceBEq, Nat.reduceBNe, reduceIte, reduceCtorEq, Int.reduceToNat, Int.reduceAdd, Int.reduceSub, Int.reduceMul, Int.reduceNeg, Int.reduceLT, Int.reduceLE, Int.reduceEq, Int.reduceNe, ints, ic]
        refine ⟨ic_len _, by simp, by omega, ?_⟩
        refine RoundP_of (i + 1, out ++ [dgt a i - dgt b i - c + 1048576], 1) ?_ ?_ ⟨?_, ?_, ?_, ?_, hs, ?_⟩
        · simp only [w3, Int.natCast_add, List.map_append, List.length_append, go_sem, Int.reduceNegSucc, Nat.reduceAdd, Nat.reduceSub, Nat.reduceMul, Nat.reduceEqDiff, Nat.reduceLeDiff, Nat.reduceLT, Nat.reduceBEq, Nat.reduceBNe, reduceIte, reduceCtorEq, Int.reduceToNat, Int.reduceAdd, Int.reduceSub, Int.reduceMul, Int.reduceNeg, Int.reduceLT, Int.reduceLE, Int.reduceEq, Int.reduceNe, ints, ic]
        · show a.length - (i + 1) < a.length - i; omega
        · show (out ++ [_]).length = i + 1; rw [List.length_append, h1]; rfl
        · exact h2.append (OkD.cons (by omega) OkD.nil)
        · dsimp only; omega
        · dsimp only; omega
        · show i + 1 ≤ a.length; omega
      · have hs := minus_step (c' := 0) (d := dgt a i - dgt b i - c) h1 h5 rfl (by omega)
        simp only [he, go_sem, Int.reduceNegSucc, Nat.reduceAdd, Nat.reduceSub, Nat.reduceMul, Nat.reduceEqDiff, Nat.reduceLeDiff, Nat.reduceLT, Nat.reduceBEq, Nat.reduceBNe, reduceIte, reduceCtorEq, Int.reduceToNat, Int.reduceAdd, Int.reduceSub, Int.reduceMul, Int.reduceNeg, Int.reduceLT, Int.reduceLE, Int.reduceEq, Int.reduceNe, ints, ic]
        refine ⟨ic_len _, by simp, by omega, ?_⟩
        refine RoundP_of (i + 1, out ++ [dgt a i - dgt b i - c], 0) ?_ ?_ ⟨?_, ?_, ?_, ?_, hs, ?_⟩
        · simp only [w3, Int.natCast_add, List.map_append, List.length_append, go_sem, Int.reduceNegSucc, Nat.reduceAdd, Nat.reduceSub, Nat.reduceMul, Nat.reduceEqDiff, Nat.reduceLeDiff, Nat.reduceLT, Nat.reduceBEq, Nat.reduceBNe, reduceIte, reduceCtorEq, Int.reduceToNat, Int.reduceAdd, Int.reduceSub, Int.reduceMul, Int.reduceNeg, Int.reduceLT, Int.reduceLE, Int.reduceEq, Int.reduceNe, ints, ic]
        · show a.length - (i + 1) < a.length - i; omega
        · show (out ++ [_]).length = i + 1; rw [List.length_append, h1]; rfl
        · exact h2.append (OkD.cons (by omega) OkD.nil)
        · dsimp only; omega
        · dsimp only; omega
        · show i + 1 ≤ a.length; omega
    · have hd : decide ((i : Int) < a.length) = false := decide_eq_false hp
      have hi : i = a.length := by omega
      have hv : val out = val a - val b := by
        have e1 := val_lt ha
        have e2 := val_lt h2
        have e3 := val_nonneg h2
        rw [h1] at e2
        rw [hi] at h5 e2
        rw [take_of_lt ha e1, take_of_lt hb (by omega)] at h5
        generalize (1048576 : Int) ^ a.length = p at *
        have hc : c = 0 ∨ c = 1 := by omega
        rcases hc with rfl | rfl <;> omega
      have ht := t_trim out h2 (by omega)
      rw [hv] at ht
      simp only [hd, go_sem, Int.reduceNegSucc, Nat.reduceAdd, Nat.reduceSub, Nat.reduceMul, Nat.reduceEqDiff, Nat.reduceLeDiff, Nat.reduceLT, Nat.reduceBEq, Nat.reduceBNe, reduceIte, reduceCtorEq, Int.reduceToNat, Int.reduceAdd, Int.reduceSub, Int.reduceMul, Int.reduceNeg, Int.reduceLT, Int.reduceLE, Int.reduceEq, Int.reduceNe, ints, ic]
      refine CallP_eq ht (by decide) ?_
      simp only [go_sem, Int.reduceNegSucc, Nat.reduceAdd, Nat.reduceSub, Nat.reduceMul, Nat.reduceEqDiff, Nat.reduceLeDiff, Nat.reduceLT, Nat.reduceBEq, Nat.reduceBNe, reduceIte, reduceCtorEq, Int.reduceToNat, Int.reduceAdd, Int.reduceSub, Int.reduceMul, Int.reduceNeg, Int.reduceLT, Int.reduceLE, Int.reduceEq, Int.reduceNe, ints, ic]
set_option maxHeartbeats 1000000 in
theorem t_made (s : Int) (l : List Int) (hl : OkD l) (ll : l.length ≤ 1000000) : Ctr G.P 79 [.int s, ints l] (· = .agg [.int (if val l = 0 then 0 else s), ints (dig (val l).toNat)]) := by
  have ht := t_trim l hl ll
  have h0 := val_nonneg hl
  by_cases hv : val l = 0
  · rw [hv] at ht
    rw [show dig (0 : Int).toNat = [] from dig_zero] at ht
    rw [if_pos hv, hv, show dig (0 : Int).toNat = [] from dig_zero]
    refine ctr_go good _ _ [.cell 4 24] Try.func79 rfl rfl (by decide +kernel) rfl ?_
    simp only [go_sem, Int.reduceNegSucc, Nat.reduceAdd, Nat.reduceSub, Nat.reduceMul, Nat.reduceEqDiff, Nat.reduceLeDiff, Nat.reduceLT, Nat.reduceBEq, Nat.reduceBNe, reduceIte, reduceCtorEq, Int.reduceToNat, Int.reduceAdd, Int.reduceSub, Int.reduceMul, Int.reduceNeg, Int.reduceLT, Int.reduceLE, Int.reduceEq, Int.reduceNe, ints, ic]
    refine CallP_eq ht (by decide) ?_
    simp only [go_sem, Int.reduceNegSucc, Nat.reduceAdd, Nat.reduceSub, Nat.reduceMul, Nat.reduceEqDiff, Nat.reduceLeDiff, Nat.reduceLT, Nat.reduceBEq, Nat.reduceBNe, reduceIte, reduceCtorEq, Int.reduceToNat, Int.reduceAdd, Int.reduceSub, Int.reduceMul, Int.reduceNeg, Int.reduceLT, Int.reduceLE, Int.reduceEq, Int.reduceNe, ints, ic]
  · rw [if_neg hv]
    have hn : dig (val l).toNat ≠ [] := fun h => by rw [dig_nil] at h; omega
    generalize dig (val l).toNat = d at *
    have hd : decide ((d.length : Int) = 0) = false := decide_eq_false (by
      have := List.length_pos_iff.2 hn; omega)
    refine ctr_go good _ _ [.cell 4 24] Try.func79 rfl rfl (by decide +kernel) rfl ?_
    simp only [go_sem, Int.reduceNegSucc, Nat.reduceAdd, Nat.reduceSub, Nat.reduceMul, Nat.reduceEqDiff, Nat.reduceLeDiff, Nat.reduceLT, Nat.reduceBEq, Nat.reduceBNe, reduceIte, reduceCtorEq, Int.reduceToNat, Int.reduceAdd, Int.reduceSub, Int.reduceMul, Int.reduceNeg, Int.reduceLT, Int.reduceLE, Int.reduceEq, Int.reduceNe, ints, ic]
    refine CallP_eq ht (by decide) ?_
    simp only [hd, go_sem, Int.reduceNegSucc, Nat.reduceAdd, Nat.reduceSub, Nat.reduceMul, Nat.reduceEqDiff, Nat.reduceLeDiff, Nat.reduceLT, Nat.reduceBEq, Nat.reduceBNe, reduceIte, reduceCtorEq, Int.reduceToNat, Int.reduceAdd, Int.reduceSub, Int.reduceMul, Int.reduceNeg, Int.reduceLT, Int.reduceLE, Int.reduceEq, Int.reduceNe, ints, ic]
end Go.Proofs.Ytpnlfkaijdjhlab

namespace Go.Proofs.Ytpnlfkaijdjhlab
set_option linter.all false
open Go.Abs

set_option maxRecDepth 100000 in
set_option maxHeartbeats 2000000 in
theorem t_times (a b : List Int) (ha : OkD a) (hb : OkD b) (la : a.length ≤ 100000) (lb : b.length ≤ 100000) : Ctr G.P 96 [ints a, ints b] (· = ints (dig (val a * val b).toNat)) := by
  have hw := i64_ok (n := (a.length : Int) + b.length) (by omega)
  have ht : ((a.length : Int) + b.length).toNat = a.length + b.length := by omega
  have h0 : (0 : Int) ≤ (a.length : Int) + b.length := by omega
  have hb8 : ((a.length : Int) + b.length) * 8 ≤ 140737488355328 := by omega
  refine ctr_go good _ _ [.tmp 4] Try.func96 rfl rfl (by decide +kernel) rfl ?_
  simp only [hw, ht, h0, hb8, go_sem, Int.reduceNegSucc, Nat.reduceAdd, Nat.reduceSub, Nat.reduceMul, Nat.reduceEqDiff, Nat.reduceLeDiff, Nat.reduceLT, Nat.reduceBEq, Nat.reduceBNe, reduceIte, reduceCtorEq, Int.reduceToNat, Int.reduceAdd, Int.reduceSub, Int.reduceMul, Int.reduceNeg, Int.reduceLT, Int.reduceLE, Int.reduceEq, Int.reduceNe, ints, ic]
  refine LoopP_of [0, 1, 5, 6] [15] (fun g : Nat × List Int => ⟨[(0, .im (.sl (a.map ic))), (1, .im (.sl (b.map ic))), (5, .gsl 15 3 1 (a.length + b.length)), (6, .im (.int g.1))], [(15, 1, g.2.map ic)], []⟩)
    (fun g => g.1 ≤ a.length ∧ g.2.length = a.length + b.length ∧ OkD g.2 ∧ val g.2 = val (a.take g.1) * val b) (fun g => a.length - g.1) (0, List.replicate (a.length + b.length) 0) ?_
    ⟨Nat.zero_le _, List.length_replicate, OkD.replicate _, by dsimp only; rw [val_replicate]; simp [val]⟩ ?_
  · simp only [Int.natCast_zero, List.map_replicate, List.length_replicate, go_sem, Int.reduceNegSucc, Nat.reduceAdd, Nat.reduceSub, Nat.reduceMul, Nat.reduceEqDiff, Nat.reduceLeDiff, Nat.reduceLT, Nat.reduceBEq, Nat.reduceBNe, reduceIte, reduceCtorEq, Int.reduceToNat, Int.reduceAdd, Int.reduceSub, Int.reduceMul, Int.reduceNeg, Int.reduceLT, Int.reduceLE, Int.reduceEq, Int.reduceNe, ints, ic]
  · intro ⟨i, out0⟩ ⟨hi, hl0, ho0, hv0⟩
    dsimp only at hi hl0 ho0 hv0
    by_cases hp : (i : Int) < a.length
    · have hd : decide ((i : Int) < a.length) = true := decide_eq_true hp
      have hx := get_nat hp
      have h1 := i64_ok (n := (i : Int) + 1) (by omega)
      simp only [hd, go_sem, Int.reduceNegSucc, Nat.reduceAdd, Nat.reduceSub, Nat.reduceMul, Nat.reduceEqDiff, Nat.reduceLeDiff, Nat.reduceLT, Nat.reduceBEq, Nat.reduceBNe, reduceIte, reduceCtorEq, Int.reduceToNat, Int.reduceAdd, Int.reduceSub, Int.reduceMul, Int.reduceNeg, Int.reduceLT, Int.reduceLE, Int.reduceEq, Int.reduceNe, ints, ic]
      refine LoopP_of [0, 1, 5, 6, 7, 8] [15] (fun g : Nat × List Int × Int => ⟨[(0, .im (.sl (a.map ic))), (1, .im (.sl (b.map ic))), (5, .gsl 15 3 1 (a.length + b.length)), (6, .im (.int i)), (7, .im (.int g.2.2)), (8, .im (.int g.1))], [(15, 1, g.2.1.map ic)], []⟩)
        (fun g => g.1 ≤ b.length + 1 ∧ g.2.1.length = a.length + b.length ∧ OkD g.2.1 ∧ 0 ≤ g.2.2 ∧ g.2.2 < 1048576 ∧ (b.length < g.1 → g.2.2 = 0) ∧ val g.2.1 + 1048576 ^ (i + g.1) * g.2.2 = val (a.take i) * val b + 1048576 ^ i * (dgt a i * val (b.take g.1)))
        (fun g => b.length + 1 - g.1) (0, out0, 0) ?_ ⟨Nat.zero_le _, hl0, ho0, Int.le_refl _, by dsimp only; omega, fun _ => rfl, by dsimp only; rw [List.take_zero, hv0]; simp [val]⟩ ?_
      · simp only [Int.natCast_zero, go_sem, Int.reduceNegSucc, Nat.reduceAdd, Nat.reduceSub, Nat.reduceMul, Nat.reduceEqDiff, Nat.reduceLeDiff, Nat.reduceLT, Nat.reduceBEq, Nat.reduceBNe, reduceIte, reduceCtorEq, Int.reduceToNat, Int.reduceAdd, Int.reduceSub, Int.reduceMul, Int.reduceNeg, Int.reduceLT, Int.reduceLE, Int.reduceEq, Int.reduceNe, ints, ic]
      · intro ⟨k, out, c⟩ ⟨hk, hl, ho, hc0, hc1, hcl, hv⟩
        dsimp only at hk hl ho hc0 hc1 hcl hv
        have hda := ha.dgt i
        have hdb := hb.dgt k
        have hdo := ho.dgt (i + k)
        have hmul := mul_lt_sq hda hdb
        have w1 := i64_ok (n := (i : Int) + k) (by omega)
        have w2 := i64_ok (n := dgt a i * dgt b k) (by omega)
        have w3 := i64_ok (n := dgt out (i + k) + dgt a i * dgt b k) (by omega)
        have w4 := i64_ok (n := dgt out (i + k) + dgt a i * dgt b k + c) (by omega)
        have w5 := i64_ok (n := (k : Int) + 1) (by omega)
        have hjn : ((i : Int) + k).toNat = i + k := by omega
        have hj0 : (0 : Int) ≤ (i : Int) + k := by omega
        have hm : (dgt out (i + k) + dgt a i * dgt b k + c).tmod 1048576 = (dgt out (i + k) + dgt a i * dgt b k + c) % 1048576 := Int.tmod_eq_emod_of_nonneg (by omega)
        have hq : IntKind.i64.wrap ((dgt out (i + k) + dgt a i * dgt b k + c).tdiv 1048576) = (dgt out (i + k) + dgt a i * dgt b k + c) / 1048576 := by
          rw [Int.tdiv_eq_ediv_of_nonneg (by omega)]; exact i64_ok (by omega)
        have nxt : (k < b.length ∨ 0 < c) → k + 1 ≤ b.length + 1 ∧ (out.set (i + k) ((dgt out (i + k) + dgt a i * dgt b k + c) % 1048576)).length = a.length + b.length ∧ OkD (out.set (i + k) ((dgt out (i + k) + dgt a i * dgt b k + c) % 1048576)) ∧
            0 ≤ (dgt out (i + k) + dgt a i * dgt b k + c) / 1048576 ∧ (dgt out (i + k) + dgt a i * dgt b k + c) / 1048576 < 1048576 ∧ (b.length < k + 1 → (dgt out (i + k) + dgt a i * dgt b k + c) / 1048576 = 0) ∧
            val (out.set (i + k) ((dgt out (i + k) + dgt a i * dgt b k + c) % 1048576)) + 1048576 ^ (i + (k + 1)) * ((dgt out (i + k) + dgt a i * dgt b k + c) / 1048576) = val (a.take i) * val b + 1048576 ^ i * (dgt a i * val (b.take (k + 1))) := by
          intro hcc
          have hkb : k ≤ b.length := by
            rcases Nat.lt_or_ge b.length k with h | h
            · have := hcl h; omega
            · exact h
          have hs := times_step (out := out) (b := b) (j := i + k) (i := i) (k := k) (c := c) (x := dgt a i) (V := val (a.take i) * val b) rfl (by omega) hv rfl
          have hok : OkD (out.set (i + k) ((dgt out (i + k) + dgt a i * dgt b k + c) % 1048576)) := ho.set (by omega)
          refine ⟨by omega, by rw [List.length_set]; exact hl, hok, by omega, by omega, fun h => ?_, hs⟩
          have hkk : k = b.length := by omega
          have hs' := hs
          rw [val_take_all (l := b) (i := k + 1) (by omega)] at hs'
          exact times_last ha hb hda (val_nonneg hok) (by omega) (by rw [← hkk]; exact hs')
        by_cases hkl : (k : Int) < b.length
        · have hn : k < b.length ∨ 0 < c := .inl (by omega)
          have d1 : decide ((k : Int) < b.length) = true := decide_eq_true hkl
          have hjl : (i : Int) + k < ((a.length + b.length : Nat) : Int) := by omega
          have hy : out[i + k]? = some (dgt out (i + k)) := get_nat (by omega)
          simp only [d1, go_sem, Int.reduceNegSucc, Nat.reduceAdd, Nat.reduceSub, Nat.reduceMul, Nat.reduceEqDiff, Nat.reduceLeDiff, Nat.reduceLT, Nat.reduceBEq, Nat.reduceBNe, reduceIte, reduceCtorEq, Int.reduceToNat, Int.reduceAdd, Int.reduceSub, Int.reduceMul, Int.reduceNeg, Int.reduceLT, Int.reduceLE, Int.reduceEq, Int.reduceNe, ints, ic]
          refine DrawP_of 18 (by decide +kernel) ?_
          simp only [w1, List.getElem?_map, hx, hy, hjn, hj0, hjl, go_sem, Int.reduceNegSucc, Nat.reduceAdd, Nat.reduceSub, Nat.reduceMul, Nat.reduceEqDiff, Nat.reduceLeDiff, Nat.reduceLT, Nat.reduceBEq, Nat.reduceBNe, reduceIte, reduceCtorEq, Int.reduceToNat, Int.reduceAdd, Int.reduceSub, Int.reduceMul, Int.reduceNeg, Int.reduceLT, Int.reduceLE, Int.reduceEq, Int.reduceNe, ints, ic]
          refine CallD_eq (t_digit b k) (by decide) ?_
          simp only [w2, w3, w4, go_sem, Int.reduceNegSucc, Nat.reduceAdd, Nat.reduceSub, Nat.reduceMul, Nat.reduceEqDiff, Nat.reduceLeDiff, Nat.reduceLT, Nat.reduceBEq, Nat.reduceBNe, reduceIte, reduceCtorEq, Int.reduceToNat, Int.reduceAdd, Int.reduceSub, Int.reduceMul, Int.reduceNeg, Int.reduceLT, Int.reduceLE, Int.reduceEq, Int.reduceNe, ints, ic]
          simp only [w1, hjn, hj0, hjl, List.getElem?_map, hy, hm, hq, ← List.map_set, go_sem, Int.reduceNegSucc, Nat.reduceAdd, Nat.reduceSub, Nat.reduceMul, Nat.reduceEqDiff, Nat.reduceLeDiff, Nat.reduceLT, Nat.reduceBEq, Nat.reduceBNe, reduceIte, reduceCtorEq, Int.reduceToNat, Int.reduceAdd, Int.reduceSub, Int.reduceMul, Int.reduceNeg, Int.reduceLT, Int.reduceLE, Int.reduceEq, Int.reduceNe, ints, ic]
          refine RoundP_of (k + 1, out.set (i + k) ((dgt out (i + k) + dgt a i * dgt b k + c) % 1048576), (dgt out (i + k) + dgt a i * dgt b k + c) / 1048576) ?_ ?_ (nxt hn)
          · simp only [w5, Int.natCast_add, List.map_set, go_sem, Int.reduceNegSucc, Nat.reduceAdd, Nat.reduceSub, Nat.reduceMul, Nat.reduceEqDiff, Nat.reduceLeDiff, Nat.reduceLT, Nat.reduceBEq, Nat.reduceBNe, reduceIte, reduceCtorEq, Int.reduceToNat, Int.reduceAdd, Int.reduceSub, Int.reduceMul, Int.reduceNeg, Int.reduceLT, Int.reduceLE, Int.reduceEq, Int.reduceNe, ints, ic]
          · show b.length + 1 - (k + 1) < b.length + 1 - k; omega
        · have d1 : decide ((k : Int) < b.length) = false := decide_eq_false hkl
          by_cases hcp : 0 < c
          · have hn : k < b.length ∨ 0 < c := .inr hcp
            have d2 : decide (0 < c) = true := decide_eq_true hcp
            have hkb : k ≤ b.length := by
              rcases Nat.lt_or_ge b.length k with h | h
              · have := hcl h; omega
              · exact h
            have hjl : (i : Int) + k < ((a.length + b.length : Nat) : Int) := by omega
            have hy : out[i + k]? = some (dgt out (i + k)) := get_nat (by omega)
            simp only [d1, d2, go_sem, Int.reduceNegSucc, Nat.reduceAdd, Nat.reduceSub, Nat.reduceMul, Nat.reduceEqDiff, Nat.reduceLeDiff, Nat.reduceLT, Nat.reduceBEq, Nat.reduceBNe, reduceIte, reduceCtorEq, Int.reduceToNat, Int.reduceAdd, Int.reduceSub, Int.reduceMul, Int.reduceNeg, Int.reduceLT, Int.reduceLE, Int.reduceEq, Int.reduceNe, ints, ic]
            refine DrawP_of 18 (by decide +kernel) ?_
            simp only [w1, List.getElem?_map, hx, hy, hjn, hj0, hjl, go_sem, Int.reduceNegSucc, Nat.reduceAdd, Nat.reduceSub, Nat.reduceMul, Nat.reduceEqDiff, Nat.reduceLeDiff, Nat.reduceLT, Nat.reduceBEq, Nat.reduceBNe, reduceIte, reduceCtorEq, Int.reduceToNat, Int.reduceAdd, Int.reduceSub, Int.reduceMul, Int.reduceNeg, Int.reduceLT, Int.reduceLE, Int.reduceEq, Int.reduceNe, ints, ic]
            refine CallD_eq (t_digit b k) (by decide) ?_
            simp only [w2, w3, w4, go_sem, Int.reduceNegSucc, Nat.reduceAdd, Nat.reduceSub, Nat.reduceMul, Nat.reduceEqDiff, Nat.reduceLeDiff, Nat.reduceLT, Nat.reduceBEq, Nat.reduceBNe, reduceIte, reduceCtorEq, Int.reduceToNat, Int.reduceAdd, Int.reduceSub, Int.reduceMul, Int.reduceNeg, Int.reduceLT, Int.reduceLE, Int.reduceEq, Int.reduceNe, ints, ic]
            simp only [w1, hjn, hj0, hjl, List.getElem?_map, hy, hm, hq, ← List.map_set, go_sem, Int.reduceNegSucc, Nat.reduceAdd, Nat.reduceSub, Nat.reduceMul, Nat.reduceEqDiff, Nat.reduceLeDiff, Nat.reduceLT, Nat.reduceBEq, Nat.reduceBNe, reduceIte, reduceCtorEq, Int.reduceToNat, Int.reduceAdd, Int.reduceSub, Int.reduceMul, Int.reduceNeg, Int.reduceLT, Int.reduceLE, Int.reduceEq, Int.reduceNe, ints, ic]
            refine RoundP_of (k + 1, out.set (i + k) ((dgt out (i + k) + dgt a i * dgt b k + c) % 1048576), (dgt out (i + k) + dgt a i * dgt b k + c) / 1048576) ?_ ?_ (nxt hn)
            · simp only [w5, Int.natCast_add, List.map_set, go_sem, Int.reduceNegSucc, Nat.reduceAdd, Nat.reduceSub, Nat.reduceMul, Nat.reduceEqDiff, Nat.reduceLeDiff, Nat.reduceLT, Nat.reduceBEq, Nat.reduceBNe, reduceIte, reduceCtorEq, Int.reduceToNat, Int.reduceAdd, Int.reduceSub, Int.reduceMul, Int.reduceNeg, Int.reduceLT, Int.reduceLE, Int.reduceEq, Int.reduceNe, ints, ic]
            · show b.length + 1 - (k + 1) < b.length + 1 - k; omega
          · have d2 : decide (0 < c) = false := decide_eq_false hcp
            have hc : c = 0 := by omega
            have hvv : val out = val (a.take (i + 1)) * val b := by
              rw [hc, Int.mul_zero, Int.add_zero, val_take_all (l := b) (i := k) (by omega)] at hv
              rw [hv, val_take_succ, Int.add_mul, Int.mul_assoc]
            simp only [d1, d2, go_sem, Int.reduceNegSucc, Nat.reduceAdd, Nat.reduceSub, Nat.reduceMul, Nat.reduceEqDiff, Nat.reduceLeDiff, Nat.reduceLT, Nat.reduceBEq, Nat.reduceBNe, reduceIte, reduceCtorEq, Int.reduceToNat, Int.reduceAdd, Int.reduceSub, Int.reduceMul, Int.reduceNeg, Int.reduceLT, Int.reduceLE, Int.reduceEq, Int.reduceNe, ints, ic]
            refine RoundP_of (i + 1, out) ?_ ?_ ⟨?_, hl, ho, hvv⟩
            · simp only [h1, Int.natCast_add, go_sem, Int.reduceNegSucc, Nat.reduceAdd, Nat.reduceSub, Nat.reduceMul, Nat.reduceEqDiff, Nat.reduceLeDiff, Nat.reduceLT, Nat.reduceBEq, Nat.reduceBNe, reduceIte, reduceCtorEq, Int.reduceToNat, Int.reduceAdd, Int.reduceSub, Int.reduceMul, Int.reduceNeg, Int.reduceLT, Int.reduceLE, Int.reduceEq, Int.reduceNe, ints, ic]
            · show a.length - (i + 1) < a.length - i; omega
            · show i + 1 ≤ a.length; omega
    · have hd : decide ((i : Int) < a.length) = false := decide_eq_false hp
      rw [val_take_all (l := a) (i := i) (by omega)] at hv0
      have ht := t_trim out0 ho0 (by omega)
      rw [hv0] at ht
      have hall : (out0.map ic).take (a.length + b.length) = out0.map ic := List.take_of_length_le (by rw [List.length_map]; omega)
      have hle : a.length + b.length ≤ (out0.map ic).length := by rw [List.length_map]; omega
      simp only [hd, hl0, Nat.le_refl, hall, go_sem, Int.reduceNegSucc, Nat.reduceAdd, Nat.reduceSub, Nat.reduceMul, Nat.reduceEqDiff, Nat.reduceLeDiff, Nat.reduceLT, Nat.reduceBEq, Nat.reduceBNe, reduceIte, reduceCtorEq, Int.reduceToNat, Int.reduceAdd, Int.reduceSub, Int.reduceMul, Int.reduceNeg, Int.reduceLT, Int.reduceLE, Int.reduceEq, Int.reduceNe, ints, ic]
      refine CallP_eq ht (by decide) ?_
      simp only [go_sem, Int.reduceNegSucc, Nat.reduceAdd, Nat.reduceSub, Nat.reduceMul, Nat.reduceEqDiff, Nat.reduceLeDiff, Nat.reduceLT, Nat.reduceBEq, Nat.reduceBNe, reduceIte, reduceCtorEq, Int.reduceToNat, Int.reduceAdd, Int.reduceSub, Int.reduceMul, Int.reduceNeg, Int.reduceLT, Int.reduceLE, Int.reduceEq, Int.reduceNe, ints, ic]
end Go.Proofs.Ytpnlfkaijdjhlab
