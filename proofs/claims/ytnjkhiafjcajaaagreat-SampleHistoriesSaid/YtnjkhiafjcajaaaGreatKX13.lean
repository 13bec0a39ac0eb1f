/- What every seat's texts begin with. -/
import Derived.Test.YtnjkhiafjcajaaaGreatKX12
import Derived.IntWalk
import Derived.WalkKit
namespace Go.Proofs.YtnjkhiafjcajaaaGreat
set_option linter.all false
open Go.Abs

def ic (n : Int) : List IV := [.int n]
def ints (l : List Int) : IV := .sl (l.map ic)
theorem i64_ok {n : Int} (h : -9223372036854775808 ≤ n ∧ n ≤ 9223372036854775807) : IntKind.i64.wrap n = n := IntWalk.i64_in n h
end Go.Proofs.YtnjkhiafjcajaaaGreat

/-
  Numbers as lists of digits to the base 2^20, the least first. Program-independent. The generic layer under all claims of this repo: numbers, 1.
-/
namespace Go.Abs
set_option linter.all false

def val : List Int → Int
  | [] => 0
  | d :: l => d + 1048576 * val l
def OkD (l : List Int) : Prop := ∀ d ∈ l, 0 ≤ d ∧ d < 1048576
/-- Digit i of a list, or 0. -/
def dgt (l : List Int) (i : Nat) : Int := (l[i]?).getD 0
def dig (n : Nat) : List Int := if h : n = 0 then [] else ((n % 1048576 : Nat) : Int) :: dig (n / 1048576)
  termination_by n
  decreasing_by omega

theorem OkD.nil : OkD [] := fun _ h => by cases h
theorem OkD.cons {d : Int} {l : List Int} (h : 0 ≤ d ∧ d < 1048576) (hl : OkD l) : OkD (d :: l) := fun x hx => by
  rcases List.mem_cons.1 hx with rfl | hx
  · exact h
  · exact hl x hx
theorem OkD.tail {d : Int} {l : List Int} (h : OkD (d :: l)) : OkD l := fun x hx => h x (List.mem_cons_of_mem _ hx)
theorem OkD.head {d : Int} {l : List Int} (h : OkD (d :: l)) : 0 ≤ d ∧ d < 1048576 := h d (List.mem_cons_self ..)
theorem OkD.take {l : List Int} (h : OkD l) (n : Nat) : OkD (l.take n) := fun x hx => h x (List.mem_of_mem_take hx)
theorem OkD.drop {l : List Int} (h : OkD l) (n : Nat) : OkD (l.drop n) := fun x hx => h x (List.mem_of_mem_drop hx)
theorem OkD.append {a b : List Int} (ha : OkD a) (hb : OkD b) : OkD (a ++ b) := fun x hx => (List.mem_append.1 hx).elim (ha x) (hb x)
theorem OkD.dgt {l : List Int} (h : OkD l) (i : Nat) : 0 ≤ dgt l i ∧ dgt l i < 1048576 := by
  unfold Go.Abs.dgt
  cases hi : l[i]? with
  | none => simp
  | some d => exact h d (List.mem_of_getElem? hi)
theorem val_nonneg : ∀ {l : List Int}, OkD l → 0 ≤ val l
  | [], _ => Int.le_refl _
  | d :: l, h => by
    have := val_nonneg h.tail
    have := h.head
    simp only [val]; omega
theorem val_lt : ∀ {l : List Int}, OkD l → val l < 1048576 ^ l.length
  | [], _ => by simp [val]
  | d :: l, h => by
    have h1 := val_lt h.tail
    have h2 := h.head
    simp only [val, List.length_cons, Int.pow_succ]
    omega
theorem dig_zero : dig 0 = [] := by rw [dig]; simp
theorem dig_step {n : Nat} (h : n ≠ 0) : dig n = ((n % 1048576 : Nat) : Int) :: dig (n / 1048576) := by
  conv => lhs; rw [dig]
  rw [dif_neg h]
theorem dig_ok (n : Nat) : OkD (dig n) := by
  induction n using Nat.strongRecOn with
  | _ n ih =>
    by_cases h : n = 0
    · subst h; rw [dig_zero]; exact OkD.nil
    · rw [dig_step h]
      exact OkD.cons (by omega) (ih _ (by omega))
theorem val_dig (n : Nat) : val (dig n) = n := by
  induction n using Nat.strongRecOn with
  | _ n ih =>
    by_cases h : n = 0
    · subst h; rw [dig_zero]; rfl
    · rw [dig_step h, val, ih _ (by omega)]
      omega
theorem dig_nil {n : Nat} : dig n = [] ↔ n = 0 := by
  constructor
  · intro h
    have := val_dig n
    rw [h] at this
    simp only [val] at this
    omega
  · intro h; subst h; exact dig_zero
/-- The digits of a number are those that do not end in 0. -/
theorem eq_dig : ∀ {l : List Int}, OkD l → l.getLast? ≠ some 0 → l = dig (val l).toNat
  | [], _, _ => by simp [val, dig_zero]
  | d :: l, h, hl => by
    have hd := h.head
    have hv := val_nonneg h.tail
    cases l with
    | nil =>
      have : d ≠ 0 := fun e => hl (by simp [e])
      simp only [val, Int.mul_zero, Int.add_zero]
      rw [dig_step (by omega), show d.toNat / 1048576 = 0 by omega, dig_zero]
      congr 1; omega
    | cons e l =>
      have hl' : (e :: l).getLast? ≠ some 0 := by rw [List.getLast?_cons_cons] at hl; exact hl
      have ih := eq_dig h.tail hl'
      have hne : (val (e :: l)).toNat ≠ 0 := fun h0 => by rw [h0, dig_zero] at ih; cases ih
      generalize hw : e :: l = w at *
      have hval : val (d :: w) = d + 1048576 * val w := rfl
      rw [dig_step (by omega), show (val (d :: w)).toNat / 1048576 = (val w).toNat by omega, ← ih]
      congr 1; omega
theorem last_dig (n : Nat) : (dig n).getLast? ≠ some 0 := by
  induction n using Nat.strongRecOn with
  | _ n ih =>
    by_cases h : n = 0
    · subst h; rw [dig_zero]; simp
    · rw [dig_step h]
      by_cases h2 : n / 1048576 = 0
      · rw [h2, dig_zero]
        simp; omega
      · have := ih (n / 1048576) (by omega)
        cases hd : dig (n / 1048576) with
        | nil => rw [dig_nil] at hd; exact absurd hd h2
        | cons e l => rw [List.getLast?_cons_cons, ← hd]; exact this
theorem val_append : ∀ (a b : List Int), val (a ++ b) = val a + 1048576 ^ a.length * val b
  | [], b => by simp [val]
  | d :: a, b => by
    simp only [List.cons_append, val, val_append a b, List.length_cons, Int.pow_succ, Int.mul_add, Int.mul_assoc]
    rw [Int.mul_left_comm (1048576 : Int)]
    omega
theorem val_take_succ (l : List Int) (i : Nat) : val (l.take (i + 1)) = val (l.take i) + 1048576 ^ i * dgt l i := by
  rcases Nat.lt_or_ge i l.length with h | h
  · rw [List.take_succ_eq_append_getElem h, val_append]
    have : (l.take i).length = i := by rw [List.length_take]; omega
    have hd : dgt l i = l[i] := by unfold dgt; rw [List.getElem?_eq_getElem h]; rfl
    rw [this, hd]
    have hs : val [l[i]] = l[i] := by
      show l[i] + 1048576 * 0 = l[i]
      omega
    rw [hs]
  · rw [List.take_of_length_le (by omega), List.take_of_length_le h, show dgt l i = 0 by unfold dgt; rw [List.getElem?_eq_none h]; rfl, Int.mul_zero, Int.add_zero]
theorem val_split (l : List Int) (i : Nat) : val l = val (l.take i) + 1048576 ^ i * val (l.drop i) := by
  rcases Nat.lt_or_ge i l.length with h | h
  · conv => lhs; rw [← List.take_append_drop i l]
    rw [val_append]
    have : (l.take i).length = i := by rw [List.length_take]; omega
    rw [this]
  · rw [List.take_of_length_le h, List.drop_of_length_le h]
    simp [val]
theorem val_drop (l : List Int) (i : Nat) : val (l.drop i) = dgt l i + 1048576 * val (l.drop (i + 1)) := by
  rcases Nat.lt_or_ge i l.length with h | h
  · rw [List.drop_eq_getElem_cons h, val]
    simp [dgt, h]
  · rw [List.drop_of_length_le h, List.drop_of_length_le (by omega)]
    simp [val, dgt, List.getElem?_eq_none h]
theorem val_drop_congr (a b : List Int) : ∀ (n k : Nat), a.length + b.length ≤ k + n → (∀ j, k ≤ j → dgt a j = dgt b j) → val (a.drop k) = val (b.drop k)
  | 0, k, h, _ => by rw [List.drop_of_length_le (by omega), List.drop_of_length_le (by omega)]
  | n + 1, k, h, hj => by
    rw [val_drop a, val_drop b, hj k (Nat.le_refl _), val_drop_congr a b n (k + 1) (by omega) fun j h => hj j (by omega)]
theorem pow_pos' (i : Nat) : (0 : Int) < 1048576 ^ i := Int.pow_pos (by omega)
theorem val_take_lt {l : List Int} (h : OkD l) (i : Nat) : val (l.take i) < 1048576 ^ i := by
  have h1 := val_lt (h.take i)
  have h2 : (1048576 : Int) ^ (l.take i).length ≤ 1048576 ^ i := by
    have hl : (l.take i).length ≤ i := by rw [List.length_take]; omega
    have h3 : (1048576 : Nat) ^ (l.take i).length ≤ 1048576 ^ i := Nat.pow_le_pow_right (by omega) hl
    have h4 := Int.ofNat_le.2 h3
    rw [Int.natCast_pow, Int.natCast_pow] at h4
    exact h4
  omega
/-- Where the digits differ first from above, there the numbers differ. -/
theorem lt_at {a b : List Int} (ha : OkD a) (hb : OkD b) (i : Nat) (h : ∀ j, i < j → dgt a j = dgt b j) (hlt : dgt a i < dgt b i) : val a < val b := by
  have e : val (a.drop (i + 1)) = val (b.drop (i + 1)) := val_drop_congr a b (a.length + b.length) (i + 1) (by omega) fun j hj => h j (by omega)
  have h1 := val_take_lt ha i
  have h2 := val_nonneg (hb.take i)
  have hp := pow_pos' i
  rw [val_split a i, val_split b i, val_drop a i, val_drop b i, e]
  generalize val (b.drop (i + 1)) = v
  generalize (1048576 : Int) ^ i = p at *
  have h3 : p * (dgt a i + 1048576 * v) + p ≤ p * (dgt b i + 1048576 * v) := by
    have : p * (dgt a i + 1048576 * v) + p = p * (dgt a i + 1 + 1048576 * v) := by rw [Int.mul_add, Int.mul_add, Int.mul_add]; omega
    rw [this]
    exact Int.mul_le_mul_of_nonneg_left (by omega) (by omega)
  omega
theorem same_val {a b : List Int} (h : ∀ j, dgt a j = dgt b j) : val a = val b := by
  have := val_drop_congr a b (a.length + b.length) 0 (by omega) fun j _ => h j
  simpa using this
theorem dgt_take {l : List Int} {n j : Nat} (h : ∀ i, n ≤ i → dgt l i = 0) : dgt (l.take n) j = dgt l j := by
  unfold dgt at *
  rw [List.getElem?_take]
  split
  · rfl
  · rename_i hj
    exact (h j (by omega)).symm
/-- Zeros at the end cut off. -/
theorem take_dig {l : List Int} (hl : OkD l) {n : Nat} (hn : n ≤ l.length) (hz : ∀ i, n ≤ i → dgt l i = 0) (hlast : n = 0 ∨ dgt l (n - 1) ≠ 0) : l.take n = dig (val l).toNat := by
  have hv : val (l.take n) = val l := same_val fun j => dgt_take hz
  rw [← hv]
  refine eq_dig (hl.take n) fun h => ?_
  rcases hlast with h0 | h0
  · subst h0; simp at h
  · have hlen : (l.take n).length = n := by rw [List.length_take]; omega
    rw [List.getLast?_eq_getElem?, hlen] at h
    have hn0 : 0 < n := by
      rcases Nat.eq_zero_or_pos n with e | e
      · subst e; simp at h
      · exact e
    rw [List.getElem?_take, if_pos (by omega)] at h
    exact h0 (by simp [dgt, h])
end Go.Abs

namespace Go.Abs
set_option linter.all false

theorem val_one (d : Int) : val [d] = d := by
  show d + 1048576 * 0 = d
  omega
theorem val_snoc (l : List Int) (d : Int) : val (l ++ [d]) = val l + 1048576 ^ l.length * d := by rw [val_append, val_one]
theorem pow_step (i : Nat) : (1048576 : Int) ^ (i + 1) = 1048576 ^ i * 1048576 := Int.pow_succ ..
theorem plus_step {out a b : List Int} {i : Nat} {c n : Int} (hlen : out.length = i) (h : val out + 1048576 ^ i * c = val (a.take i) + val (b.take i)) (hn : n = dgt a i + dgt b i + c) :
    val (out ++ [n % 1048576]) + 1048576 ^ (i + 1) * (n / 1048576) = val (a.take (i + 1)) + val (b.take (i + 1)) := by
  rw [val_snoc, hlen, val_take_succ, val_take_succ, pow_step]
  generalize (1048576 : Int) ^ i = p at *
  have e : p * (n % 1048576) + p * 1048576 * (n / 1048576) = p * n := by
    rw [Int.mul_assoc, ← Int.mul_add, Int.emod_add_mul_ediv]
  have e2 : p * n = p * dgt a i + p * dgt b i + p * c := by rw [hn, Int.mul_add, Int.mul_add]
  omega
theorem minus_step {out a b : List Int} {i : Nat} {c n d c' : Int} (hlen : out.length = i) (h : val out - 1048576 ^ i * c = val (a.take i) - val (b.take i)) (hn : n = dgt a i - dgt b i - c) (hd : d - 1048576 * c' = n) :
    val (out ++ [d]) - 1048576 ^ (i + 1) * c' = val (a.take (i + 1)) - val (b.take (i + 1)) := by
  rw [val_snoc, hlen, val_take_succ, val_take_succ, pow_step]
  generalize (1048576 : Int) ^ i = p at *
  have e : p * d - p * 1048576 * c' = p * n := by rw [Int.mul_assoc, ← Int.mul_sub, hd]
  have e2 : p * n = p * dgt a i - p * dgt b i - p * c := by rw [hn, Int.mul_sub, Int.mul_sub]
  omega
theorem val_take_all {l : List Int} {i : Nat} (h : l.length ≤ i) : val (l.take i) = val l := by rw [List.take_of_length_le h]
/-- The digits above are 0 where the number is small. -/
theorem drop_zero_of_lt {l : List Int} (hl : OkD l) {i : Nat} (h : val l < 1048576 ^ i) : val (l.drop i) = 0 := by
  have h1 := val_split l i
  have h2 := val_nonneg (hl.take i)
  have h3 := val_nonneg (hl.drop i)
  have hp := pow_pos' i
  rcases Int.lt_or_le 0 (val (l.drop i)) with h4 | h4
  · have : 1048576 ^ i * 1 ≤ 1048576 ^ i * val (l.drop i) := Int.mul_le_mul_of_nonneg_left (by omega) (by omega)
    omega
  · omega
theorem take_of_lt {l : List Int} (hl : OkD l) {i : Nat} (h : val l < 1048576 ^ i) : val (l.take i) = val l := by
  have h1 := val_split l i
  rw [drop_zero_of_lt hl h, Int.mul_zero] at h1
  omega
theorem dig_len_le {n k : Nat} (h : (n : Int) < 1048576 ^ k) : (dig n).length ≤ k := by
  induction k generalizing n with
  | zero =>
    have : n = 0 := by simp at h; omega
    subst this; rw [dig_zero]; exact Nat.le_refl _
  | succ k ih =>
    by_cases hn : n = 0
    · subst hn; rw [dig_zero]; exact Nat.zero_le _
    · rw [dig_step hn, List.length_cons]
      rw [pow_step] at h
      have := ih (n := n / 1048576) (by omega)
      omega
end Go.Abs

namespace Go.Proofs.YtnjkhiafjcajaaaGreat
set_option linter.all false
open Go.Abs

theorem ic_len (l : List Int) : ∀ c ∈ l.map ic, c.length = 1 := fun c hc => by
  obtain ⟨z, _, rfl⟩ := List.mem_map.1 hc; rfl
theorem ic_all (l : List Int) : ((l.map ic).all fun c => c.length == 1) = true := by
  rw [List.all_eq_true]; intro c hc; rw [beq_iff_eq]; exact ic_len l c hc
theorem get_nat {l : List Int} {i : Nat} (h : (i : Int) < l.length) : l[i]? = some (dgt l i) := by
  have h : i < l.length := by omega
  unfold dgt; rw [List.getElem?_eq_getElem h]; rfl
theorem dgt_at {l : List Int} {i : Nat} {d : Int} (h : l[i]? = some d) : dgt l i = d := by simp [dgt, h]
theorem dgt_none {l : List Int} {i : Nat} (h : l.length ≤ i) : dgt l i = 0 := by simp [dgt, List.getElem?_eq_none h]
theorem t_digit (l : List Int) (i : Nat) : Ctr G.P 184 [ints l, .int i] (· = .int (dgt l i)) := by
  by_cases hp : (i : Int) < l.length
  · have hd : decide ((i : Int) < l.length) = true := decide_eq_true hp
    have hx : l[i]? = some (dgt l i) := by
      have h : i < l.length := by omega
      unfold dgt; rw [List.getElem?_eq_getElem h]; rfl
    generalize dgt l i = d at *
    refine ctr_go good _ _ [.tmp 4] Tryz.func184 rfl rfl (by decide +kernel) rfl ?_
    simp only [hd, List.getElem?_map, hx, go_sem, ints, ic]
  · have hd : decide ((i : Int) < l.length) = false := decide_eq_false hp
    rw [dgt_none (by omega)]
    refine ctr_go good _ _ [.tmp 4] Tryz.func184 rfl rfl (by decide +kernel) rfl ?_
    simp only [hd, go_sem, ints, ic]
set_option maxRecDepth 100000 in
set_option maxHeartbeats 1000000 in
theorem t_trim (l : List Int) (hl : OkD l) (hlen : l.length ≤ 1000000) : Ctr G.P 183 [ints l] (· = ints (dig (val l).toNat)) := by
  refine ctr_go good _ _ [.tmp 2] Tryz.func183 rfl rfl (by decide +kernel) rfl ?_
  simp only [go_sem, ints, ic]
  refine LoopP_of [0, 3] [] (fun n : Nat => ⟨[(0, .im (.sl (l.map ic))), (3, .im (.int n))], [], []⟩) (fun n => n ≤ l.length ∧ ∀ i, n ≤ i → dgt l i = 0) (fun n => n) l.length ?_ ⟨Nat.le_refl _, fun i hi => dgt_none hi⟩ ?_
  · simp only [go_sem, ints, ic]
  · intro n ⟨hn, hz⟩
    have fin : n = 0 ∨ dgt l (n - 1) ≠ 0 → (l.map ic).take n = (dig (val l).toNat).map ic := fun h => by
      rw [← List.map_take, take_dig hl hn hz h]
    have hnn : (n : Int) ≤ l.length := by omega
    rcases n with _ | m
    · have hd : decide ((0 : Int) < ((0 : Nat) : Int)) = false := by decide
      have hf := fin (.inl rfl)
      rw [List.take_zero] at hf
      have hg : dig (val l).toNat = [] := List.map_eq_nil_iff.1 hf.symm
      rw [hg]
      simp only [hd, Int.natCast_zero, Int.lt_irrefl, ic_all, go_sem, ints, ic]
      exact ⟨by simp, by simp⟩
    · have hd : decide ((0 : Int) < ((m + 1 : Nat) : Int)) = true := decide_eq_true (by omega)
      have h1 := i64_ok (n := (m : Int)) (by omega)
      have h2 : ((m + 1 : Nat) : Int) - 1 = m := by omega
      have h3 : ((m + 1 : Nat) : Int).toNat = m + 1 := by omega
      have h4 : (0 : Int) ≤ ((m + 1 : Nat) : Int) := by omega
      obtain ⟨d, hx⟩ : ∃ d, l[m]? = some d := ⟨_, List.getElem?_eq_getElem (by omega)⟩
      have hdm := dgt_at hx
      simp only [hd, h1, h2, List.getElem?_map, hx, go_sem, ints, ic]
      refine Two_dec (fun hb hb' => ?_) (fun hb hb' => ?_)
      · simp only [hd, h1, h2, go_sem, ints, ic]
        refine RoundP_of m ?_ (by omega) ⟨by omega, fun i hi => ?_⟩
        · simp only [h1, h2, go_sem, ints, ic]
        · rcases Nat.lt_or_ge m i with h | h
          · exact hz i h
          · rw [show i = m by omega, hdm]; exact hb'
      · have hf := fin (.inr (by rw [Nat.add_sub_cancel, hdm]; exact hb'))
        simp only [ic_all, hnn, h3, h4, go_sem, ints, ic]
        refine ⟨by simp, ?_, ?_, ?_⟩
        · rw [Nat.sub_zero, hf]; exact ic_len _
        · rw [List.length_take, List.length_map]; omega
        · rw [Nat.sub_zero, hf]
set_option maxRecDepth 100000 in
set_option maxHeartbeats 1000000 in
theorem t_plus (a b : List Int) (ha : OkD a) (hb : OkD b) (la : a.length ≤ 100000) (lb : b.length ≤ 100000) : Ctr G.P 153 [ints a, ints b] (· = ints (dig (val a + val b).toNat)) := by
  refine ctr_go good _ _ [.tmp 4] Tryz.func153 rfl rfl (by decide +kernel) rfl ?_
  simp only [go_sem, ints, ic]
  refine LoopP_ofP [0, 1, 5, 6, 7] [38] [(5, 38, 3, 1)] (fun g : Nat × List Int × Int => ⟨[(0, .im (.sl (a.map ic))), (1, .im (.sl (b.map ic))), (5, .vec 38 3 1 (g.2.1.map ic)), (6, .im (.int g.2.2)), (7, .im (.int g.1))], [], [(38, 1, g.2.1.length)]⟩)
    (fun g => g.2.1.length = g.1 ∧ OkD g.2.1 ∧ 0 ≤ g.2.2 ∧ g.2.2 ≤ 1 ∧ val g.2.1 + 1048576 ^ g.1 * g.2.2 = val (a.take g.1) + val (b.take g.1) ∧ g.1 ≤ max a.length b.length + 1 ∧ (max a.length b.length < g.1 → g.2.2 = 0))
    (fun g => max a.length b.length + 1 - g.1) (0, [], 0) ?_ ?_ ⟨rfl, OkD.nil, Int.le_refl _, by decide, rfl, Nat.zero_le _, fun _ => rfl⟩ ?_
  · simp only [go_sem, ints, ic]
    simp
  · simp only [Int.natCast_zero, List.map_nil, go_sem, ints, ic]
  · intro ⟨i, out, c⟩ ⟨h1, h2, h3, h4, h5, h6, h7⟩
    dsimp only at h1 h2 h3 h4 h5 h6 h7
    obtain ⟨a0, a1⟩ := ha.dgt i
    obtain ⟨b0, b1⟩ := hb.dgt i
    have w1 := i64_ok (n := dgt a i + dgt b i) (by omega)
    have w2 := i64_ok (n := dgt a i + dgt b i + c) (by omega)
    have w3 := i64_ok (n := (i : Int) + 1) (by omega)
    have hm : (dgt a i + dgt b i + c).tmod 1048576 = (dgt a i + dgt b i + c) % 1048576 := Int.tmod_eq_emod_of_nonneg (by omega)
    have hq : IntKind.i64.wrap ((dgt a i + dgt b i + c).tdiv 1048576) = (dgt a i + dgt b i + c) / 1048576 := by
      rw [Int.tdiv_eq_ediv_of_nonneg (by omega)]; exact i64_ok (by omega)
    have nxt : (i < a.length ∨ i < b.length ∨ 0 < c) → (out ++ [(dgt a i + dgt b i + c) % 1048576]).length = i + 1 ∧ OkD (out ++ [(dgt a i + dgt b i + c) % 1048576]) ∧ 0 ≤ (dgt a i + dgt b i + c) / 1048576 ∧ (dgt a i + dgt b i + c) / 1048576 ≤ 1 ∧
        val (out ++ [(dgt a i + dgt b i + c) % 1048576]) + 1048576 ^ (i + 1) * ((dgt a i + dgt b i + c) / 1048576) = val (a.take (i + 1)) + val (b.take (i + 1)) ∧ i + 1 ≤ max a.length b.length + 1 ∧ (max a.length b.length < i + 1 → (dgt a i + dgt b i + c) / 1048576 = 0) := by
      intro hc
      have hi : i ≤ max a.length b.length := by
        rcases Nat.lt_or_ge (max a.length b.length) i with h | h
        · have := h7 h; omega
        · exact h
      refine ⟨by rw [List.length_append, h1]; rfl, h2.append (OkD.cons (by omega) OkD.nil), by omega, by omega, plus_step h1 h5 rfl, by omega, fun h => ?_⟩
      have ea : dgt a i = 0 := dgt_none (by omega)
      have eb : dgt b i = 0 := dgt_none (by omega)
      rw [ea, eb]; omega
    have fin : ¬ i < a.length → ¬ i < b.length → ¬ 0 < c → val out = val a + val b := by
      intro n1 n2 n3
      have hc : c = 0 := by omega
      rw [hc, Int.mul_zero, Int.add_zero, val_take_all (by omega), val_take_all (by omega)] at h5
      exact h5
    simp only [go_sem, ints, ic]
    refine Two_of (fun d1 => ?_) (fun d1 => ?_)
    · have hn := nxt (.inl (by have := of_decide_eq_true d1; omega))
      simp only [d1, go_sem, ints, ic]
      refine CallP_eq (t_digit a i) (by decide) ?_
      simp only [go_sem, ints, ic]
      refine CallP_eq (t_digit b i) (by decide) ?_
      simp only [w1, w2, hm, hq, go_sem, ints, ic]
      refine ⟨ic_len _, by simp, by omega, ?_⟩
      refine RoundP_of (i + 1, out ++ [(dgt a i + dgt b i + c) % 1048576], (dgt a i + dgt b i + c) / 1048576) ?_ ?_ hn
      · simp only [w3, hq, Int.natCast_add, List.map_append, List.length_append, go_sem, ints, ic]
      · show max a.length b.length + 1 - (i + 1) < max a.length b.length + 1 - i; omega
    · simp only [d1, go_sem, ints, ic]
      refine Two_of (fun d2 => ?_) (fun d2 => ?_)
      · have hn := nxt (.inr (.inl (by have := of_decide_eq_true d2; omega)))
        simp only [d1, d2, go_sem, ints, ic]
        refine CallP_eq (t_digit a i) (by decide) ?_
        simp only [go_sem, ints, ic]
        refine CallP_eq (t_digit b i) (by decide) ?_
        simp only [w1, w2, hm, hq, go_sem, ints, ic]
        refine ⟨ic_len _, by simp, by omega, ?_⟩
        refine RoundP_of (i + 1, out ++ [(dgt a i + dgt b i + c) % 1048576], (dgt a i + dgt b i + c) / 1048576) ?_ ?_ hn
        · simp only [w3, hq, Int.natCast_add, List.map_append, List.length_append, go_sem, ints, ic]
        · show max a.length b.length + 1 - (i + 1) < max a.length b.length + 1 - i; omega
      · simp only [d1, d2, go_sem, ints, ic]
        refine Two_of (fun d3 => ?_) (fun d3 => ?_)
        · have hn := nxt (.inr (.inr (of_decide_eq_true d3)))
          simp only [d1, d2, d3, go_sem, ints, ic]
          refine CallP_eq (t_digit a i) (by decide) ?_
          simp only [go_sem, ints, ic]
          refine CallP_eq (t_digit b i) (by decide) ?_
          simp only [w1, w2, hm, hq, go_sem, ints, ic]
          refine ⟨ic_len _, by simp, by omega, ?_⟩
          refine RoundP_of (i + 1, out ++ [(dgt a i + dgt b i + c) % 1048576], (dgt a i + dgt b i + c) / 1048576) ?_ ?_ hn
          · simp only [w3, hq, Int.natCast_add, List.map_append, List.length_append, go_sem, ints, ic]
          · show max a.length b.length + 1 - (i + 1) < max a.length b.length + 1 - i; omega
        · have hv := fin (by have := of_decide_eq_false d1; omega) (by have := of_decide_eq_false d2; omega) (of_decide_eq_false d3)
          have ht := t_trim out h2 (by omega)
          rw [hv] at ht
          simp only [d1, d2, d3, go_sem, ints, ic]
          refine CallP_eq ht (by decide) ?_
          simp only [go_sem, ints, ic]
end Go.Proofs.YtnjkhiafjcajaaaGreat

namespace Go.Abs
set_option linter.all false

theorem val_set : ∀ (l : List Int) (j : Nat) (v : Int), j < l.length → val (l.set j v) = val l + 1048576 ^ j * (v - dgt l j)
  | [], j, v, h => by simp at h
  | d :: l, 0, v, _ => by
    have : dgt (d :: l) 0 = d := rfl
    rw [List.set_cons_zero, this, Int.pow_zero, Int.one_mul]
    show v + 1048576 * val l = d + 1048576 * val l + (v - d)
    omega
  | d :: l, j + 1, v, h => by
    have ih := val_set l j v (by simpa using h)
    have hd : dgt (d :: l) (j + 1) = dgt l j := by simp [dgt]
    rw [List.set_cons_succ, hd, pow_step]
    show d + 1048576 * val (l.set j v) = d + 1048576 * val l + _
    rw [ih, Int.mul_add, Int.mul_comm (1048576 ^ j) 1048576, Int.mul_assoc]
    omega
theorem OkD.set {l : List Int} (h : OkD l) {j : Nat} {v : Int} (hv : 0 ≤ v ∧ v < 1048576) : OkD (l.set j v) := fun x hx => by
  rcases List.mem_or_eq_of_mem_set hx with h1 | h1
  · exact h x h1
  · rw [h1]; exact hv
theorem mul_lt_sq {x y : Int} (hx : 0 ≤ x ∧ x < 1048576) (hy : 0 ≤ y ∧ y < 1048576) : 0 ≤ x * y ∧ x * y ≤ 1048575 * 1048575 :=
  ⟨Int.mul_nonneg hx.1 hy.1, Int.mul_le_mul (by omega) (by omega) hy.1 (by omega)⟩
theorem times_step {out b : List Int} {j i k : Nat} {c n x V : Int} (hj : j = i + k) (hjl : j < out.length) (h : val out + 1048576 ^ j * c = V + 1048576 ^ i * (x * val (b.take k))) (hn : n = dgt out j + x * dgt b k + c) :
    val (out.set j (n % 1048576)) + 1048576 ^ (j + 1) * (n / 1048576) = V + 1048576 ^ i * (x * val (b.take (k + 1))) := by
  rw [val_set out j _ hjl, val_take_succ, pow_step, Int.mul_add x, Int.mul_add]
  have e1 : 1048576 ^ j * (n % 1048576 - dgt out j) + 1048576 ^ j * 1048576 * (n / 1048576) = 1048576 ^ j * (n - dgt out j) := by
    rw [Int.mul_assoc, ← Int.mul_add]
    congr 1
    have := Int.emod_add_mul_ediv n 1048576
    omega
  have e2 : 1048576 ^ j * (n - dgt out j) = 1048576 ^ j * c + 1048576 ^ j * (x * dgt b k) := by
    rw [← Int.mul_add]; congr 1; omega
  have e3 : (1048576 : Int) ^ i * (x * (1048576 ^ k * dgt b k)) = 1048576 ^ j * (x * dgt b k) := by
    rw [hj, Int.pow_add, Int.mul_left_comm x, Int.mul_assoc]
  rw [e3]
  omega
/-- The last carry of a row of a product is 0. -/
theorem times_last {a b : List Int} {i : Nat} {x W c' : Int} (ha : OkD a) (hb : OkD b) (hx : 0 ≤ x ∧ x < 1048576) (hW : 0 ≤ W) (hc : 0 ≤ c')
    (h : W + 1048576 ^ (i + b.length + 1) * c' = val (a.take i) * val b + 1048576 ^ i * (x * val b)) : c' = 0 := by
  have h1 := val_take_lt ha i
  have h0 := val_nonneg (ha.take i)
  have h2 := val_lt hb
  have h3 := val_nonneg hb
  have hp := pow_pos' i
  have e1 : val (a.take i) * val b ≤ (1048576 ^ i - 1) * val b := Int.mul_le_mul_of_nonneg_right (by omega) h3
  have e2 : x * val b ≤ 1048575 * val b := Int.mul_le_mul_of_nonneg_right (by omega) h3
  have e3 : 1048576 ^ i * (x * val b) ≤ 1048576 ^ i * (1048575 * val b) := Int.mul_le_mul_of_nonneg_left e2 (by omega)
  have e4 : (1048576 : Int) ^ i * val b ≤ 1048576 ^ i * (1048576 ^ b.length - 1) := Int.mul_le_mul_of_nonneg_left (by omega) (by omega)
  have e5 : (1048576 : Int) ^ (i + b.length + 1) = 1048576 ^ i * 1048576 ^ b.length * 1048576 := by rw [pow_step, Int.pow_add]
  rw [e5] at h
  have e6 : (1048576 : Int) ^ i * (1048575 * val b) = 1048575 * (1048576 ^ i * val b) := by rw [Int.mul_left_comm]
  have e7 : (1048576 ^ i - 1) * val b = 1048576 ^ i * val b - val b := by rw [Int.sub_mul]; omega
  have e8 : (1048576 : Int) ^ i * (1048576 ^ b.length - 1) = 1048576 ^ i * 1048576 ^ b.length - 1048576 ^ i := by rw [Int.mul_sub]; omega
  rcases Int.lt_or_le 0 c' with h4 | h4
  · have hq : 0 < (1048576 : Int) ^ i * 1048576 ^ b.length * 1048576 := Int.mul_pos (Int.mul_pos hp (pow_pos' _)) (by omega)
    have : (1048576 : Int) ^ i * 1048576 ^ b.length * 1048576 * 1 ≤ 1048576 ^ i * 1048576 ^ b.length * 1048576 * c' := Int.mul_le_mul_of_nonneg_left (by omega) (by omega)
    generalize (1048576 : Int) ^ i * 1048576 ^ b.length * 1048576 * c' = Z at *
    generalize (1048576 : Int) ^ i * 1048576 ^ b.length = q at *
    generalize (1048576 : Int) ^ i * val b = r at *
    omega
  · omega
theorem val_replicate (n : Nat) : val (List.replicate n 0) = 0 := by
  induction n with
  | zero => rfl
  | succ n ih => rw [List.replicate_succ]; show 0 + 1048576 * val (List.replicate n 0) = 0; rw [ih]; rfl
theorem OkD.replicate (n : Nat) : OkD (List.replicate n 0) := fun x hx => by rw [List.eq_of_mem_replicate hx]; omega
end Go.Abs

namespace Go.Proofs.YtnjkhiafjcajaaaGreat
set_option linter.all false
open Go.Abs

/-- How many digits stay. -/
theorem trim_len {l : List Int} (hl : OkD l) : (dig (val l).toNat).length ≤ l.length := by
  have h := val_lt hl
  have h0 := val_nonneg hl
  exact dig_len_le (by rw [Int.toNat_of_nonneg h0]; exact h)
set_option maxRecDepth 100000 in
set_option maxHeartbeats 1000000 in
theorem t_ptrim (l : List Int) (hl : OkD l) (hlen : l.length ≤ 1000000) : Ctr G.P 164 [ints l] (· = ints (dig (val l).toNat)) := by
  refine ctr_go good _ _ [.tmp 2] Tryz.func164 rfl rfl (by decide +kernel) rfl ?_
  simp only [go_sem, ints, ic]
  refine LoopP_of [0, 3] [] (fun n : Nat => ⟨[(0, .im (.sl (l.map ic))), (3, .im (.int n))], [], []⟩) (fun n => n ≤ l.length ∧ ∀ i, n ≤ i → dgt l i = 0) (fun n => n) l.length ?_ ⟨Nat.le_refl _, fun i hi => dgt_none hi⟩ ?_
  · simp only [go_sem, ints, ic]
  · intro n ⟨hn, hz⟩
    have fin : n = 0 ∨ dgt l (n - 1) ≠ 0 → (l.map ic).take n = (dig (val l).toNat).map ic := fun h => by
      rw [← List.map_take, take_dig hl hn hz h]
    have hnn : (n : Int) ≤ l.length := by omega
    rcases n with _ | m
    · have hd : decide ((0 : Int) < ((0 : Nat) : Int)) = false := by decide
      have hf := fin (.inl rfl)
      rw [List.take_zero] at hf
      have hg : dig (val l).toNat = [] := List.map_eq_nil_iff.1 hf.symm
      rw [hg]
      simp only [hd, Int.natCast_zero, Int.lt_irrefl, ic_all, go_sem, ints, ic]
    · have hd : decide ((0 : Int) < ((m + 1 : Nat) : Int)) = true := decide_eq_true (by omega)
      have h1 := i64_ok (n := (m : Int)) (by omega)
      have h2 : ((m + 1 : Nat) : Int) - 1 = m := by omega
      have h3 : ((m + 1 : Nat) : Int).toNat = m + 1 := by omega
      have h4 : (0 : Int) ≤ ((m + 1 : Nat) : Int) := by omega
      obtain ⟨d, hx⟩ : ∃ d, l[m]? = some d := ⟨_, List.getElem?_eq_getElem (by omega)⟩
      have hdm := dgt_at hx
      simp only [hd, h1, h2, List.getElem?_map, hx, go_sem, ints, ic]
      refine Two_dec (fun hb hb' => ?_) (fun hb hb' => ?_)
      · simp only [hd, h1, h2, hb, go_sem, ints, ic]
        refine RoundP_of m ?_ (by omega) ⟨by omega, fun i hi => ?_⟩
        · simp only [h1, h2, go_sem, ints, ic]
        · rcases Nat.lt_or_ge m i with h | h
          · exact hz i h
          · rw [show i = m by omega, hdm]; exact hb'
      · have hf := fin (.inr (by rw [Nat.add_sub_cancel, hdm]; exact hb'))
        simp only [ic_all, hnn, h3, h4, hb, hf, Nat.sub_zero, go_sem, ints, ic]
set_option maxRecDepth 100000 in
set_option maxHeartbeats 1000000 in
/-- The same on a slice that its caller writes to. -/
theorem t_ptrimO (l : List Int) (hl : OkD l) (hlen : l.length ≤ 1000000) : CtrM G.P 164 [.gsl 900 3 1 l.length] [(900, 1, l.map ic)] (fun r Es new => r = .gsl 900 3 1 (dig (val l).toNat).length ∧ Es = [l.map ic] ∧ new = none) := by
  refine ctrm_go good _ _ [.tmp 2] Tryz.func164 rfl rfl (by decide +kernel) rfl rfl (by simp) ?_
  simp only [go_sem, ints, ic]
  refine LoopP_of [0, 3] [900] (fun n : Nat => ⟨[(0, .gsl 900 3 1 l.length), (3, .im (.int n))], [(900, 1, l.map ic)], []⟩) (fun n => n ≤ l.length ∧ ∀ i, n ≤ i → dgt l i = 0) (fun n => n) l.length ?_ ⟨Nat.le_refl _, fun i hi => dgt_none hi⟩ ?_
  · simp only [go_sem, ints, ic]
  · intro n ⟨hn, hz⟩
    have fin : n = 0 ∨ dgt l (n - 1) ≠ 0 → (dig (val l).toNat).length = n := fun h => by
      rw [← take_dig hl hn hz h, List.length_take]; omega
    have hnn : (n : Int) ≤ l.length := by omega
    rcases n with _ | m
    · have hd : decide ((0 : Int) < ((0 : Nat) : Int)) = false := by decide
      have hf := fin (.inl rfl)
      rw [hf]
      simp only [hd, Int.natCast_zero, Int.lt_irrefl, ic_all, Int.le_refl, Int.toNat_zero, eq_self, go_sem, ints, ic]
    · have hd : decide ((0 : Int) < ((m + 1 : Nat) : Int)) = true := decide_eq_true (by omega)
      have h1 := i64_ok (n := (m : Int)) (by omega)
      have h2 : ((m + 1 : Nat) : Int) - 1 = m := by omega
      have h3 : ((m + 1 : Nat) : Int).toNat = m + 1 := by omega
      have h4 : (0 : Int) ≤ ((m + 1 : Nat) : Int) := by omega
      have h5 : (m : Int) < l.length := by omega
      obtain ⟨d, hx⟩ : ∃ d, l[m]? = some d := ⟨_, List.getElem?_eq_getElem (by omega)⟩
      have hdm := dgt_at hx
      simp only [hd, h1, h2, h5, List.getElem?_map, hx, go_sem, ints, ic]
      refine Two_dec (fun hb hb' => ?_) (fun hb hb' => ?_)
      · simp only [hd, h1, h2, hb, go_sem, ints, ic]
        refine RoundP_of m ?_ (by omega) ⟨by omega, fun i hi => ?_⟩
        · simp only [h1, h2, go_sem, ints, ic]
        · rcases Nat.lt_or_ge m i with h | h
          · exact hz i h
          · rw [show i = m by omega, hdm]; exact hb'
      · have hf := fin (.inr (by rw [Nat.add_sub_cancel, hdm]; exact hb'))
        rw [hf]
        simp only [ic_all, hnn, h3, h4, hb, Nat.sub_zero, eq_self, go_sem, ints, ic]
set_option maxRecDepth 100000 in
theorem t_clone (l : List Int) (hlen : l.length ≤ 1000000) : Ctr G.P 161 [ints l] (· = ints l) := by
  refine ctr_go good _ _ [.tmp 2] Tryz.func161 rfl rfl (by decide +kernel) rfl ?_
  simp only [go_sem, ints, ic]
  refine NilP_of (fun h => ?_) ?_
  · have : l = [] := List.map_eq_nil_iff.1 h
    subst this
    simp only [List.map_nil, go_sem, ints, ic]
  · simp only [go_sem, ints, ic]
    exact ⟨by simp, ic_len l, by omega⟩
set_option maxRecDepth 100000 in
/-- A copy that is written to. -/
theorem t_cloneO (l : List Int) (hne : l ≠ []) (hlen : l.length ≤ 1000000) : CtrM G.P 161 [.im (ints l)] [] (fun r Es new => r = .gsl 901 3 1 l.length ∧ Es = [] ∧ new = some (1, l.map ic)) := by
  have hne' : l.map ic ≠ [] := fun h => hne (List.map_eq_nil_iff.1 h)
  refine ctrm_go goodO _ _ [.tmp 2] Tryz.func161 rfl rfl (by decide +kernel) rfl rfl (by simp) ?_
  simp only [go_sem, ints, ic]
  refine NilP_of (fun h => absurd h hne') ?_
  simp only [hne', go_sem, ints, ic]
  exact ⟨ic_len l, by omega⟩
end Go.Proofs.YtnjkhiafjcajaaaGreat

namespace Go.Abs
set_option linter.all false

/-- One more digit of the quotient: from above, n digits are still to come, m + 1 = n. -/
theorem over_step {a q : List Int} {m : Nat} {b R lo : Int} (hm : m < q.length) (h : val (a.drop (m + 1)) = val (q.drop (m + 1)) * b + R) :
    val (a.drop m) = val ((q.set m lo).drop m) * b + (dgt a m + 1048576 * R - lo * b) := by
  rw [val_drop a m, val_drop (q.set m lo) m, h]
  have h1 : dgt (q.set m lo) m = lo := by simp [dgt, hm]
  have h2 : (q.set m lo).drop (m + 1) = q.drop (m + 1) := by
    rw [List.drop_set_of_lt (by omega)]
  rw [h1, h2, Int.add_mul, Int.mul_assoc, Int.mul_add]
  omega
theorem val_set_drop {q : List Int} {m : Nat} {lo : Int} (j : Nat) (h : m < j) : (q.set m lo).drop j = q.drop j := List.drop_set_of_lt h
/-- The quotient and the remainder. -/
theorem over_end {x q b R : Int} (h : x = q * b + R) (h0 : 0 ≤ R) (h1 : R < b) : q = x / b ∧ R = x % b := by
  have hb : 0 < b := by omega
  have h2 : x / b = q := by
    rw [h, Int.add_comm, Int.add_mul_ediv_right _ _ (by omega), Int.ediv_eq_zero_of_lt h0 h1, Int.zero_add]
  refine ⟨h2.symm, ?_⟩
  have := Int.emod_add_mul_ediv x b
  rw [h2] at this
  rw [Int.mul_comm] at this
  omega
end Go.Abs

namespace Go.Abs
set_option linter.all false

theorem ofInt_toNat (n : Int) : (BitVec.ofInt 64 n).toNat = (n % 18446744073709551616).toNat := by
  rw [BitVec.toNat_ofInt]; rfl
theorem and20 (n : Int) : bits .and .i64 n 1048575 = n % 1048576 := by
  have h1 : (BitVec.ofInt 64 n &&& BitVec.ofInt 64 1048575).toNat = (n % 1048576).toNat := by
    rw [BitVec.toNat_and, ofInt_toNat, ofInt_toNat]
    have e : ((1048575 : Int) % 18446744073709551616).toNat = 2 ^ 20 - 1 := by decide
    rw [e, Nat.and_two_pow_sub_one_eq_mod]
    have : (n % 18446744073709551616) % 1048576 = n % 1048576 := Int.emod_emod_of_dvd n ⟨17592186044416, by decide⟩
    omega
  have h2 : bits .and .i64 n 1048575 = IntKind.i64.wrap ((BitVec.ofInt 64 n &&& BitVec.ofInt 64 1048575).toNat : Nat) := rfl
  rw [h2, h1]
  have h3 := Int.emod_nonneg n (show (1048576 : Int) ≠ 0 by decide)
  have h4 := Int.emod_lt_of_pos n (show (0 : Int) < 1048576 by decide)
  rw [Int.toNat_of_nonneg h3]
  exact IntWalk.i64_in _ (by omega)
theorem or20 (r a : Int) (hr : 0 ≤ r ∧ r < 8796093022208) (ha : 0 ≤ a ∧ a < 1048576) : bits .or .i64 (r * 1048576) a = r * 1048576 + a := by
  have h1 : (BitVec.ofInt 64 (r * 1048576) ||| BitVec.ofInt 64 a).toNat = (r * 1048576 + a).toNat := by
    rw [BitVec.toNat_or, ofInt_toNat, ofInt_toNat, Int.emod_eq_of_lt (by omega) (by omega), Int.emod_eq_of_lt (by omega) (by omega)]
    have e1 : (r * 1048576).toNat = 2 ^ 20 * r.toNat := by omega
    rw [e1, ← Nat.two_pow_add_eq_or_of_lt (by omega : a.toNat < 2 ^ 20)]
    omega
  have h2 : bits .or .i64 (r * 1048576) a = IntKind.i64.wrap ((BitVec.ofInt 64 (r * 1048576) ||| BitVec.ofInt 64 a).toNat : Nat) := rfl
  rw [h2, h1, Int.toNat_of_nonneg (by omega)]
  exact IntWalk.i64_in _ (by omega)
theorem shr20 (n : Int) : n.fdiv (2 ^ 20) = n / 1048576 := Int.fdiv_eq_ediv_of_nonneg n (by decide)
theorem fd20 (n : Int) : n.fdiv 1048576 = n / 1048576 := Int.fdiv_eq_ediv_of_nonneg n (by decide)
theorem and1 (n : Int) (h : -9223372036854775808 ≤ n ∧ n ≤ 9223372036854775807) : bits .and .i64 n 1 = n % 2 := by
  have h1 : (BitVec.ofInt 64 n &&& BitVec.ofInt 64 1).toNat = (n % 2).toNat := by
    rw [BitVec.toNat_and, ofInt_toNat, ofInt_toNat]
    have e : ((1 : Int) % 18446744073709551616).toNat = 2 ^ 1 - 1 := by decide
    rw [e, Nat.and_two_pow_sub_one_eq_mod]
    omega
  have h2 : bits .and .i64 n 1 = IntKind.i64.wrap ((BitVec.ofInt 64 n &&& BitVec.ofInt 64 1).toNat : Nat) := rfl
  rw [h2, h1, Int.toNat_of_nonneg (by omega)]
  exact IntWalk.i64_in _ (by omega)
/-- One digit of a sum. -/
theorem add_step {out a b : List Int} {i : Nat} {c n : Int} (hi : i < out.length) (hz : dgt out i = 0) (h : val out + 1048576 ^ i * c = val (a.take i) + val (b.take i)) (hn : n = dgt a i + dgt b i + c) :
    val (out.set i (n % 1048576)) + 1048576 ^ (i + 1) * (n / 1048576) = val (a.take (i + 1)) + val (b.take (i + 1)) := by
  rw [val_set _ _ _ hi, hz, Int.sub_zero, val_take_succ, val_take_succ, pow_step]
  generalize (1048576 : Int) ^ i = p at *
  have e : p * (n % 1048576) + p * 1048576 * (n / 1048576) = p * n := by
    rw [Int.mul_assoc, ← Int.mul_add, Int.emod_add_mul_ediv]
  have e2 : p * n = p * dgt a i + p * dgt b i + p * c := by rw [hn, Int.mul_add, Int.mul_add]
  omega
/-- One digit of a difference, in place; V is the number from which it is taken. -/
theorem sub_step {out b : List Int} {i : Nat} {c n V : Int} (hi : i < out.length) (h : val out - 1048576 ^ i * c = V - val (b.take i)) (hn : n = dgt out i - dgt b i - c) :
    val (out.set i (n % 1048576)) - 1048576 ^ (i + 1) * -(n / 1048576) = V - val (b.take (i + 1)) := by
  rw [val_set _ _ _ hi, val_take_succ, pow_step]
  generalize (1048576 : Int) ^ i = p at *
  have e0 := Int.emod_add_mul_ediv n 1048576
  have e : p * (n % 1048576 - dgt out i) - p * 1048576 * -(n / 1048576) = p * (n - dgt out i) := by
    rw [Int.mul_assoc, ← Int.mul_sub]
    congr 1
    omega
  have e2 : p * (n - dgt out i) = -(p * dgt b i) - p * c := by
    rw [hn, show dgt out i - dgt b i - c - dgt out i = -dgt b i - c by omega, Int.mul_sub, Int.mul_neg]
  omega
theorem dgt_set_ne {l : List Int} {i j : Nat} {v : Int} (h : i ≠ j) : dgt (l.set i v) j = dgt l j := by
  unfold dgt; rw [List.getElem?_set_ne h]
theorem mb20 : min 20 64 = (20 : Nat) := rfl
theorem pw20 : (2 : Int) ^ 20 = 1048576 := by decide
end Go.Abs

namespace Go.Proofs.YtnjkhiafjcajaaaGreat
set_option linter.all false
open Go.Abs

set_option maxRecDepth 100000 in
set_option maxHeartbeats 1000000 in
/-- The quotient and the remainder of digits and one digit. -/
theorem t_short (a : List Int) (d : Int) (ha : OkD a) (hd : 1 ≤ d ∧ d < 1048576) (la : a.length ≤ 1000000) : Ctr G.P 185 [ints a, .int d] (· = .tup [ints (dig (val a / d).toNat), .int (val a % d)]) := by
  have w1 := i64_ok (n := (a.length : Int) - 1) (by omega)
  have w0 : (a.length : Int) * 8 ≤ 140737488355328 := by omega
  refine ctr_go good _ _ [.tmp 4, .tmp 5] Tryz.func185 rfl rfl (by decide +kernel) rfl ?_
  simp only [w1, w0, go_sem, ints, ic, mb20, pw20, fd20]
  refine LoopP_of [0, 1, 6, 7, 8] [11] (fun g : Nat × List Int × Int => ⟨[(0, .im (.sl (a.map ic))), (1, .im (.int d)), (6, .gsl 11 3 1 a.length), (7, .im (.int g.2.2)), (8, .im (.int ((g.1 : Int) - 1)))], [(11, 1, g.2.1.map ic)], []⟩)
    (fun g => g.1 ≤ a.length ∧ g.2.1.length = a.length ∧ OkD g.2.1 ∧ 0 ≤ g.2.2 ∧ g.2.2 < d ∧ val (a.drop g.1) = val (g.2.1.drop g.1) * d + g.2.2) (fun g => g.1) (a.length, List.replicate a.length 0, 0) ?_
    ⟨Nat.le_refl _, List.length_replicate, OkD.replicate _, Int.le_refl _, by dsimp only; omega, by
      dsimp only
      rw [List.drop_of_length_le (Nat.le_refl _), List.drop_of_length_le (by rw [List.length_replicate]; exact Nat.le_refl _)]
      simp [val]⟩ ?_
  · simp only [w1, List.map_replicate, List.length_replicate, go_sem, ints, ic, mb20, pw20, fd20]
  intro ⟨n, q, r⟩ ⟨h1, h2, h3, h4, h5, h6⟩
  dsimp only at h1 h2 h3 h4 h5 h6
  rcases n with _ | m
  · have hg : decide ((0 : Int) ≤ ((0 : Nat) : Int) - 1) = false := by decide
    rw [List.drop_zero, List.drop_zero] at h6
    obtain ⟨e1, e2⟩ := over_end h6 h4 h5
    have ht := t_ptrim q h3 (by omega)
    rw [e1] at ht
    rw [← e2]
    simp only [ints] at ht
    have hql : a.length ≤ q.length := by omega
    have htk : (q.map ic).take a.length = q.map ic := List.take_of_length_le (by rw [List.length_map]; omega)
    simp only [hg, hql, htk, go_sem, ints, ic, mb20, pw20, fd20]
    refine CallP_eq ht (by decide) ?_
    simp only [go_sem, ints, ic, mb20, pw20, fd20]
  · have e1 : ((m + 1 : Nat) : Int) - 1 = m := by omega
    have hg : decide ((0 : Int) ≤ (m : Int)) = true := decide_eq_true (by omega)
    have hx := get_nat (l := a) (i := m) (by omega)
    have hda := ha.dgt m
    have hq : (m : Int) < a.length := by omega
    have hqx := get_nat (l := q) (i := m) (by omega)
    have w2 := i64_ok (n := r * 1048576) (by omega)
    have w3 := or20 r (dgt a m) (by omega) hda
    generalize hR : r * 1048576 + dgt a m = R at *
    have hR0 : 0 ≤ R := by omega
    have hRd : R < d * 1048576 := by omega
    have hlo : R / d < 1048576 := Int.ediv_lt_of_lt_mul (by omega) (by rw [Int.mul_comm]; exact hRd)
    have hlo0 : 0 ≤ R / d := Int.ediv_nonneg hR0 (by omega)
    have w4 : IntKind.i64.wrap (R.tdiv d) = R / d := by
      rw [Int.tdiv_eq_ediv_of_nonneg hR0]; exact i64_ok (by omega)
    have w5 : R.tmod d = R % d := Int.tmod_eq_emod_of_nonneg hR0
    have w6 : decide (d = 0) = false := decide_eq_false (by omega)
    have w7 := i64_ok (n := (m : Int) - 1) (by omega)
    have d0 : ¬ d = 0 := by omega
    have hs := over_step (lo := R / d) (by omega : m < q.length) h6
    have hmod := Int.emod_nonneg R (by omega : d ≠ 0)
    have hmod2 := Int.emod_lt_of_pos R (by omega : 0 < d)
    have hdm : dgt a m + 1048576 * r - R / d * d = R % d := by
      have := Int.emod_add_mul_ediv R d
      rw [Int.mul_comm (R / d) d]; omega
    rw [hdm] at hs
    simp only [e1, hg, hq, List.getElem?_map, hx, hqx, w2, w3, w4, w5, w6, d0, ← List.map_set, go_sem, ints, ic, mb20, pw20, fd20]
    refine RoundP_of (m, q.set m (R / d), R % d) ?_ ?_ ⟨?_, ?_, ?_, hmod, hmod2, hs⟩
    · simp only [w7, List.map_set, go_sem, ints, ic, mb20, pw20, fd20]
    · show m < m + 1; omega
    · show m ≤ a.length; omega
    · show (q.set m (R / d)).length = a.length; rw [List.length_set]; exact h2
    · exact h3.set ⟨hlo0, hlo⟩
end Go.Proofs.YtnjkhiafjcajaaaGreat

namespace Go.Proofs.YtnjkhiafjcajaaaGreat
set_option linter.all false
open Go.Abs

/-- The digits of a number, filled up with zeros. -/
def padD (n v : Nat) : List Int := dig v ++ List.replicate (n - (dig v).length) 0
theorem val_zeros {l : List Int} (hl : OkD l) (h : val l = 0) : l = List.replicate l.length 0 := by
  induction l with
  | nil => rfl
  | cons d l ih =>
    have h1 := hl.head
    have h2 := val_nonneg hl.tail
    simp only [val] at h
    have h3 := ih hl.tail (by omega)
    rw [List.length_cons, List.replicate_succ, ← h3, show d = 0 by omega]
theorem pad_eq {l : List Int} (hl : OkD l) : l = padD l.length (val l).toNat := by
  have hlen : (dig (val l).toNat).length ≤ l.length := by
    refine dig_len_le ?_
    rw [Int.toNat_of_nonneg (val_nonneg hl)]; exact val_lt hl
  have h0 := val_nonneg hl
  have hv : val (dig (val l).toNat) = val l := by rw [val_dig]; omega
  have h1 := val_split l (dig (val l).toNat).length
  have hlt : val l < 1048576 ^ (dig (val l).toNat).length := by
    have := val_lt (dig_ok (val l).toNat)
    rw [hv] at this; exact this
  have h2 := drop_zero_of_lt hl hlt
  have h3 := val_zeros (hl.drop (dig (val l).toNat).length) h2
  have h4 := take_of_lt hl hlt
  have h5 : l.take (dig (val l).toNat).length = dig (val l).toNat := by
    have : ∀ (a b : List Int), OkD a → OkD b → a.length = b.length → val a = val b → a = b := by
      intro a
      induction a with
      | nil => intro b _ _ h _; exact (List.eq_nil_of_length_eq_zero h.symm).symm
      | cons d a ih =>
        intro b ha hb h hv
        cases b with
        | nil => simp at h
        | cons e b =>
          have g1 := ha.head
          have g2 := hb.head
          simp only [val] at hv
          rw [show d = e by omega, ih b ha.tail hb.tail (by simpa using h) (by omega)]
    refine this _ _ (hl.take _) (dig_ok _) (by rw [List.length_take]; omega) (by rw [h4, hv])
  conv => lhs; rw [← List.take_append_drop (dig (val l).toNat).length l]
  rw [h5, h3, List.length_drop]
  rfl
theorem mul_last {a b out : List Int} {i : Nat} {c : Int} (hl : i + b.length < out.length) (ho : OkD out) (hz : ∀ j, i + b.length ≤ j → dgt out j = 0) (hc : 0 ≤ c ∧ c < 1048576)
    (hv : val out + 1048576 ^ (i + b.length) * c = val (a.take i) * val b + 1048576 ^ i * (dgt a i * val b)) :
    OkD (out.set (i + b.length) c) ∧ (out.set (i + b.length) c).length = out.length ∧ val (out.set (i + b.length) c) = val (a.take (i + 1)) * val b ∧ ∀ j, i + 1 + b.length ≤ j → dgt (out.set (i + b.length) c) j = 0 := by
  refine ⟨ho.set hc, List.length_set, ?_, fun j hj => ?_⟩
  · rw [val_set _ _ _ hl, hz _ (Nat.le_refl _), Int.sub_zero, hv, val_take_succ, Int.add_mul, Int.mul_assoc]
  · have := hz j (by omega)
    unfold dgt at this ⊢
    rw [List.getElem?_set_ne (by omega)]; exact this
set_option maxRecDepth 100000 in
set_option maxHeartbeats 2000000 in
theorem t_pmul (a b : List Int) (ha : OkD a) (hb : OkD b) (la : a.length ≤ 100000) (lb : b.length ≤ 100000) : Ctr G.P 165 [ints a, ints b] (· = ints (dig (val a * val b).toNat)) := by
  have w0 := i64_ok (n := (a.length : Int) + b.length) (by omega)
  have w00 : ((a.length : Int) + b.length) * 8 ≤ 140737488355328 := by omega
  have w01 : (0 : Int) ≤ (a.length : Int) + b.length := by omega
  have w02 : ((a.length : Int) + b.length).toNat = a.length + b.length := by omega
  refine ctr_go good _ _ [.tmp 4] Tryz.func165 rfl rfl (by decide +kernel) rfl ?_
  simp only [w0, w00, w01, w02, go_sem, ints, ic, mb20, pw20, fd20]
  refine LoopP_of [1, 5, 18, 19, 20] [17] (fun g : Nat × List Int => ⟨[(1, .im (.sl (b.map ic))), (5, .gsl 17 3 1 (a.length + b.length)), (18, .im (.sl (a.map ic))), (19, .im (.int a.length)), (20, .im (.int g.1))], [(17, 1, g.2.map ic)], []⟩)
    (fun g => g.1 ≤ a.length ∧ g.2.length = a.length + b.length ∧ OkD g.2 ∧ val g.2 = val (a.take g.1) * val b ∧ ∀ j, g.1 + b.length ≤ j → dgt g.2 j = 0) (fun g => a.length - g.1) (0, List.replicate (a.length + b.length) 0) ?_
    ⟨Nat.zero_le _, List.length_replicate, OkD.replicate _, by dsimp only; rw [val_replicate]; simp [val], fun j _ => by
      unfold dgt; rw [List.getElem?_replicate]; split <;> rfl⟩ ?_
  · simp only [Int.natCast_zero, List.map_replicate, List.length_replicate, go_sem, ints, ic, mb20, pw20, fd20]
  intro ⟨i, out0⟩ ⟨hi, hl0, ho0, hv0, hz0⟩
  dsimp only at hi hl0 ho0 hv0 hz0
  by_cases hp : (i : Int) < a.length
  case neg =>
    have hd : decide ((i : Int) < a.length) = false := decide_eq_false hp
    rw [val_take_all (l := a) (i := i) (by omega)] at hv0
    have ht := t_ptrim out0 ho0 (by omega)
    rw [hv0] at ht
    have hall : (out0.map ic).take (a.length + b.length) = out0.map ic := List.take_of_length_le (by rw [List.length_map]; omega)
    have hle : a.length + b.length ≤ out0.length := by omega
    simp only [ints] at ht
    simp only [hd, hle, hall, go_sem, ints, ic, mb20, pw20, fd20]
    refine CallP_eq ht (by decide) ?_
    simp only [go_sem, ints, ic, mb20, pw20, fd20]
  case pos =>
    have hd : decide ((i : Int) < a.length) = true := decide_eq_true hp
    have hx := get_nat hp
    have h1 := i64_ok (n := (i : Int) + 1) (by omega)
    simp only [hd, List.getElem?_map, hx, go_sem, ints, ic, mb20, pw20, fd20]
    refine LoopP_of [1, 5, 6, 7, 8, 18, 19, 20, 25, 26, 27] [17] (fun g : Nat × List Int × Int => ⟨[(1, .im (.sl (b.map ic))), (5, .gsl 17 3 1 (a.length + b.length)), (6, .im (.int i)), (7, .im (.int (dgt a i))), (8, .im (.int g.2.2)), (18, .im (.sl (a.map ic))), (19, .im (.int a.length)), (20, .im (.int i)), (25, .im (.sl (b.map ic))), (26, .im (.int b.length)), (27, .im (.int g.1))], [(17, 1, g.2.1.map ic)], []⟩)
      (fun g => g.1 ≤ b.length ∧ g.2.1.length = a.length + b.length ∧ OkD g.2.1 ∧ 0 ≤ g.2.2 ∧ g.2.2 < 1048576 ∧ val g.2.1 + 1048576 ^ (i + g.1) * g.2.2 = val (a.take i) * val b + 1048576 ^ i * (dgt a i * val (b.take g.1)) ∧ ∀ j, i + b.length ≤ j → dgt g.2.1 j = 0)
      (fun g => b.length - g.1) (0, out0, 0) ?_ ⟨Nat.zero_le _, hl0, ho0, Int.le_refl _, by dsimp only; omega, by dsimp only; rw [List.take_zero, hv0]; simp [val], hz0⟩ ?_
    · simp only [Int.natCast_zero, go_sem, ints, ic, mb20, pw20, fd20]
    intro ⟨k, out, c⟩ ⟨hk, hl, ho, hc0, hc1, hv, hz⟩
    dsimp only at hk hl ho hc0 hc1 hv hz
    by_cases hkl : (k : Int) < b.length
    case neg =>
      have d1 : decide ((k : Int) < b.length) = false := decide_eq_false hkl
      have hkb : k = b.length := by omega
      subst hkb
      rw [val_take_all (l := b) (Nat.le_refl _)] at hv
      obtain ⟨g1, g2, g3, g4⟩ := mul_last (a := a) (by omega) ho hz ⟨hc0, hc1⟩ hv
      have w1 := i64_ok (n := (i : Int) + b.length) (by omega)
      have hjn : ((i : Int) + b.length).toNat = i + b.length := by omega
      have hj0 : (0 : Int) ≤ (i : Int) + b.length := by omega
      have hjl : (i : Int) + b.length < ((a.length + b.length : Nat) : Int) := by omega
      have hy : out[i + b.length]? = some (dgt out (i + b.length)) := get_nat (by omega)
      rw [hz _ (Nat.le_refl _)] at hy
      have w2 := i64_ok (n := 0 + c) (by omega)
      rw [Int.zero_add] at w2
      simp only [d1, w1, hjn, hj0, hjl, List.getElem?_map, hy, w2, Int.zero_add, go_sem, ints, ic, mb20, pw20, fd20]
      refine RoundP_of (i + 1, out.set (i + b.length) c) ?_ ?_ ⟨?_, ?_, g1, g3, g4⟩
      · simp only [h1, Int.natCast_add, List.map_set, go_sem, ints, ic, mb20, pw20, fd20]
      · show a.length - (i + 1) < a.length - i; omega
      · show i + 1 ≤ a.length; omega
      · show (out.set (i + b.length) c).length = _; rw [g2]; exact hl
    case pos =>
      have d1 : decide ((k : Int) < b.length) = true := decide_eq_true hkl
      have hyb := get_nat hkl
      have hda := ha.dgt i
      have hdb := hb.dgt k
      have hdo := ho.dgt (i + k)
      have hmul := mul_lt_sq hda hdb
      have w1 := i64_ok (n := (i : Int) + k) (by omega)
      have w2 := i64_ok (n := dgt a i * dgt b k) (by omega)
      have w3 := i64_ok (n := dgt out (i + k) + dgt a i * dgt b k) (by omega)
      have w4 := i64_ok (n := dgt out (i + k) + dgt a i * dgt b k + c) (by omega)
      have w5 := i64_ok (n := (k : Int) + 1) (by omega)
      have hjn : ((i : Int) + k).toNat = i + k := by omega
      have hj0 : (0 : Int) ≤ (i : Int) + k := by omega
      have hjl : (i : Int) + k < ((a.length + b.length : Nat) : Int) := by omega
      have hy : out[i + k]? = some (dgt out (i + k)) := get_nat (by omega)
      have hs := times_step (out := out) (b := b) (j := i + k) (i := i) (k := k) (c := c) (x := dgt a i) (V := val (a.take i) * val b) rfl (by omega) hv rfl
      generalize hn : dgt out (i + k) + dgt a i * dgt b k + c = n at *
      have a1 := and20 n
      simp only [d1, List.getElem?_map, hyb, w1, w2, hjn, hj0, hjl, hy, w3, hn, w4, a1, go_sem, ints, ic, mb20, pw20, fd20]
      refine RoundP_of (k + 1, out.set (i + k) (n % 1048576), n / 1048576) ?_ ?_ ⟨?_, ?_, ho.set (by omega), ?_, ?_, hs, fun j hj => ?_⟩
      · simp only [w5, hn, w4, Int.natCast_add, List.map_set, go_sem, ints, ic, mb20, pw20, fd20]
      · show b.length - (k + 1) < b.length - k; omega
      · show k + 1 ≤ b.length; omega
      · show (out.set (i + k) _).length = _; rw [List.length_set]; exact hl
      · show 0 ≤ n / 1048576; omega
      · show n / 1048576 < 1048576; omega
      · have := hz j hj
        unfold dgt at this ⊢
        rw [List.getElem?_set_ne (by omega)]; exact this
set_option maxRecDepth 100000 in
set_option maxHeartbeats 2000000 in
/-- The product, as a slice that is written to. -/
theorem t_pmulO (a b : List Int) (ha : OkD a) (hb : OkD b) (la : a.length ≤ 100000) (lb : b.length ≤ 100000) :
    CtrM G.P 165 [.im (ints a), .im (ints b)] [] (fun r Es new => r = .gsl 901 3 1 (dig (val a * val b).toNat).length ∧ Es = [] ∧ new = some (1, (padD (a.length + b.length) (val a * val b).toNat).map ic)) := by
  have w0 := i64_ok (n := (a.length : Int) + b.length) (by omega)
  have w00 : ((a.length : Int) + b.length) * 8 ≤ 140737488355328 := by omega
  have w01 : (0 : Int) ≤ (a.length : Int) + b.length := by omega
  have w02 : ((a.length : Int) + b.length).toNat = a.length + b.length := by omega
  refine ctrm_go good _ _ [.tmp 4] Tryz.func165 rfl rfl (by decide +kernel) rfl rfl (by simp) ?_
  simp only [w0, w00, w01, w02, go_sem, ints, ic, mb20, pw20, fd20]
  refine LoopP_of [1, 5, 18, 19, 20] [17] (fun g : Nat × List Int => ⟨[(1, .im (.sl (b.map ic))), (5, .gsl 17 3 1 (a.length + b.length)), (18, .im (.sl (a.map ic))), (19, .im (.int a.length)), (20, .im (.int g.1))], [(17, 1, g.2.map ic)], []⟩)
    (fun g => g.1 ≤ a.length ∧ g.2.length = a.length + b.length ∧ OkD g.2 ∧ val g.2 = val (a.take g.1) * val b ∧ ∀ j, g.1 + b.length ≤ j → dgt g.2 j = 0) (fun g => a.length - g.1) (0, List.replicate (a.length + b.length) 0) ?_
    ⟨Nat.zero_le _, List.length_replicate, OkD.replicate _, by dsimp only; rw [val_replicate]; simp [val], fun j _ => by
      unfold dgt; rw [List.getElem?_replicate]; split <;> rfl⟩ ?_
  · simp only [Int.natCast_zero, List.map_replicate, List.length_replicate, go_sem, ints, ic, mb20, pw20, fd20]
  intro ⟨i, out0⟩ ⟨hi, hl0, ho0, hv0, hz0⟩
  dsimp only at hi hl0 ho0 hv0 hz0
  by_cases hp : (i : Int) < a.length
  case neg =>
    have hd : decide ((i : Int) < a.length) = false := decide_eq_false hp
    rw [val_take_all (l := a) (i := i) (by omega)] at hv0
    have ht := t_ptrimO out0 ho0 (by omega)
    rw [hv0, hl0] at ht
    have hpad := pad_eq ho0
    rw [hl0, hv0] at hpad
    have hall : (out0.map ic).take (a.length + b.length) = out0.map ic := List.take_of_length_le (by rw [List.length_map]; omega)
    have hle : a.length + b.length ≤ out0.length := by omega
    simp only [hd, hle, hall, go_sem, ints, ic, mb20, pw20, fd20]
    refine CallP_m [(900, 17)] (ht) (by decide) (by simp) (by simp [rnm, look]) (by repeat' (first | exact trivial | refine ⟨rfl, ?_⟩)) rfl rfl rfl rfl ?_ rfl
    simp only [hpad, eq_self, go_sem, ints, ic, mb20, pw20, fd20]
  case pos =>
    have hd : decide ((i : Int) < a.length) = true := decide_eq_true hp
    have hx := get_nat hp
    have h1 := i64_ok (n := (i : Int) + 1) (by omega)
    simp only [hd, List.getElem?_map, hx, go_sem, ints, ic, mb20, pw20, fd20]
    refine LoopP_of [1, 5, 6, 7, 8, 18, 19, 20, 25, 26, 27] [17] (fun g : Nat × List Int × Int => ⟨[(1, .im (.sl (b.map ic))), (5, .gsl 17 3 1 (a.length + b.length)), (6, .im (.int i)), (7, .im (.int (dgt a i))), (8, .im (.int g.2.2)), (18, .im (.sl (a.map ic))), (19, .im (.int a.length)), (20, .im (.int i)), (25, .im (.sl (b.map ic))), (26, .im (.int b.length)), (27, .im (.int g.1))], [(17, 1, g.2.1.map ic)], []⟩)
      (fun g => g.1 ≤ b.length ∧ g.2.1.length = a.length + b.length ∧ OkD g.2.1 ∧ 0 ≤ g.2.2 ∧ g.2.2 < 1048576 ∧ val g.2.1 + 1048576 ^ (i + g.1) * g.2.2 = val (a.take i) * val b + 1048576 ^ i * (dgt a i * val (b.take g.1)) ∧ ∀ j, i + b.length ≤ j → dgt g.2.1 j = 0)
      (fun g => b.length - g.1) (0, out0, 0) ?_ ⟨Nat.zero_le _, hl0, ho0, Int.le_refl _, by dsimp only; omega, by dsimp only; rw [List.take_zero, hv0]; simp [val], hz0⟩ ?_
    · simp only [Int.natCast_zero, go_sem, ints, ic, mb20, pw20, fd20]
    intro ⟨k, out, c⟩ ⟨hk, hl, ho, hc0, hc1, hv, hz⟩
    dsimp only at hk hl ho hc0 hc1 hv hz
    by_cases hkl : (k : Int) < b.length
    case neg =>
      have d1 : decide ((k : Int) < b.length) = false := decide_eq_false hkl
      have hkb : k = b.length := by omega
      subst hkb
      rw [val_take_all (l := b) (Nat.le_refl _)] at hv
      obtain ⟨g1, g2, g3, g4⟩ := mul_last (a := a) (by omega) ho hz ⟨hc0, hc1⟩ hv
      have w1 := i64_ok (n := (i : Int) + b.length) (by omega)
      have hjn : ((i : Int) + b.length).toNat = i + b.length := by omega
      have hj0 : (0 : Int) ≤ (i : Int) + b.length := by omega
      have hjl : (i : Int) + b.length < ((a.length + b.length : Nat) : Int) := by omega
      have hy : out[i + b.length]? = some (dgt out (i + b.length)) := get_nat (by omega)
      rw [hz _ (Nat.le_refl _)] at hy
      have w2 := i64_ok (n := 0 + c) (by omega)
      rw [Int.zero_add] at w2
      simp only [d1, w1, hjn, hj0, hjl, List.getElem?_map, hy, w2, Int.zero_add, go_sem, ints, ic, mb20, pw20, fd20]
      refine RoundP_of (i + 1, out.set (i + b.length) c) ?_ ?_ ⟨?_, ?_, g1, g3, g4⟩
      · simp only [h1, Int.natCast_add, List.map_set, go_sem, ints, ic, mb20, pw20, fd20]
      · show a.length - (i + 1) < a.length - i; omega
      · show i + 1 ≤ a.length; omega
      · show (out.set (i + b.length) c).length = _; rw [g2]; exact hl
    case pos =>
      have d1 : decide ((k : Int) < b.length) = true := decide_eq_true hkl
      have hyb := get_nat hkl
      have hda := ha.dgt i
      have hdb := hb.dgt k
      have hdo := ho.dgt (i + k)
      have hmul := mul_lt_sq hda hdb
      have w1 := i64_ok (n := (i : Int) + k) (by omega)
      have w2 := i64_ok (n := dgt a i * dgt b k) (by omega)
      have w3 := i64_ok (n := dgt out (i + k) + dgt a i * dgt b k) (by omega)
      have w4 := i64_ok (n := dgt out (i + k) + dgt a i * dgt b k + c) (by omega)
      have w5 := i64_ok (n := (k : Int) + 1) (by omega)
      have hjn : ((i : Int) + k).toNat = i + k := by omega
      have hj0 : (0 : Int) ≤ (i : Int) + k := by omega
      have hjl : (i : Int) + k < ((a.length + b.length : Nat) : Int) := by omega
      have hy : out[i + k]? = some (dgt out (i + k)) := get_nat (by omega)
      have hs := times_step (out := out) (b := b) (j := i + k) (i := i) (k := k) (c := c) (x := dgt a i) (V := val (a.take i) * val b) rfl (by omega) hv rfl
      generalize hn : dgt out (i + k) + dgt a i * dgt b k + c = n at *
      have a1 := and20 n
      simp only [d1, List.getElem?_map, hyb, w1, w2, hjn, hj0, hjl, hy, w3, hn, w4, a1, go_sem, ints, ic, mb20, pw20, fd20]
      refine RoundP_of (k + 1, out.set (i + k) (n % 1048576), n / 1048576) ?_ ?_ ⟨?_, ?_, ho.set (by omega), ?_, ?_, hs, fun j hj => ?_⟩
      · simp only [w5, hn, w4, Int.natCast_add, List.map_set, go_sem, ints, ic, mb20, pw20, fd20]
      · show b.length - (k + 1) < b.length - k; omega
      · show k + 1 ≤ b.length; omega
      · show (out.set (i + k) _).length = _; rw [List.length_set]; exact hl
      · show 0 ≤ n / 1048576; omega
      · show n / 1048576 < 1048576; omega
      · have := hz j hj
        unfold dgt at this ⊢
        rw [List.getElem?_set_ne (by omega)]; exact this
end Go.Proofs.YtnjkhiafjcajaaaGreat

namespace Go.Proofs.YtnjkhiafjcajaaaGreat
set_option linter.all false
open Go.Abs

theorem lt_dgt {a b : List Int} (ha : OkD a) (hb : OkD b) {m : Nat} (h : ∀ j, m < j → dgt a j = dgt b j) (hne : dgt a m ≠ dgt b m) : decide (dgt a m < dgt b m) = decide (val a < val b) := by
  rcases Int.lt_or_gt_of_ne hne with h1 | h1
  · have := lt_at ha hb m h h1
    simp [h1, this]
  · have := lt_at hb ha m (fun j hj => (h j hj).symm) h1
    rw [decide_eq_false (by omega), decide_eq_false (by omega)]
set_option maxRecDepth 100000 in
set_option maxHeartbeats 1000000 in
theorem t_less (a b : List Int) (ha : OkD a) (hb : OkD b) (la : a.length ≤ 1000000) (lb : b.length ≤ 1000000) : Ctr G.P 154 [ints a, ints b] (· = .bool (decide (val a < val b))) := by
  have hmx : max (a.length : Int) (b.length : Int) = ((max a.length b.length : Nat) : Int) := by omega
  have hw := i64_ok (n := ((max a.length b.length : Nat) : Int) - 1) (by omega)
  refine ctr_go good _ _ [.tmp 4] Tryz.func154 rfl rfl (by decide +kernel) rfl ?_
  simp only [hmx, hw, go_sem, ints, ic]
  refine LoopP_of [0, 1, 5] [] (fun n : Nat => ⟨[(0, .im (.sl (a.map ic))), (1, .im (.sl (b.map ic))), (5, .im (.int ((n : Int) - 1)))], [], []⟩) (fun n => n ≤ max a.length b.length ∧ ∀ j, n ≤ j → dgt a j = dgt b j) (fun n => n) (max a.length b.length) ?_
    ⟨Nat.le_refl _, fun j hj => by rw [dgt_none (by omega), dgt_none (by omega)]⟩ ?_
  · simp only [hmx, hw, go_sem, ints, ic]
  · intro n ⟨hn, hz⟩
    rcases n with _ | m
    · have hd : decide ((0 : Int) ≤ ((0 : Nat) : Int) - 1) = false := by decide
      have hv : val a = val b := same_val fun j => hz j (Nat.zero_le _)
      have hv' : decide (val a < val b) = false := decide_eq_false (by omega)
      rw [hv']
      simp only [hd, go_sem, ints, ic]
    · have h2 : ((m + 1 : Nat) : Int) - 1 = m := by omega
      have hd : decide ((0 : Int) ≤ (m : Int)) = true := decide_eq_true (by omega)
      have h3 := i64_ok (n := (m : Int) - 1) (by omega)
      simp only [h2, hd, go_sem, ints, ic]
      refine CallP_eq (t_digit a m) (by decide) ?_
      simp only [h2, go_sem, ints, ic]
      refine CallP_eq (t_digit b m) (by decide) ?_
      simp only [h2, go_sem, ints, ic]
      refine Two_dec (fun he he' => ?_) (fun he he' => ?_)
      · simp only [h2, go_sem, ints, ic]
        refine RoundP_of m ?_ (by omega) ⟨by omega, fun j hj => ?_⟩
        · simp only [h2, h3, go_sem, ints, ic]
        · rcases Nat.lt_or_ge m j with h | h
          · exact hz j h
          · rw [show j = m by omega]; exact he'
      · have hlt := lt_dgt ha hb (m := m) (fun j hj => hz j hj) he'
        simp only [h2, go_sem, ints, ic]
        refine CallP_eq (t_digit a m) (by decide) ?_
        simp only [h2, go_sem, ints, ic]
        refine CallP_eq (t_digit b m) (by decide) ?_
        simp only [hlt, go_sem, ints, ic]
set_option maxRecDepth 100000 in
set_option maxHeartbeats 1000000 in
theorem t_minus (a b : List Int) (ha : OkD a) (hb : OkD b) (hab : val b ≤ val a) (la : a.length ≤ 100000) (lb : b.length ≤ 1000000) : Ctr G.P 155 [ints a, ints b] (· = ints (dig (val a - val b).toNat)) := by
  refine ctr_go good _ _ [.tmp 4] Tryz.func155 rfl rfl (by decide +kernel) rfl ?_
  simp only [go_sem, ints, ic]
  refine LoopP_ofP [0, 1, 5, 6, 7] [32] [(5, 32, 3, 1)] (fun g : Nat × List Int × Int => ⟨[(0, .im (.sl (a.map ic))), (1, .im (.sl (b.map ic))), (5, .vec 32 3 1 (g.2.1.map ic)), (6, .im (.int g.2.2)), (7, .im (.int g.1))], [], [(32, 1, g.2.1.length)]⟩)
    (fun g => g.2.1.length = g.1 ∧ OkD g.2.1 ∧ 0 ≤ g.2.2 ∧ g.2.2 ≤ 1 ∧ val g.2.1 - 1048576 ^ g.1 * g.2.2 = val (a.take g.1) - val (b.take g.1) ∧ g.1 ≤ a.length)
    (fun g => a.length - g.1) (0, [], 0) ?_ ?_ ⟨rfl, OkD.nil, Int.le_refl _, by decide, rfl, Nat.zero_le _⟩ ?_
  · simp only [go_sem, ints, ic]
    simp
  · simp only [Int.natCast_zero, List.map_nil, go_sem, ints, ic]
  · intro ⟨i, out, c⟩ ⟨h1, h2, h3, h4, h5, h6⟩
    dsimp only at h1 h2 h3 h4 h5 h6
    by_cases hp : (i : Int) < a.length
    · have hd : decide ((i : Int) < a.length) = true := decide_eq_true hp
      have hx := get_nat hp
      obtain ⟨a0, a1⟩ := ha.dgt i
      obtain ⟨b0, b1⟩ := hb.dgt i
      have w1 := i64_ok (n := dgt a i - dgt b i) (by omega)
      have w2 := i64_ok (n := dgt a i - dgt b i - c) (by omega)
      have w3 := i64_ok (n := (i : Int) + 1) (by omega)
      have w4 := i64_ok (n := dgt a i - dgt b i - c + 1048576) (by omega)
      simp only [hd, go_sem, ints, ic]
      refine DrawP_of 11 (by decide +kernel) ?_
      simp only [hd, List.getElem?_map, hx, go_sem, ints, ic]
      refine CallD_eq (t_digit b i) (by decide) ?_
      simp only [w1, w2, go_sem, ints, ic]
      refine Two_dec (fun he he' => ?_) (fun he he' => ?_)
      · have hs := minus_step (c' := 1) (d := dgt a i - dgt b i - c + 1048576) h1 h5 rfl (by omega)
        simp only [he, w4, go_sem, ints, ic]
        refine ⟨ic_len _, by simp, by omega, ?_⟩
        refine RoundP_of (i + 1, out ++ [dgt a i - dgt b i - c + 1048576], 1) ?_ ?_ ⟨?_, ?_, ?_, ?_, hs, ?_⟩
        · simp only [w3, Int.natCast_add, List.map_append, List.length_append, go_sem, ints, ic]
        · show a.length - (i + 1) < a.length - i; omega
        · show (out ++ [_]).length = i + 1; rw [List.length_append, h1]; rfl
        · exact h2.append (OkD.cons (by omega) OkD.nil)
        · dsimp only; omega
        · dsimp only; omega
        · show i + 1 ≤ a.length; omega
      · have hs := minus_step (c' := 0) (d := dgt a i - dgt b i - c) h1 h5 rfl (by omega)
        simp only [he, go_sem, ints, ic]
        refine ⟨ic_len _, by simp, by omega, ?_⟩
        refine RoundP_of (i + 1, out ++ [dgt a i - dgt b i - c], 0) ?_ ?_ ⟨?_, ?_, ?_, ?_, hs, ?_⟩
        · simp only [w3, Int.natCast_add, List.map_append, List.length_append, go_sem, ints, ic]
        · show a.length - (i + 1) < a.length - i; omega
        · show (out ++ [_]).length = i + 1; rw [List.length_append, h1]; rfl
        · exact h2.append (OkD.cons (by omega) OkD.nil)
        · dsimp only; omega
        · dsimp only; omega
        · show i + 1 ≤ a.length; omega
    · have hd : decide ((i : Int) < a.length) = false := decide_eq_false hp
      have hi : i = a.length := by omega
      have hv : val out = val a - val b := by
        have e1 := val_lt ha
        have e2 := val_lt h2
        have e3 := val_nonneg h2
        rw [h1] at e2
        rw [hi] at h5 e2
        rw [take_of_lt ha e1, take_of_lt hb (by omega)] at h5
        generalize (1048576 : Int) ^ a.length = p at *
        have hc : c = 0 ∨ c = 1 := by omega
        rcases hc with rfl | rfl <;> omega
      have ht := t_trim out h2 (by omega)
      rw [hv] at ht
      simp only [hd, go_sem, ints, ic]
      refine CallP_eq ht (by decide) ?_
      simp only [go_sem, ints, ic]
set_option maxHeartbeats 1000000 in
theorem t_made (s : Int) (l : List Int) (hl : OkD l) (ll : l.length ≤ 1000000) : Ctr G.P 151 [.int s, ints l] (· = .agg [.int (if val l = 0 then 0 else s), ints (dig (val l).toNat)]) := by
  have ht := t_trim l hl ll
  have h0 := val_nonneg hl
  by_cases hv : val l = 0
  · rw [hv] at ht
    rw [show dig (0 : Int).toNat = [] from dig_zero] at ht
    rw [if_pos hv, hv, show dig (0 : Int).toNat = [] from dig_zero]
    refine ctr_go good _ _ [.cell 4 55] Tryz.func151 rfl rfl (by decide +kernel) rfl ?_
    simp only [go_sem, ints, ic]
    refine CallP_eq ht (by decide) ?_
    simp only [go_sem, ints, ic]
  · rw [if_neg hv]
    have hn : dig (val l).toNat ≠ [] := fun h => by rw [dig_nil] at h; omega
    generalize dig (val l).toNat = d at *
    have hd : decide ((d.length : Int) = 0) = false := decide_eq_false (by
      have := List.length_pos_iff.2 hn; omega)
    refine ctr_go good _ _ [.cell 4 55] Tryz.func151 rfl rfl (by decide +kernel) rfl ?_
    simp only [go_sem, ints, ic]
    refine CallP_eq ht (by decide) ?_
    simp only [hd, go_sem, ints, ic]
end Go.Proofs.YtnjkhiafjcajaaaGreat
