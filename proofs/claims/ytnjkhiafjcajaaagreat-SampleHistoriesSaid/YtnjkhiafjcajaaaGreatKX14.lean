/- A part of the proof: what functions of the program do, and the layer under it. No further condition. -/
import Derived.Test.YtnjkhiafjcajaaaGreatKX13
namespace Go.Proofs.YtnjkhiafjcajaaaGreat
set_option linter.all false
open Go.Abs

set_option maxRecDepth 100000 in
set_option maxHeartbeats 2000000 in
theorem t_times (a b : List Int) (ha : OkD a) (hb : OkD b) (la : a.length ≤ 100000) (lb : b.length ≤ 100000) : Ctr G.P 152 [ints a, ints b] (· = ints (dig (val a * val b).toNat)) := by
  have hw := i64_ok (n := (a.length : Int) + b.length) (by omega)
  have ht : ((a.length : Int) + b.length).toNat = a.length + b.length := by omega
  have h0 : (0 : Int) ≤ (a.length : Int) + b.length := by omega
  have hb8 : ((a.length : Int) + b.length) * 8 ≤ 140737488355328 := by omega
  refine ctr_go good _ _ [.tmp 4] Tryz.func152 rfl rfl (by decide +kernel) rfl ?_
  simp only [hw, ht, h0, hb8, go_sem, ints, ic]
  refine LoopP_of [0, 1, 5, 6] [15] (fun g : Nat × List Int => ⟨[(0, .im (.sl (a.map ic))), (1, .im (.sl (b.map ic))), (5, .gsl 15 3 1 (a.length + b.length)), (6, .im (.int g.1))], [(15, 1, g.2.map ic)], []⟩)
    (fun g => g.1 ≤ a.length ∧ g.2.length = a.length + b.length ∧ OkD g.2 ∧ val g.2 = val (a.take g.1) * val b) (fun g => a.length - g.1) (0, List.replicate (a.length + b.length) 0) ?_
    ⟨Nat.zero_le _, List.length_replicate, OkD.replicate _, by dsimp only; rw [val_replicate]; simp [val]⟩ ?_
  · simp only [Int.natCast_zero, List.map_replicate, List.length_replicate, go_sem, ints, ic]
  · intro ⟨i, out0⟩ ⟨hi, hl0, ho0, hv0⟩
    dsimp only at hi hl0 ho0 hv0
    by_cases hp : (i : Int) < a.length
    · have hd : decide ((i : Int) < a.length) = true := decide_eq_true hp
      have hx := get_nat hp
      have h1 := i64_ok (n := (i : Int) + 1) (by omega)
      simp only [hd, go_sem, ints, ic]
      refine LoopP_of [0, 1, 5, 6, 7, 8] [15] (fun g : Nat × List Int × Int => ⟨[(0, .im (.sl (a.map ic))), (1, .im (.sl (b.map ic))), (5, .gsl 15 3 1 (a.length + b.length)), (6, .im (.int i)), (7, .im (.int g.2.2)), (8, .im (.int g.1))], [(15, 1, g.2.1.map ic)], []⟩)
        (fun g => g.1 ≤ b.length + 1 ∧ g.2.1.length = a.length + b.length ∧ OkD g.2.1 ∧ 0 ≤ g.2.2 ∧ g.2.2 < 1048576 ∧ (b.length < g.1 → g.2.2 = 0) ∧ val g.2.1 + 1048576 ^ (i + g.1) * g.2.2 = val (a.take i) * val b + 1048576 ^ i * (dgt a i * val (b.take g.1)))
        (fun g => b.length + 1 - g.1) (0, out0, 0) ?_ ⟨Nat.zero_le _, hl0, ho0, Int.le_refl _, by dsimp only; omega, fun _ => rfl, by dsimp only; rw [List.take_zero, hv0]; simp [val]⟩ ?_
      · simp only [Int.natCast_zero, go_sem, ints, ic]
      · intro ⟨k, out, c⟩ ⟨hk, hl, ho, hc0, hc1, hcl, hv⟩
        dsimp only at hk hl ho hc0 hc1 hcl hv
        have hda := ha.dgt i
        have hdb := hb.dgt k
        have hdo := ho.dgt (i + k)
        have hmul := mul_lt_sq hda hdb
        have w1 := i64_ok (n := (i : Int) + k) (by omega)
        have w2 := i64_ok (n := dgt a i * dgt b k) (by omega)
        have w3 := i64_ok (n := dgt out (i + k) + dgt a i * dgt b k) (by omega)
        have w4 := i64_ok (n := dgt out (i + k) + dgt a i * dgt b k + c) (by omega)
        have w5 := i64_ok (n := (k : Int) + 1) (by omega)
        have hjn : ((i : Int) + k).toNat = i + k := by omega
        have hj0 : (0 : Int) ≤ (i : Int) + k := by omega
        have hm : (dgt out (i + k) + dgt a i * dgt b k + c).tmod 1048576 = (dgt out (i + k) + dgt a i * dgt b k + c) % 1048576 := Int.tmod_eq_emod_of_nonneg (by omega)
        have hq : IntKind.i64.wrap ((dgt out (i + k) + dgt a i * dgt b k + c).tdiv 1048576) = (dgt out (i + k) + dgt a i * dgt b k + c) / 1048576 := by
          rw [Int.tdiv_eq_ediv_of_nonneg (by omega)]; exact i64_ok (by omega)
        have nxt : (k < b.length ∨ 0 < c) → k + 1 ≤ b.length + 1 ∧ (out.set (i + k) ((dgt out (i + k) + dgt a i * dgt b k + c) % 1048576)).length = a.length + b.length ∧ OkD (out.set (i + k) ((dgt out (i + k) + dgt a i * dgt b k + c) % 1048576)) ∧
            0 ≤ (dgt out (i + k) + dgt a i * dgt b k + c) / 1048576 ∧ (dgt out (i + k) + dgt a i * dgt b k + c) / 1048576 < 1048576 ∧ (b.length < k + 1 → (dgt out (i + k) + dgt a i * dgt b k + c) / 1048576 = 0) ∧
            val (out.set (i + k) ((dgt out (i + k) + dgt a i * dgt b k + c) % 1048576)) + 1048576 ^ (i + (k + 1)) * ((dgt out (i + k) + dgt a i * dgt b k + c) / 1048576) = val (a.take i) * val b + 1048576 ^ i * (dgt a i * val (b.take (k + 1))) := by
          intro hcc
          have hkb : k ≤ b.length := by
            rcases Nat.lt_or_ge b.length k with h | h
            · have := hcl h; omega
            · exact h
          have hs := times_step (out := out) (b := b) (j := i + k) (i := i) (k := k) (c := c) (x := dgt a i) (V := val (a.take i) * val b) rfl (by omega) hv rfl
          have hok : OkD (out.set (i + k) ((dgt out (i + k) + dgt a i * dgt b k + c) % 1048576)) := ho.set (by omega)
          refine ⟨by omega, by rw [List.length_set]; exact hl, hok, by omega, by omega, fun h => ?_, hs⟩
          have hkk : k = b.length := by omega
          have hs' := hs
          rw [val_take_all (l := b) (i := k + 1) (by omega)] at hs'
          exact times_last ha hb hda (val_nonneg hok) (by omega) (by rw [← hkk]; exact hs')
        by_cases hkl : (k : Int) < b.length
        · have hn : k < b.length ∨ 0 < c := .inl (by omega)
          have d1 : decide ((k : Int) < b.length) = true := decide_eq_true hkl
          have hjl : (i : Int) + k < ((a.length + b.length : Nat) : Int) := by omega
          have hy : out[i + k]? = some (dgt out (i + k)) := get_nat (by omega)
          simp only [d1, go_sem, ints, ic]
          refine DrawP_of 18 (by decide +kernel) ?_
          simp only [w1, List.getElem?_map, hx, hy, hjn, hj0, hjl, go_sem, ints, ic]
          refine CallD_eq (t_digit b k) (by decide) ?_
          simp only [w2, w3, w4, go_sem, ints, ic]
          simp only [w1, hjn, hj0, hjl, List.getElem?_map, hy, hm, hq, ← List.map_set, go_sem, ints, ic]
          refine RoundP_of (k + 1, out.set (i + k) ((dgt out (i + k) + dgt a i * dgt b k + c) % 1048576), (dgt out (i + k) + dgt a i * dgt b k + c) / 1048576) ?_ ?_ (nxt hn)
          · simp only [w5, Int.natCast_add, List.map_set, go_sem, ints, ic]
          · show b.length + 1 - (k + 1) < b.length + 1 - k; omega
        · have d1 : decide ((k : Int) < b.length) = false := decide_eq_false hkl
          by_cases hcp : 0 < c
          · have hn : k < b.length ∨ 0 < c := .inr hcp
            have d2 : decide (0 < c) = true := decide_eq_true hcp
            have hkb : k ≤ b.length := by
              rcases Nat.lt_or_ge b.length k with h | h
              · have := hcl h; omega
              · exact h
            have hjl : (i : Int) + k < ((a.length + b.length : Nat) : Int) := by omega
            have hy : out[i + k]? = some (dgt out (i + k)) := get_nat (by omega)
            simp only [d1, d2, go_sem, ints, ic]
            refine DrawP_of 18 (by decide +kernel) ?_
            simp only [w1, List.getElem?_map, hx, hy, hjn, hj0, hjl, go_sem, ints, ic]
            refine CallD_eq (t_digit b k) (by decide) ?_
            simp only [w2, w3, w4, go_sem, ints, ic]
            simp only [w1, hjn, hj0, hjl, List.getElem?_map, hy, hm, hq, ← List.map_set, go_sem, ints, ic]
            refine RoundP_of (k + 1, out.set (i + k) ((dgt out (i + k) + dgt a i * dgt b k + c) % 1048576), (dgt out (i + k) + dgt a i * dgt b k + c) / 1048576) ?_ ?_ (nxt hn)
            · simp only [w5, Int.natCast_add, List.map_set, go_sem, ints, ic]
            · show b.length + 1 - (k + 1) < b.length + 1 - k; omega
          · have d2 : decide (0 < c) = false := decide_eq_false hcp
            have hc : c = 0 := by omega
            have hvv : val out = val (a.take (i + 1)) * val b := by
              rw [hc, Int.mul_zero, Int.add_zero, val_take_all (l := b) (i := k) (by omega)] at hv
              rw [hv, val_take_succ, Int.add_mul, Int.mul_assoc]
            simp only [d1, d2, go_sem, ints, ic]
            refine RoundP_of (i + 1, out) ?_ ?_ ⟨?_, hl, ho, hvv⟩
            · simp only [h1, Int.natCast_add, go_sem, ints, ic]
            · show a.length - (i + 1) < a.length - i; omega
            · show i + 1 ≤ a.length; omega
    · have hd : decide ((i : Int) < a.length) = false := decide_eq_false hp
      rw [val_take_all (l := a) (i := i) (by omega)] at hv0
      have ht := t_trim out0 ho0 (by omega)
      rw [hv0] at ht
      have hall : (out0.map ic).take (a.length + b.length) = out0.map ic := List.take_of_length_le (by rw [List.length_map]; omega)
      have hle : a.length + b.length ≤ (out0.map ic).length := by rw [List.length_map]; omega
      simp only [hd, hl0, Nat.le_refl, hall, go_sem, ints, ic]
      refine CallP_eq ht (by decide) ?_
      simp only [go_sem, ints, ic]
end Go.Proofs.YtnjkhiafjcajaaaGreat

namespace Go.Proofs.YtnjkhiafjcajaaaGreat
set_option linter.all false
open Go.Abs

def okd (d : Int) : Bool := !decide (d < 0) && !decide (1048576 ≤ d)
def rightF (s : Int) (l : List Int) : Bool :=
  l.all okd && (!decide (s < -1) && (!decide (1 < s) && ((decide ((l.length : Int) = 0) == decide (s = 0)) && (decide ((l.length : Int) = 0) || !decide (dgt l (l.length - 1) = 0)))))
theorem okd_iff {d : Int} : okd d = true ↔ 0 ≤ d ∧ d < 1048576 := by simp [okd]
theorem all_okd {l : List Int} : l.all okd = true ↔ OkD l := by
  rw [List.all_eq_true]
  exact ⟨fun h d hd => okd_iff.1 (h d hd), fun h d hd => okd_iff.2 (h d hd)⟩
theorem all_okd_succ {l : List Int} {i : Nat} (h : (i : Int) < l.length) : (l.take (i + 1)).all okd = ((l.take i).all okd && okd (dgt l i)) := by
  have hx := get_nat h
  rw [List.take_add_one, hx, List.all_append]; simp
set_option maxRecDepth 100000 in
set_option maxHeartbeats 1000000 in
theorem t_right (s : Int) (l : List Int) (hl : l.length ≤ 1000000000) : Ctr G.P 149 [.agg [.int s, ints l]] (· = .bool (rightF s l)) := by
  refine ctr_go good _ _ [.tmp 2] Tryz.func149 rfl rfl (by decide +kernel) rfl ?_
  simp only [go_sem, ints, ic]
  refine LoopP_of [1, 3] [1] (fun i : Nat => ⟨[(1, .loc 1 2 0 0), (3, .im (.int i))], [(1, 2, [[.int s, ints l]])], []⟩) (fun i => i ≤ l.length ∧ (l.take i).all okd = true) (fun i => l.length - i) 0 ?_ ⟨Nat.zero_le _, rfl⟩ ?_
  · simp only [Int.natCast_zero, go_sem, ints, ic]
  · intro i ⟨hi, ha⟩
    by_cases hp : (i : Int) < l.length
    · have hd : decide ((i : Int) < l.length) = true := decide_eq_true hp
      have hx := get_nat hp
      have h1 := i64_ok (n := (i : Int) + 1) (by omega)
      have hs := all_okd_succ hp
      have hno : okd (dgt l i) = false → rightF s l = false := fun h => by
        have : l.all okd = false := by
          rw [List.all_eq_false]; exact ⟨_, List.mem_of_getElem? hx, by simp [h]⟩
        simp [rightF, this]
      simp only [hd, List.getElem?_map, hx, go_sem, ints, ic]
      refine Two_of (fun d1 => ?_) (fun d1 => ?_)
      · rw [hno (by simp [okd, d1])]
        simp only [d1, go_sem, ints, ic]
      · simp only [d1, List.getElem?_map, hx, go_sem, ints, ic]
        refine Two_of (fun d2 => ?_) (fun d2 => ?_)
        · rw [hno (by simp only [okd, d1, d2]; rfl)]
          simp only [go_sem, ints, ic]
        · simp only [go_sem, ints, ic]
          refine RoundP_of (i + 1) ?_ (by omega) ⟨by omega, by rw [hs, ha]; simp only [okd, d1, d2]; rfl⟩
          simp only [h1, Int.natCast_add, go_sem, ints, ic]
    · have hd : decide ((i : Int) < l.length) = false := decide_eq_false hp
      rw [List.take_of_length_le (by omega)] at ha
      rw [rightF, ha, Bool.true_and]
      simp only [hd, go_sem, ints, ic]
      clear hd hp hi
      refine Two_of (fun d1 => ?_) (fun d1 => ?_)
      · simp only [d1, go_sem, ints, ic]
      · simp only [d1, go_sem, ints, ic]
        refine Two_of (fun d2 => ?_) (fun d2 => ?_)
        · simp only [d1, d2, go_sem, ints, ic]
        · by_cases h0 : l = []
          · subst h0
            simp only [d1, d2, Bool.true_beq, Int.natCast_zero, go_sem, ints, ic]
            refine Two_of (fun d3 => ?_) (fun d3 => ?_)
            · simp only [d1, d2, d3, Bool.true_beq, go_sem, ints, ic]
            · simp only [d1, d2, d3, Bool.true_beq, go_sem, ints, ic]
          · have hpos := List.length_pos_iff.2 h0
            have hz : decide ((l.length : Int) = 0) = false := decide_eq_false (by omega)
            have hlast : l[l.length - 1]? = some (dgt l (l.length - 1)) := get_nat (by omega)
            have hw := i64_ok (n := (l.length : Int) - 1) (by omega)
            have hn : ((l.length : Int) - 1).toNat = l.length - 1 := by omega
            have hn0 : (0 : Int) ≤ (l.length : Int) - 1 := by omega
            have hn1 : (l.length : Int) - 1 < l.length := by omega
            rw [hz]
            simp only [d1, d2, hz, Bool.false_beq, go_sem, ints, ic]
            refine Two_of (fun d3 => ?_) (fun d3 => ?_)
            · simp only [d1, d2, d3, hz, Bool.false_beq, go_sem, ints, ic]
            · simp only [d1, d2, d3, hz, hw, hn, hn0, hn1, List.getElem?_map, hlast, Bool.false_beq, go_sem, ints, ic]
end Go.Proofs.YtnjkhiafjcajaaaGreat

namespace Go.Proofs.YtnjkhiafjcajaaaGreat
set_option linter.all false
open Go.Abs

def big (z : Int) : IV := .agg [.int z.sign, ints (dig z.natAbs)]
theorem right_big (z : Int) : rightF z.sign (dig z.natAbs) = true := by
  have h1 : (dig z.natAbs).all okd = true := all_okd.2 (dig_ok _)
  have hs : -1 ≤ z.sign ∧ z.sign ≤ 1 := by
    rcases Int.lt_trichotomy z 0 with h | h | h
    · rw [Int.sign_eq_neg_one_of_neg h]; omega
    · subst h; decide
    · rw [Int.sign_eq_one_of_pos h]; omega
  have hz : (dig z.natAbs = []) ↔ z.sign = 0 := by
    rw [dig_nil, Int.sign_eq_zero_iff_zero]; omega
  simp only [rightF, h1, Bool.true_and, Bool.and_eq_true, Bool.not_eq_true', decide_eq_false_iff_not, beq_iff_eq, Bool.or_eq_true, decide_eq_true_eq]
  refine ⟨by omega, by omega, ?_, ?_⟩
  · rw [decide_eq_decide, ← hz]
    constructor
    · intro h; exact List.length_eq_zero_iff.1 (by omega)
    · intro h; rw [h]; rfl
  · by_cases h : dig z.natAbs = []
    · left; rw [h]; rfl
    · right
      intro h2
      have h3 := last_dig z.natAbs
      rw [List.getLast?_eq_getElem?] at h3
      have h4 := List.length_pos_iff.2 h
      have h5 := get_nat (l := dig z.natAbs) (i := (dig z.natAbs).length - 1) (by omega)
      rw [h5, h2] at h3
      exact h3 rfl
theorem sign_le (z : Int) : -1 ≤ z.sign ∧ z.sign ≤ 1 := by
  rcases Int.lt_trichotomy z 0 with h | h | h
  · rw [Int.sign_eq_neg_one_of_neg h]; omega
  · subst h; decide
  · rw [Int.sign_eq_one_of_pos h]; omega
theorem t_rightb (z : Int) (h : (dig z.natAbs).length ≤ 1000000) : Ctr G.P 149 [big z] (· = .bool true) := by
  have := t_right z.sign (dig z.natAbs) (by omega)
  rw [right_big] at this
  exact this
theorem t_madeb (s z : Int) (n : Nat) (hn : n = z.natAbs) (hs : z ≠ 0 → s = z.sign) (h : (dig z.natAbs).length ≤ 1000000) : Ctr G.P 151 [.int s, ints (dig n)] (· = big z) := by
  subst hn
  have := t_made s (dig z.natAbs) (dig_ok _) h
  rw [val_dig] at this
  have e : (if (z.natAbs : Int) = 0 then 0 else s) = z.sign := by
    by_cases hz : z = 0
    · subst hz; rfl
    · rw [if_neg (by omega), hs hz]
  rw [e, Int.toNat_natCast] at this
  exact this
theorem len_mul {a b : Nat} {k m : Nat} (ha : (dig a).length ≤ k) (hb : (dig b).length ≤ m) : (dig (a * b)).length ≤ k + m := by
  refine dig_len_le ?_
  have h1 : (a : Int) < 1048576 ^ k := by
    have := val_lt (dig_ok a); rw [val_dig] at this
    exact Int.lt_of_lt_of_le this (by
      have h3 := Int.ofNat_le.2 (Nat.pow_le_pow_right (n := 1048576) (by omega) ha)
      rw [Int.natCast_pow, Int.natCast_pow] at h3; exact h3)
  have h2 : (b : Int) < 1048576 ^ m := by
    have := val_lt (dig_ok b); rw [val_dig] at this
    exact Int.lt_of_lt_of_le this (by
      have h3 := Int.ofNat_le.2 (Nat.pow_le_pow_right (n := 1048576) (by omega) hb)
      rw [Int.natCast_pow, Int.natCast_pow] at h3; exact h3)
  have g1 : a < 1048576 ^ k := Int.ofNat_lt.1 (by rw [Int.natCast_pow]; exact h1)
  have g2 : b < 1048576 ^ m := Int.ofNat_lt.1 (by rw [Int.natCast_pow]; exact h2)
  have g3 := Int.ofNat_lt.2 (Nat.mul_lt_mul'' g1 g2)
  rw [← Nat.pow_add, Int.natCast_pow] at g3
  exact g3
set_option maxRecDepth 100000 in
theorem t_mul (a b : Int) (la : (dig a.natAbs).length ≤ 100000) (lb : (dig b.natAbs).length ≤ 100000) : Ctr G.P 106 [big a, big b] (· = .tup [big (a * b), .int 0]) := by
  have ra := t_rightb a (by omega)
  have rb := t_rightb b (by omega)
  have ht := t_times (dig a.natAbs) (dig b.natAbs) (dig_ok _) (dig_ok _) la lb
  rw [val_dig, val_dig, ← Int.natCast_mul, Int.toNat_natCast] at ht
  have hl : (dig (a * b).natAbs).length ≤ 1000000 := by
    rw [Int.natAbs_mul]; have := len_mul la lb; omega
  have hm := t_madeb (a.sign * b.sign) (a * b) (a.natAbs * b.natAbs) (by rw [Int.natAbs_mul]) (fun _ => (Int.sign_mul a b).symm) hl
  have w := i64_ok (n := a.sign * b.sign) (by rw [← Int.sign_mul]; have := sign_le (a * b); omega)
  refine ctr_go good _ _ [.cell 4 55, .tmp 5] Tryz.func106 rfl rfl (by decide +kernel) rfl ?_
  simp only [go_sem, ints, ic, big]
  refine CallP_eq ra (by decide) ?_
  simp only [go_sem, ints, ic, big]
  refine CallP_eq rb (by decide) ?_
  simp only [go_sem, ints, ic, big]
  refine DrawS_of (by decide +kernel) ?_
  simp only [w, go_sem, ints, ic, big]
  refine CallD_eq ht (by decide) ?_
  simp only [go_sem, ints, ic, big]
  refine CallD_eq hm (by decide) ?_
  simp only [go_sem, ints, ic, big]
theorem t_neg (z : Int) (h : (dig z.natAbs).length ≤ 1000000) : Ctr G.P 156 [big z] (· = big (-z)) := by
  have rz := t_rightb z h
  have hm := t_madeb (0 - z.sign) (-z) z.natAbs (by rw [Int.natAbs_neg]) (fun _ => by rw [Int.sign_neg]; omega) (by rw [Int.natAbs_neg]; exact h)
  have w := i64_ok (n := 0 - z.sign) (by have := sign_le z; omega)
  refine ctr_go good _ _ [.cell 2 55] Tryz.func156 rfl rfl (by decide +kernel) rfl ?_
  simp only [go_sem, ints, ic, big]
  refine CallP_eq rz (by decide) ?_
  simp only [w, go_sem, ints, ic, big]
  refine CallP_eq hm (by decide) ?_
  simp only [go_sem, ints, ic, big]
end Go.Proofs.YtnjkhiafjcajaaaGreat

namespace Go.Proofs.YtnjkhiafjcajaaaGreat
set_option linter.all false
open Go.Abs

theorem take_same {l m : List Int} {i : Nat} (h : l.take i = m.take i) (hl : (i : Int) < l.length) (hm : (i : Int) < m.length) (hd : dgt l i = dgt m i) : l.take (i + 1) = m.take (i + 1) := by
  rw [List.take_add_one, List.take_add_one, h, get_nat hl, get_nat hm, hd]
theorem ne_of_dgt {l m : List Int} {i : Nat} (h : dgt l i ≠ dgt m i) : l ≠ m := fun e => h (by rw [e])
set_option maxRecDepth 100000 in
theorem t_same (s t : Int) (l m : List Int) (hl : l.length ≤ 1000000000) : Ctr G.P 158 [.agg [.int s, ints l], .agg [.int t, ints m]] (· = .bool (decide (s = t) && decide (l = m))) := by
  by_cases h1 : s = t
  · by_cases h2 : (l.length : Int) = m.length
    · have d1 : decide (s = t) = true := decide_eq_true h1
      have d2 : decide ((l.length : Int) = m.length) = true := decide_eq_true h2
      rw [d1, Bool.true_and]
      refine ctr_go good _ _ [.tmp 4] Tryz.func158 rfl rfl (by decide +kernel) rfl ?_
      simp only [d1, d2, go_sem, ints, ic, big]
      refine LoopP_of [2, 3, 5] [2, 3] (fun i : Nat => ⟨[(2, .loc 2 2 0 0), (3, .loc 3 2 0 0), (5, .im (.int i))], [(3, 2, [[.int t, ints m]]), (2, 2, [[.int s, ints l]])], []⟩) (fun i => i ≤ l.length ∧ l.take i = m.take i) (fun i => l.length - i) 0 ?_ ⟨Nat.zero_le _, rfl⟩ ?_
      · simp only [Int.natCast_zero, go_sem, ints, ic, big]
      · intro i ⟨hi, ha⟩
        by_cases hp : (i : Int) < l.length
        · have hp' : (i : Int) < m.length := by omega
          have hd : decide ((i : Int) < l.length) = true := decide_eq_true hp
          have hx := get_nat hp
          have hy := get_nat hp'
          have hw := i64_ok (n := (i : Int) + 1) (by omega)
          simp only [hd, go_sem, ints, ic, big]
          refine DrawP_of 11 (by decide +kernel) ?_
          simp only [hd, List.getElem?_map, hx, hy, go_sem, ints, ic, big]
          refine Two_dec (fun he he' => ?_) (fun he he' => ?_)
          · simp only [go_sem, ints, ic, big]
            refine RoundP_of (i + 1) ?_ (by omega) ⟨by omega, take_same ha hp hp' he'⟩
            simp only [hw, Int.natCast_add, go_sem, ints, ic, big]
          · have hf : decide (l = m) = false := decide_eq_false (ne_of_dgt he')
            rw [hf]
            simp only [go_sem, ints, ic, big]
        · have hd : decide ((i : Int) < l.length) = false := decide_eq_false hp
          have hf : decide (l = m) = true := decide_eq_true (by
            rw [List.take_of_length_le (by omega), List.take_of_length_le (by omega)] at ha; exact ha)
          rw [hf]
          simp only [hd, go_sem, ints, ic, big]
    · have d1 : decide (s = t) = true := decide_eq_true h1
      have d2 : decide ((l.length : Int) = m.length) = false := decide_eq_false h2
      have d3 : decide (l = m) = false := decide_eq_false fun e => h2 (by rw [e])
      rw [d3, Bool.and_false]
      refine ctr_go good _ _ [.tmp 4] Tryz.func158 rfl rfl (by decide +kernel) rfl ?_
      simp only [d1, d2, go_sem, ints, ic, big]
  · have d1 : decide (s = t) = false := decide_eq_false h1
    rw [d1, Bool.false_and]
    refine ctr_go good _ _ [.tmp 4] Tryz.func158 rfl rfl (by decide +kernel) rfl ?_
    simp only [d1, go_sem, ints, ic, big]
theorem dig_inj {a b : Nat} (h : dig a = dig b) : a = b := by
  have h1 := val_dig a
  rw [h, val_dig] at h1
  omega
theorem big_inj {a b : Int} : (decide (a.sign = b.sign) && decide (dig a.natAbs = dig b.natAbs)) = decide (a = b) := by
  rw [Bool.eq_iff_iff]
  simp only [Bool.and_eq_true, decide_eq_true_eq]
  constructor
  · intro ⟨h1, h2⟩
    have h3 := dig_inj h2
    have h4 := Int.sign_mul_natAbs a
    have h5 := Int.sign_mul_natAbs b
    rw [← h4, ← h5, h1, h3]
  · intro h; subst h; exact ⟨rfl, rfl⟩
def cmpI (a b : Int) : Int := if a < b then -1 else if a = b then 0 else 1
theorem sign_lt {a b : Int} (h : a.sign < b.sign) : a < b := by
  rcases Int.lt_trichotomy a 0 with h1 | h1 | h1 <;> rcases Int.lt_trichotomy b 0 with h2 | h2 | h2 <;>
    simp [Int.sign_eq_neg_one_of_neg, Int.sign_eq_one_of_pos, *] at h <;> omega
theorem less_sign {a b : Int} (hs : a.sign = b.sign) (hne : a ≠ b) : (decide ((a.natAbs : Int) < b.natAbs) == decide (0 < a.sign)) = decide (a < b) := by
  rcases Int.lt_trichotomy a 0 with h1 | h1 | h1
  · have e := Int.sign_eq_neg_one_of_neg h1
    have h2 : b < 0 := by
      rcases Int.lt_trichotomy b 0 with h2 | h2 | h2
      · exact h2
      · subst h2; rw [e] at hs; cases hs
      · rw [e, Int.sign_eq_one_of_pos h2] at hs; omega
    rw [e, Bool.eq_iff_iff]
    simp
    omega
  · subst h1
    have : b = 0 := Int.sign_eq_zero_iff_zero.1 hs.symm
    exact absurd this.symm hne
  · have e := Int.sign_eq_one_of_pos h1
    have h2 : 0 < b := by
      rcases Int.lt_trichotomy b 0 with h2 | h2 | h2
      · rw [e, Int.sign_eq_neg_one_of_neg h2] at hs; omega
      · subst h2; rw [e] at hs; cases hs
      · exact h2
    rw [e, Bool.eq_iff_iff]
    simp
    omega
set_option maxRecDepth 100000 in
theorem t_compare (a b : Int) (la : (dig a.natAbs).length ≤ 1000000) (lb : (dig b.natAbs).length ≤ 1000000) : Ctr G.P 109 [big a, big b] (· = .int (cmpI a b)) := by
  have ra := t_rightb a (by omega)
  have rb := t_rightb b (by omega)
  have hs := t_same a.sign b.sign (dig a.natAbs) (dig b.natAbs) (by omega)
  rw [big_inj] at hs
  have hl := t_less (dig a.natAbs) (dig b.natAbs) (dig_ok _) (dig_ok _) la lb
  rw [val_dig, val_dig] at hl
  by_cases hab : a = b
  · have d : decide (a = b) = true := decide_eq_true hab
    rw [d] at hs
    have hc : cmpI a b = 0 := by rw [cmpI, if_neg (by omega), if_pos hab]
    rw [hc]
    refine ctr_go good _ _ [.tmp 4] Tryz.func109 rfl rfl (by decide +kernel) rfl ?_
    simp only [go_sem, ints, ic, big]
    refine CallP_eq ra (by decide) ?_
    simp only [go_sem, ints, ic, big]
    refine CallP_eq rb (by decide) ?_
    simp only [go_sem, ints, ic, big]
    refine CallP_eq hs (by decide) ?_
    simp only [go_sem, ints, ic, big]
  · have d : decide (a = b) = false := decide_eq_false hab
    rw [d] at hs
    have hc : cmpI a b = if a < b then -1 else 1 := by rw [cmpI, if_neg hab]
    rw [hc]
    by_cases hsg : a.sign = b.sign
    · have d1 : decide (a.sign = b.sign) = true := decide_eq_true hsg
      have hls := less_sign hsg hab
      refine ctr_go good _ _ [.tmp 4] Tryz.func109 rfl rfl (by decide +kernel) rfl ?_
      simp only [go_sem, ints, ic, big]
      refine CallP_eq ra (by decide) ?_
      simp only [go_sem, ints, ic, big]
      refine CallP_eq rb (by decide) ?_
      simp only [go_sem, ints, ic, big]
      refine CallP_eq hs (by decide) ?_
      simp only [d1, go_sem, ints, ic, big]
      refine DrawP_of 9 (by decide +kernel) ?_
      simp only [go_sem, ints, ic, big]
      refine CallD_eq hl (by decide) ?_
      simp only [hls, go_sem, ints, ic, big]
      refine Two_dec (fun he he' => ?_) (fun he he' => ?_)
      · simp only [he', go_sem, ints, ic, big]
      · simp only [he', go_sem, ints, ic, big]
    · have d1 : decide (a.sign = b.sign) = false := decide_eq_false hsg
      by_cases hlt : a.sign < b.sign
      · have d2 : decide (a.sign < b.sign) = true := decide_eq_true hlt
        rw [if_pos (sign_lt hlt)]
        refine ctr_go good _ _ [.tmp 4] Tryz.func109 rfl rfl (by decide +kernel) rfl ?_
        simp only [go_sem, ints, ic, big]
        refine CallP_eq ra (by decide) ?_
        simp only [go_sem, ints, ic, big]
        refine CallP_eq rb (by decide) ?_
        simp only [go_sem, ints, ic, big]
        refine CallP_eq hs (by decide) ?_
        simp only [d1, d2, go_sem, ints, ic, big]
      · have d2 : decide (a.sign < b.sign) = false := decide_eq_false hlt
        rw [if_neg (by have := sign_lt (a := b) (b := a) (by omega); omega)]
        refine ctr_go good _ _ [.tmp 4] Tryz.func109 rfl rfl (by decide +kernel) rfl ?_
        simp only [go_sem, ints, ic, big]
        refine CallP_eq ra (by decide) ?_
        simp only [go_sem, ints, ic, big]
        refine CallP_eq rb (by decide) ?_
        simp only [go_sem, ints, ic, big]
        refine CallP_eq hs (by decide) ?_
        simp only [d1, d2, go_sem, ints, ic, big]
end Go.Proofs.YtnjkhiafjcajaaaGreat

namespace Go.Proofs.YtnjkhiafjcajaaaGreat
set_option linter.all false
open Go.Abs

theorem or_sign {a b : Int} (h : a = 0 ∨ b = 0 ∨ a.sign = b.sign) : bits .or .i64 a.sign b.sign = (a + b).sign ∧ a.natAbs + b.natAbs = (a + b).natAbs := by
  rcases Int.lt_trichotomy a 0 with h1 | h1 | h1 <;> rcases Int.lt_trichotomy b 0 with h2 | h2 | h2
  · rw [Int.sign_eq_neg_one_of_neg h1, Int.sign_eq_neg_one_of_neg h2, Int.sign_eq_neg_one_of_neg (by omega)]
    exact ⟨by decide +kernel, by omega⟩
  · subst h2; rw [Int.sign_eq_neg_one_of_neg h1, Int.add_zero, Int.sign_eq_neg_one_of_neg h1]
    exact ⟨by decide +kernel, by omega⟩
  · rw [Int.sign_eq_neg_one_of_neg h1, Int.sign_eq_one_of_pos h2] at h; omega
  · subst h1; rw [Int.zero_add, Int.sign_eq_neg_one_of_neg h2]
    exact ⟨by decide +kernel, by omega⟩
  · subst h1; subst h2; exact ⟨by decide +kernel, rfl⟩
  · subst h1; rw [Int.zero_add, Int.sign_eq_one_of_pos h2]
    exact ⟨by decide +kernel, by omega⟩
  · rw [Int.sign_eq_one_of_pos h1, Int.sign_eq_neg_one_of_neg h2] at h; omega
  · subst h2; rw [Int.sign_eq_one_of_pos h1, Int.add_zero, Int.sign_eq_one_of_pos h1]
    exact ⟨by decide +kernel, by omega⟩
  · rw [Int.sign_eq_one_of_pos h1, Int.sign_eq_one_of_pos h2, Int.sign_eq_one_of_pos (by omega)]
    exact ⟨by decide +kernel, by omega⟩
theorem opp_sign {a b : Int} (h1 : ¬ a.sign = 0) (h2 : ¬ b.sign = 0) (h3 : ¬ a.sign = b.sign) :
    ((a.natAbs : Int) < b.natAbs → b.natAbs - a.natAbs = (a + b).natAbs ∧ b.sign = (a + b).sign) ∧ (¬ (a.natAbs : Int) < b.natAbs → a.natAbs - b.natAbs = (a + b).natAbs ∧ (a + b ≠ 0 → a.sign = (a + b).sign)) := by
  rcases Int.lt_trichotomy a 0 with g1 | g1 | g1
  · rcases Int.lt_trichotomy b 0 with g2 | g2 | g2
    · rw [Int.sign_eq_neg_one_of_neg g1, Int.sign_eq_neg_one_of_neg g2] at h3; exact absurd rfl h3
    · subst g2; exact absurd rfl h2
    · refine ⟨fun h => ⟨by omega, ?_⟩, fun h => ⟨by omega, fun h0 => ?_⟩⟩
      · rw [Int.sign_eq_one_of_pos g2, Int.sign_eq_one_of_pos (by omega)]
      · rw [Int.sign_eq_neg_one_of_neg g1, Int.sign_eq_neg_one_of_neg (by omega)]
  · subst g1; exact absurd rfl h1
  · rcases Int.lt_trichotomy b 0 with g2 | g2 | g2
    · refine ⟨fun h => ⟨by omega, ?_⟩, fun h => ⟨by omega, fun h0 => ?_⟩⟩
      · rw [Int.sign_eq_neg_one_of_neg g2, Int.sign_eq_neg_one_of_neg (by omega)]
      · rw [Int.sign_eq_one_of_pos g1, Int.sign_eq_one_of_pos (by omega)]
    · subst g2; exact absurd rfl h2
    · rw [Int.sign_eq_one_of_pos g1, Int.sign_eq_one_of_pos g2] at h3; exact absurd rfl h3
theorem val_lt_pow {n k : Nat} (h : (dig n).length ≤ k) : (n : Int) < 1048576 ^ k := by
  have := val_lt (dig_ok n); rw [val_dig] at this
  exact Int.lt_of_lt_of_le this (by
    have h3 := Int.ofNat_le.2 (Nat.pow_le_pow_right (n := 1048576) (by omega) h)
    rw [Int.natCast_pow, Int.natCast_pow] at h3; exact h3)
theorem len_add {n a b k : Nat} (ha : (dig a).length ≤ k) (hb : (dig b).length ≤ k) (h : n ≤ a + b) : (dig n).length ≤ k + 1 := by
  refine dig_len_le ?_
  have h1 := val_lt_pow ha
  have h2 := val_lt_pow hb
  rw [pow_step]
  omega
set_option maxRecDepth 100000 in
set_option maxHeartbeats 1000000 in
theorem t_add (a b : Int) (la : (dig a.natAbs).length ≤ 90000) (lb : (dig b.natAbs).length ≤ 90000) : Ctr G.P 107 [big a, big b] (· = .tup [big (a + b), .int 0]) := by
  have ra := t_rightb a (by omega)
  have rb := t_rightb b (by omega)
  have hll : (dig (a + b).natAbs).length ≤ 1000000 := by
    have := len_add (n := (a + b).natAbs) (k := 90000) la lb (by omega); omega
  by_cases hc : a = 0 ∨ b = 0 ∨ a.sign = b.sign
  · obtain ⟨hb1, hn⟩ := or_sign hc
    have hp := t_plus (dig a.natAbs) (dig b.natAbs) (dig_ok _) (dig_ok _) (by omega) (by omega)
    rw [val_dig, val_dig, ← Int.natCast_add, Int.toNat_natCast, hn] at hp
    have hm := t_madeb (a + b).sign (a + b) (a + b).natAbs rfl (fun _ => rfl) hll
    have hc : a.sign = 0 ∨ b.sign = 0 ∨ a.sign = b.sign := by
      rcases hc with h | h | h
      · exact .inl (Int.sign_eq_zero_iff_zero.2 h)
      · exact .inr (.inl (Int.sign_eq_zero_iff_zero.2 h))
      · exact .inr (.inr h)
    refine ctr_go good _ _ [.cell 4 55, .tmp 5] Tryz.func107 rfl rfl (by decide +kernel) rfl ?_
    simp only [go_sem, ints, ic, big]
    refine CallP_eq ra (by decide) ?_
    simp only [go_sem, ints, ic, big]
    refine CallP_eq rb (by decide) ?_
    simp only [go_sem, ints, ic, big]
    refine Two_dec (fun d1 d1' => ?_) (fun d1 d1' => ?_)
    · simp only [d1, go_sem, ints, ic, big]
      refine DrawS_of (by decide +kernel) ?_
      simp only [hb1, go_sem, ints, ic, big]
      refine CallD_eq hp (by decide) ?_
      simp only [go_sem, ints, ic, big]
      refine CallD_eq hm (by decide) ?_
      simp only [go_sem, ints, ic, big]
    · simp only [d1, go_sem, ints, ic, big]
      refine Two_dec (fun d2 d2' => ?_) (fun d2 d2' => ?_)
      · simp only [d1, d2, go_sem, ints, ic, big]
        refine DrawS_of (by decide +kernel) ?_
        simp only [hb1, go_sem, ints, ic, big]
        refine CallD_eq hp (by decide) ?_
        simp only [go_sem, ints, ic, big]
        refine CallD_eq hm (by decide) ?_
        simp only [go_sem, ints, ic, big]
      · have d3 : decide (a.sign = b.sign) = true := decide_eq_true (by
          rcases hc with h | h | h
          · exact absurd h d1'
          · exact absurd h d2'
          · exact h)
        simp only [d1, d2, d3, go_sem, ints, ic, big]
        refine DrawS_of (by decide +kernel) ?_
        simp only [hb1, go_sem, ints, ic, big]
        refine CallD_eq hp (by decide) ?_
        simp only [go_sem, ints, ic, big]
        refine CallD_eq hm (by decide) ?_
        simp only [go_sem, ints, ic, big]
  · simp only [not_or] at hc
    obtain ⟨c1, c2, c3⟩ := hc
    have e1 : ¬ a.sign = 0 := fun h => c1 (Int.sign_eq_zero_iff_zero.1 h)
    have e2 : ¬ b.sign = 0 := fun h => c2 (Int.sign_eq_zero_iff_zero.1 h)
    have d1 : decide (a.sign = 0) = false := decide_eq_false e1
    have d2 : decide (b.sign = 0) = false := decide_eq_false e2
    have d3 : decide (a.sign = b.sign) = false := decide_eq_false c3
    obtain ⟨o1, o2⟩ := opp_sign e1 e2 c3
    have hl := t_less (dig a.natAbs) (dig b.natAbs) (dig_ok _) (dig_ok _) (by omega) (by omega)
    rw [val_dig, val_dig] at hl
    by_cases hlt : (a.natAbs : Int) < b.natAbs
    · obtain ⟨hn, hs⟩ := o1 hlt
      have d4 : decide ((a.natAbs : Int) < b.natAbs) = true := decide_eq_true hlt
      rw [d4] at hl
      have hp := t_minus (dig b.natAbs) (dig a.natAbs) (dig_ok _) (dig_ok _) (by rw [val_dig, val_dig]; omega) (by omega) (by omega)
      rw [val_dig, val_dig, show ((b.natAbs : Int) - a.natAbs).toNat = (a + b).natAbs by omega] at hp
      have hm := t_madeb b.sign (a + b) (a + b).natAbs rfl (fun _ => hs) hll
      have hb1 : True := trivial
      refine ctr_go good _ _ [.cell 4 55, .tmp 5] Tryz.func107 rfl rfl (by decide +kernel) rfl ?_
      simp only [go_sem, ints, ic, big]
      refine CallP_eq ra (by decide) ?_
      simp only [go_sem, ints, ic, big]
      refine CallP_eq rb (by decide) ?_
      simp only [d1, d2, d3, go_sem, ints, ic, big]
      refine CallP_eq hl (by decide) ?_
      simp only [go_sem, ints, ic, big]
      refine DrawS_of (by decide +kernel) ?_
      simp only [hb1, go_sem, ints, ic, big]
      refine CallD_eq hp (by decide) ?_
      simp only [go_sem, ints, ic, big]
      refine CallD_eq hm (by decide) ?_
      simp only [go_sem, ints, ic, big]
    · obtain ⟨hn, hs⟩ := o2 hlt
      have d4 : decide ((a.natAbs : Int) < b.natAbs) = false := decide_eq_false hlt
      rw [d4] at hl
      have hp := t_minus (dig a.natAbs) (dig b.natAbs) (dig_ok _) (dig_ok _) (by rw [val_dig, val_dig]; omega) (by omega) (by omega)
      rw [val_dig, val_dig, show ((a.natAbs : Int) - b.natAbs).toNat = (a + b).natAbs by omega] at hp
      have hm := t_madeb a.sign (a + b) (a + b).natAbs rfl hs hll
      have hb1 : True := trivial
      refine ctr_go good _ _ [.cell 4 55, .tmp 5] Tryz.func107 rfl rfl (by decide +kernel) rfl ?_
      simp only [go_sem, ints, ic, big]
      refine CallP_eq ra (by decide) ?_
      simp only [go_sem, ints, ic, big]
      refine CallP_eq rb (by decide) ?_
      simp only [d1, d2, d3, go_sem, ints, ic, big]
      refine CallP_eq hl (by decide) ?_
      simp only [go_sem, ints, ic, big]
      refine DrawS_of (by decide +kernel) ?_
      simp only [hb1, go_sem, ints, ic, big]
      refine CallD_eq hp (by decide) ?_
      simp only [go_sem, ints, ic, big]
      refine CallD_eq hm (by decide) ?_
      simp only [go_sem, ints, ic, big]
end Go.Proofs.YtnjkhiafjcajaaaGreat

namespace Go.Proofs.YtnjkhiafjcajaaaGreat
set_option linter.all false
open Go.Abs

set_option maxRecDepth 100000 in
set_option maxHeartbeats 2000000 in
theorem t_over (a b : List Int) (ha : OkD a) (hb : OkD b) (hb0 : 0 < val b) (la : a.length ≤ 100000) (lb : b.length ≤ 50000) :
    Ctr G.P 182 [ints a, ints b] (· = .tup [ints (dig (val a / val b).toNat), ints (dig (val a % val b).toNat)]) := by
  have hw := i64_ok (n := (a.length : Int) - 1) (by omega)
  have ht : ((a.length : Int)).toNat = a.length := by omega
  have hb8 : (a.length : Int) * 8 ≤ 140737488355328 := by omega
  have hbl := val_lt hb
  refine ctr_go good _ _ [.tmp 4, .tmp 5] Tryz.func182 rfl rfl (by decide +kernel) rfl ?_
  simp only [hw, ht, hb8, go_sem, ints, ic]
  refine LoopP_ofP [0, 1, 6, 7, 8] [14] [(7, 0, 0, 0)] (fun g : Nat × List Int × Nat => ⟨[(0, .im (.sl (a.map ic))), (1, .im (.sl (b.map ic))), (6, .gsl 14 3 1 a.length), (7, .im (.sl ((dig g.2.2).map ic))), (8, .im (.int ((g.1 : Int) - 1)))], [(14, 1, g.2.1.map ic)], []⟩)
    (fun g => g.1 ≤ a.length ∧ g.2.1.length = a.length ∧ OkD g.2.1 ∧ (g.2.2 : Int) < val b ∧ val (a.drop g.1) = val (g.2.1.drop g.1) * val b + g.2.2) (fun g => g.1) (a.length, List.replicate a.length 0, 0) ?_ ?_
    ⟨Nat.le_refl _, List.length_replicate, OkD.replicate _, hb0, by dsimp only; rw [List.drop_of_length_le (Nat.le_refl _), List.drop_of_length_le (by rw [List.length_replicate]; exact Nat.le_refl _)]; simp [val]⟩ ?_
  · simp only [go_sem, ints, ic]
  · simp only [dig_zero, List.map_nil, List.map_replicate, List.length_replicate, go_sem, ints, ic]
  · intro ⟨n, q, R⟩ ⟨hn, hl, hq, hR, hv⟩
    dsimp only at hn hl hq hR hv
    rcases n with _ | m
    · have hd : decide ((0 : Int) ≤ ((0 : Nat) : Int) - 1) = false := by decide
      rw [List.drop_zero, List.drop_zero] at hv
      obtain ⟨e1, e2⟩ := over_end hv (by omega) hR
      have htr := t_trim q hq (by omega)
      rw [e1] at htr
      have hRn : R = (val a % val b).toNat := by omega
      have hall : (q.map ic).take a.length = q.map ic := List.take_of_length_le (by rw [List.length_map]; omega)
      simp only [hd, hl, Nat.le_refl, hall, go_sem, ints, ic]
      refine CallP_eq htr (by decide) ?_
      simp only [hRn, go_sem, ints, ic]
    · have h2 : ((m + 1 : Nat) : Int) - 1 = m := by omega
      have hd : decide ((0 : Int) ≤ (m : Int)) = true := decide_eq_true (by omega)
      have hx := get_nat (l := a) (i := m) (by omega)
      have hmi : (m : Int) < a.length := by omega
      have had := ha.dgt m
      have hw3 := i64_ok (n := (m : Int) - 1) (by omega)
      have hlR : (dig R).length ≤ b.length := dig_len_le (by omega)
      have hok : OkD (dgt a m :: dig R) := OkD.cons had (dig_ok _)
      have htr := t_trim (dgt a m :: dig R) hok (by rw [List.length_cons]; omega)
      have hvr : val (dgt a m :: dig R) = dgt a m + 1048576 * R := by
        show dgt a m + 1048576 * val (dig R) = _
        rw [val_dig]
      rw [hvr] at htr
      obtain ⟨R', hR'⟩ : ∃ R' : Nat, (R' : Int) = dgt a m + 1048576 * R := ⟨(dgt a m + 1048576 * R).toNat, by omega⟩
      rw [← hR', Int.toNat_natCast] at htr
      have hRB : (R' : Int) < 1048576 * val b := by omega
      have hlR' : (dig R').length ≤ b.length + 1 := dig_len_le (by rw [pow_step]; omega)
      simp only [h2, hd, List.getElem?_map, hx, go_sem, ints, ic]
      refine ⟨by simp, ic_len _, by omega, ?_⟩
      refine CallP_eq htr (by decide) ?_
      simp only [go_sem, ints, ic]
      refine LoopP_of [0, 1, 6, 7, 8, 9, 10] [14] (fun g : Int × Int => ⟨[(0, .im (.sl (a.map ic))), (1, .im (.sl (b.map ic))), (6, .gsl 14 3 1 a.length), (7, .im (.sl ((dig R').map ic))), (8, .im (.int m)), (9, .im (.int g.1)), (10, .im (.int g.2))], [(14, 1, q.map ic)], []⟩)
        (fun g => 0 ≤ g.1 ∧ g.1 < g.2 ∧ g.2 ≤ 1048576 ∧ g.1 * val b ≤ R' ∧ (R' : Int) < g.2 * val b) (fun g => (g.2 - g.1).toNat) (0, 1048576) ?_ ⟨Int.le_refl _, by decide, Int.le_refl _, by dsimp only; omega, hRB⟩ ?_
      · simp only [h2, go_sem, ints, ic]
      · intro ⟨lo, hi⟩ ⟨g1, g2, g3, g4, g5⟩
        dsimp only at g1 g2 g3 g4 g5
        have w1 := i64_ok (n := hi - lo) (by omega)
        have w2 := i64_ok (n := lo + hi) (by omega)
        by_cases hp : 1 < hi - lo
        · have hdp : decide (1 < hi - lo) = true := decide_eq_true hp
          obtain ⟨mid, hmid⟩ : ∃ mid, mid = (lo + hi) / 2 := ⟨_, rfl⟩
          have hq2 : IntKind.i64.wrap ((lo + hi).tdiv 2) = mid := by
            rw [Int.tdiv_eq_ediv_of_nonneg (by omega), ← hmid]; exact i64_ok (by omega)
          have hmo : OkD [mid] := OkD.cons (by omega) OkD.nil
          have htm := t_times b [mid] hb hmo (by omega) (by simp)
          rw [val_one] at htm
          have hbm : 0 ≤ val b * mid := Int.mul_nonneg (by omega) (by omega)
          have hbm2 : val b * mid ≤ val b * 1048576 := Int.mul_le_mul_of_nonneg_left (by omega) (by omega)
          have hlm : (dig (val b * mid).toNat).length ≤ b.length + 1 := dig_len_le (by rw [pow_step]; omega)
          have hls := t_less (dig R') (dig (val b * mid).toNat) (dig_ok _) (dig_ok _) (by omega) (by omega)
          rw [val_dig, val_dig, Int.toNat_of_nonneg hbm] at hls
          simp only [ints, ic, List.map_cons, List.map_nil] at htm
          simp only [w1, w2, hdp, hq2, go_sem, ints, ic]
          refine CallP_eq htm (by decide) ?_
          simp only [go_sem, ints, ic]
          refine CallP_eq hls (by decide) ?_
          simp only [go_sem, ints, ic]
          refine Two_dec (fun he he' => ?_) (fun he he' => ?_)
          · simp only [go_sem, ints, ic]
            refine RoundP_of (lo, mid) ?_ (by dsimp only; omega) ⟨g1, by dsimp only; omega, by dsimp only; omega, g4, by dsimp only; rw [Int.mul_comm]; exact he'⟩
            simp only [go_sem, ints, ic]
          · simp only [go_sem, ints, ic]
            refine RoundP_of (mid, hi) ?_ (by dsimp only; omega) ⟨by dsimp only; omega, by dsimp only; omega, g3, by dsimp only; rw [Int.mul_comm]; omega, g5⟩
            simp only [go_sem, ints, ic]
        · have hdp : decide (1 < hi - lo) = false := decide_eq_false hp
          have hhi : hi = lo + 1 := by omega
          subst hhi
          rw [Int.add_mul, Int.one_mul] at g5
          have hlo : OkD [lo] := OkD.cons (by omega) OkD.nil
          have htl := t_trim [lo] hlo (by simp)
          rw [val_one] at htl
          have hll : (dig lo.toNat).length ≤ 1 := dig_len_le (by omega)
          have htm := t_times b (dig lo.toNat) hb (dig_ok _) (by omega) (by omega)
          rw [val_dig, Int.toNat_of_nonneg g1] at htm
          have hbl2 : 0 ≤ val b * lo := Int.mul_nonneg (by omega) g1
          have hcm := Int.mul_comm (val b) lo
          have hlm : (dig (val b * lo).toNat).length ≤ b.length + 1 := dig_len_le (by rw [pow_step]; omega)
          have hmn := t_minus (dig R') (dig (val b * lo).toNat) (dig_ok _) (dig_ok _) (by rw [val_dig, val_dig, Int.toNat_of_nonneg hbl2]; omega) (by omega) (by omega)
          rw [val_dig, val_dig, Int.toNat_of_nonneg hbl2] at hmn
          have hst := over_step (lo := lo) (by omega : m < q.length) hv
          simp only [ints, ic, List.map_cons, List.map_nil] at htl
          simp only [w1, hdp, hmi, go_sem, ints, ic]
          have hqx := get_nat (l := q) (i := m) (by omega)
          simp only [List.getElem?_map, hqx, ← List.map_set, hmi, go_sem, ints, ic]
          refine CallP_eq htl (by decide) ?_
          simp only [go_sem, ints, ic]
          refine CallP_eq htm (by decide) ?_
          simp only [go_sem, ints, ic]
          refine CallP_eq hmn (by decide) ?_
          simp only [go_sem, ints, ic]
          refine RoundP_of (m, q.set m lo, ((R' : Int) - val b * lo).toNat) ?_ (by dsimp only; omega) ⟨by dsimp only; omega, by dsimp only; rw [List.length_set]; exact hl, hq.set (by omega), by dsimp only; omega, ?_⟩
          · simp only [hw3, List.map_set, go_sem, ints, ic]
          · dsimp only
            rw [hst, Int.toNat_of_nonneg (by omega)]
            omega
end Go.Proofs.YtnjkhiafjcajaaaGreat

namespace Go.Proofs.YtnjkhiafjcajaaaGreat
set_option linter.all false
open Go.Abs

theorem len_mono {n m k : Nat} (h : n ≤ m) (hm : (dig m).length ≤ k) : (dig n).length ≤ k := dig_len_le (by have := val_lt_pow hm; omega)
theorem t_overn (x y : Nat) (hy : 0 < y) (lx : (dig x).length ≤ 100000) (ly : (dig y).length ≤ 50000) : Ctr G.P 182 [ints (dig x), ints (dig y)] (· = .tup [ints (dig (x / y)), ints (dig (x % y))]) := by
  have := t_over (dig x) (dig y) (dig_ok _) (dig_ok _) (by rw [val_dig]; omega) lx ly
  rw [val_dig, val_dig, ← Int.natCast_ediv, ← Int.natCast_emod, Int.toNat_natCast, Int.toNat_natCast] at this
  exact this
set_option maxRecDepth 100000 in
theorem t_gcd (a b : Int) (la : (dig a.natAbs).length ≤ 50000) (lb : (dig b.natAbs).length ≤ 50000) : Ctr G.P 150 [big a, big b] (· = .tup [big (Nat.gcd a.natAbs b.natAbs : Nat), .int 0]) := by
  have ra := t_rightb a (by omega)
  have rb := t_rightb b (by omega)
  refine ctr_go good _ _ [.cell 4 55, .tmp 5] Tryz.func150 rfl rfl (by decide +kernel) rfl ?_
  simp only [go_sem, ints, ic, big]
  refine CallP_eq ra (by decide) ?_
  simp only [go_sem, ints, ic, big]
  refine CallP_eq rb (by decide) ?_
  simp only [go_sem, ints, ic, big]
  refine LoopP_of [4, 6, 7] [4] (fun g : Nat × Nat => ⟨[(4, .loc 4 2 0 0), (6, .im (.sl ((dig g.1).map ic))), (7, .im (.sl ((dig g.2).map ic)))], [(4, 2, [[.int 0, .sl []]])], []⟩)
    (fun g => Nat.gcd g.1 g.2 = Nat.gcd a.natAbs b.natAbs ∧ (dig g.1).length ≤ 50000 ∧ (dig g.2).length ≤ 50000) (fun g => g.2) (a.natAbs, b.natAbs) ?_ ⟨rfl, la, lb⟩ ?_
  · simp only [go_sem, ints, ic, big]
  · intro ⟨x, y⟩ ⟨hg, lx, ly⟩
    dsimp only at hg lx ly
    by_cases hy : y = 0
    · subst hy
      rw [Nat.gcd_zero_right] at hg
      rw [← hg]
      have hm := t_madeb 1 x x (by omega) (fun h => (Int.sign_eq_one_of_pos (by omega)).symm) (by rw [Int.natAbs_natCast]; omega)
      simp only [dig_zero, List.map_nil, go_sem, ints, ic, big]
      refine CallP_eq hm (by decide) ?_
      simp only [go_sem, ints, ic, big]
    · have hne : dig y ≠ [] := fun h => hy (dig_nil.1 h)
      have hlp := List.length_pos_iff.2 hne
      have hd : decide (0 < ((dig y).length : Int)) = true := decide_eq_true (by omega)
      have ho := t_overn x y (by omega) (by omega) ly
      have hlt := Nat.mod_lt x (by omega : y > 0)
      simp only [hd, go_sem, ints, ic, big]
      refine CallP_eq ho (by decide) ?_
      simp only [go_sem, ints, ic, big]
      refine RoundP_of (y, x % y) ?_ hlt ⟨?_, ly, len_mono (by omega) ly⟩
      · simp only [go_sem, ints, ic, big]
      · show Nat.gcd y (x % y) = _
        rw [← hg, Nat.gcd_comm x y, Nat.gcd_rec y x, Nat.gcd_comm]
set_option maxRecDepth 100000 in
theorem t_div (a b : Int) (hb : b ≠ 0) (hd : b.natAbs ∣ a.natAbs) (la : (dig a.natAbs).length ≤ 50000) (lb : (dig b.natAbs).length ≤ 50000) : Ctr G.P 157 [big a, big b] (· = .tup [big (a / b), big 0, .int 0]) := by
  have ra := t_rightb a (by omega)
  have rb := t_rightb b (by omega)
  have hbs : decide (b.sign = 0) = false := decide_eq_false fun h => hb (Int.sign_eq_zero_iff_zero.1 h)
  have ho := t_overn a.natAbs b.natAbs (by omega) (by omega) lb
  have hmod : a.natAbs % b.natAbs = 0 := Nat.mod_eq_zero_of_dvd hd
  rw [hmod, dig_zero] at ho
  have hq : a.natAbs / b.natAbs = (a / b).natAbs := by
    rw [Int.natAbs_ediv_of_dvd (Int.natAbs_dvd_natAbs.1 hd)]
  have hql : (dig (a / b).natAbs).length ≤ 50000 := by rw [← hq]; exact len_mono (Nat.div_le_self _ _) la
  have hsg : a / b ≠ 0 → a.sign * b.sign = (a / b).sign := fun h => by
    obtain ⟨c, hc⟩ := Int.natAbs_dvd_natAbs.1 hd
    subst hc
    rw [Int.mul_ediv_cancel_left _ hb] at h ⊢
    rw [Int.sign_mul, Int.mul_comm, ← Int.mul_assoc]
    have : b.sign * b.sign = 1 := by
      rcases Int.lt_or_gt_of_ne hb with h1 | h1
      · rw [Int.sign_eq_neg_one_of_neg h1]; rfl
      · rw [Int.sign_eq_one_of_pos h1]; rfl
    rw [this, Int.one_mul]
  rw [hq] at ho
  have w := i64_ok (n := a.sign * b.sign) (by rw [← Int.sign_mul]; have := sign_le (a * b); omega)
  have hm := t_madeb (a.sign * b.sign) (a / b) (a / b).natAbs rfl hsg (by omega)
  have hm2 := t_madeb a.sign 0 0 rfl (fun h => absurd rfl h) (by rw [show (0 : Int).natAbs = 0 from rfl, dig_zero]; simp)
  rw [dig_zero] at hm2
  refine ctr_go good _ _ [.cell 4 55, .cell 5 55, .tmp 6] Tryz.func157 rfl rfl (by decide +kernel) rfl ?_
  simp only [go_sem, ints, ic, big]
  refine CallP_eq ra (by decide) ?_
  simp only [go_sem, ints, ic, big]
  refine CallP_eq rb (by decide) ?_
  simp only [hbs, go_sem, ints, ic, big]
  refine CallP_eq ho (by decide) ?_
  simp only [w, go_sem, ints, ic, big]
  refine Two_of (fun d => ?_) (fun d => ?_)
  · simp only [d, go_sem, ints, ic, big]
    refine DrawS_of (by decide +kernel) ?_
    simp only [w, go_sem, ints, ic, big]
    refine CallD_eq hm (by decide) ?_
    simp only [go_sem, ints, ic, big]
    refine CallD_eq hm2 (by decide) ?_
    simp only [go_sem, ints, ic, big]
  · simp only [d, List.map_nil, Int.natCast_zero, decide_true, go_sem, ints, ic, big]
    refine DrawS_of (by decide +kernel) ?_
    simp only [w, go_sem, ints, ic, big]
    refine CallD_eq hm (by decide) ?_
    simp only [go_sem, ints, ic, big]
    refine CallD_eq hm2 (by decide) ?_
    simp only [go_sem, ints, ic, big]
end Go.Proofs.YtnjkhiafjcajaaaGreat

namespace Go.Proofs.YtnjkhiafjcajaaaGreat
set_option linter.all false
open Go.Abs

theorem t_nan (x : Int) : Ctr G.P 166 [.int x] (· = .bool false) := by
  refine ctr_go good _ _ [.tmp 2] Tryz.func166 rfl rfl (by decide +kernel) rfl ?_
  simp only [eq_self, go_sem, ints, ic, mb20, pw20, fd20]
theorem t_cmp (x y : Int) : Ctr G.P 130 [.int x, .int y] (· = .int (cmpI x y)) := by
  have h1 := t_nan x
  have h2 := t_nan y
  refine ctr_go good _ _ [.tmp 4] Tryz.func130 rfl rfl (by decide +kernel) rfl ?_
  simp only [go_sem, ints, ic, mb20, pw20, fd20]
  refine CallP_eq h1 (by decide) ?_
  simp only [go_sem, ints, ic, mb20, pw20, fd20]
  refine CallP_eq h2 (by decide) ?_
  simp only [go_sem, ints, ic, mb20, pw20, fd20]
  refine Two_dec (fun d1 d1' => ?_) (fun d1 d1' => ?_)
  · have : cmpI x y = -1 := if_pos d1'
    rw [this]
    simp only [d1, go_sem, ints, ic, mb20, pw20, fd20]
  · simp only [d1, go_sem, ints, ic, mb20, pw20, fd20]
    refine Two_dec (fun d2 d2' => ?_) (fun d2 d2' => ?_)
    · have : cmpI x y = 1 := by rw [cmpI, if_neg d1', if_neg (by omega)]
      rw [this]
      simp only [d1, d2, go_sem, ints, ic, mb20, pw20, fd20]
    · have : cmpI x y = 0 := by rw [cmpI, if_neg d1', if_pos (by omega)]
      rw [this]
      simp only [d1, d2, go_sem, ints, ic, mb20, pw20, fd20]
theorem cmp_len {n m : Nat} (h : (dig n).length ≠ (dig m).length) : cmpI ((dig n).length : Int) ((dig m).length : Int) = cmpI (n : Int) (m : Int) := by
  rcases Nat.lt_or_gt_of_ne h with h1 | h1
  · have : n < m := by
      rcases Nat.lt_or_ge n m with h2 | h2
      · exact h2
      · have := len_mono h2 (Nat.le_refl _); omega
    rw [cmpI, cmpI, if_pos (by omega), if_pos (by omega)]
  · have : m < n := by
      rcases Nat.lt_or_ge m n with h2 | h2
      · exact h2
      · have := len_mono h2 (Nat.le_refl _); omega
    rw [cmpI, cmpI, if_neg (by omega), if_neg (by omega), if_neg (by omega), if_neg (by omega)]
theorem cmp_dgt {a b : List Int} (ha : OkD a) (hb : OkD b) {m : Nat} (h : ∀ j, m < j → dgt a j = dgt b j) (hne : dgt a m ≠ dgt b m) : cmpI (dgt a m) (dgt b m) = cmpI (val a) (val b) := by
  rcases Int.lt_or_gt_of_ne hne with h1 | h1
  · have := lt_at ha hb m h h1
    rw [cmpI, cmpI, if_pos h1, if_pos this]
  · have := lt_at hb ha m (fun j hj => (h j hj).symm) h1
    rw [cmpI, cmpI, if_neg (by omega), if_neg (by omega), if_neg (by omega), if_neg (by omega)]
set_option maxRecDepth 100000 in
set_option maxHeartbeats 1000000 in
theorem t_pcompare (x y : Nat) (lx : (dig x).length ≤ 1000000) (ly : (dig y).length ≤ 1000000) : Ctr G.P 125 [ints (dig x), ints (dig y)] (· = .int (cmpI (x : Int) (y : Int))) := by
  by_cases hl : (dig x).length = (dig y).length
  case neg =>
    have hc := t_cmp ((dig x).length : Int) ((dig y).length : Int)
    rw [cmp_len hl] at hc
    have hd : decide (((dig x).length : Int) = (dig y).length) = false := decide_eq_false (by omega)
    refine ctr_go good _ _ [.tmp 4] Tryz.func125 rfl rfl (by decide +kernel) rfl ?_
    simp only [hd, go_sem, ints, ic, mb20, pw20, fd20]
    refine CallP_eq hc (by decide) ?_
    simp only [go_sem, ints, ic, mb20, pw20, fd20]
  case pos =>
    have hvx := val_dig x
    have hvy := val_dig y
    have hox := dig_ok x
    have hoy := dig_ok y
    generalize dig x = a at *
    generalize dig y = b at *
    rw [← hvx, ← hvy]
    have hli : (a.length : Int) = b.length := by omega
    have hw := i64_ok (n := (b.length : Int) - 1) (by omega)
    refine ctr_go good _ _ [.tmp 4] Tryz.func125 rfl rfl (by decide +kernel) rfl ?_
    simp only [hli, eq_self, hw, go_sem, ints, ic, mb20, pw20, fd20]
    refine LoopP_of [0, 1, 5] [] (fun n : Nat => ⟨[(0, .im (.sl (a.map ic))), (1, .im (.sl (b.map ic))), (5, .im (.int ((n : Int) - 1)))], [], []⟩) (fun n => n ≤ b.length ∧ ∀ j, n ≤ j → dgt a j = dgt b j) (fun n => n) b.length ?_
      ⟨Nat.le_refl _, fun j hj => by rw [dgt_none (by omega), dgt_none (by omega)]⟩ ?_
    · simp only [hw, go_sem, ints, ic, mb20, pw20, fd20]
    intro n ⟨hn, hz⟩
    rcases n with _ | m
    · have hd : decide ((0 : Int) ≤ ((0 : Nat) : Int) - 1) = false := by decide
      have hv : val a = val b := same_val fun j => hz j (Nat.zero_le _)
      have hv' : cmpI (val a) (val b) = 0 := by rw [cmpI, if_neg (by omega), if_pos hv]
      rw [hv']
      simp only [hd, go_sem, ints, ic, mb20, pw20, fd20]
    · have h2 : ((m + 1 : Nat) : Int) - 1 = m := by omega
      have hd : decide ((0 : Int) ≤ (m : Int)) = true := decide_eq_true (by omega)
      have h3 := i64_ok (n := (m : Int) - 1) (by omega)
      have hx := get_nat (l := a) (i := m) (by omega)
      have hy := get_nat (l := b) (i := m) (by omega)
      simp only [h2, hd, go_sem, ints, ic, mb20, pw20, fd20]
      refine DrawP_of 9 (by decide +kernel) ?_
      simp only [h2, List.getElem?_map, hx, hy, go_sem, ints, ic, mb20, pw20, fd20]
      refine Two_dec (fun he he' => ?_) (fun he he' => ?_)
      · simp only [h2, he, go_sem, ints, ic, mb20, pw20, fd20]
        refine RoundP_of m ?_ (by omega) ⟨by omega, fun j hj => ?_⟩
        · simp only [h2, h3, go_sem, ints, ic, mb20, pw20, fd20]
        · rcases Nat.lt_or_ge m j with h | h
          · exact hz j h
          · rw [show j = m by omega]; exact he'
      · have hc := t_cmp (dgt a m) (dgt b m)
        rw [cmp_dgt hox hoy (fun j hj => hz j hj) he'] at hc
        simp only [h2, he, go_sem, ints, ic, mb20, pw20, fd20]
        refine DrawP_of 10 (by decide +kernel) ?_
        simp only [h2, List.getElem?_map, hx, hy, go_sem, ints, ic, mb20, pw20, fd20]
        refine CallD_eq hc (by decide) ?_
        simp only [go_sem, ints, ic, mb20, pw20, fd20]
end Go.Proofs.YtnjkhiafjcajaaaGreat

namespace Go.Proofs.YtnjkhiafjcajaaaGreat
set_option linter.all false
open Go.Abs

/-- A list with a window put in at i. -/
def winL (U : List Int) (i : Nat) (X : List Int) : List Int := U.take i ++ X ++ U.drop (i + X.length)
theorem winL_len {U X : List Int} {i : Nat} (h : i + X.length ≤ U.length) : (winL U i X).length = U.length := by
  simp only [winL, List.length_append, List.length_take, List.length_drop]; omega
theorem winL_get {U X : List Int} {i k : Nat} (hi : i ≤ U.length) (hk : k < X.length) : (winL U i X)[i + k]? = some (dgt X k) := by
  have hl : (U.take i).length = i := by rw [List.length_take]; omega
  rw [winL, List.append_assoc, List.getElem?_append_right (by omega), hl, Nat.add_sub_cancel_left, List.getElem?_append_left hk]
  exact get_nat (by omega)
theorem winL_set {U X : List Int} {i k : Nat} {y : Int} (hi : i ≤ U.length) (hk : k < X.length) : (winL U i X).set (i + k) y = winL U i (X.set k y) := by
  have hl : (U.take i).length = i := by rw [List.length_take]; omega
  rw [winL, winL, List.length_set, List.append_assoc, List.append_assoc, List.set_append_right _ _ (by omega), hl, Nat.add_sub_cancel_left, List.set_append_left _ _ hk]
theorem winL_self {U : List Int} {i m : Nat} (h : i + m ≤ U.length) : winL U i ((U.drop i).take m) = U := by
  have hl : ((U.drop i).take m).length = m := by rw [List.length_take, List.length_drop]; omega
  rw [winL, hl, List.append_assoc, ← List.drop_drop, List.take_append_drop, List.take_append_drop]
theorem mul_step {out v : List Int} {k : Nat} {c n g V : Int} (hi : k < out.length) (h : val out - 1048576 ^ k * c = V - g * val (v.take k)) (hn : n = dgt out k - c - g * dgt v k) :
    val (out.set k (n % 1048576)) - 1048576 ^ (k + 1) * -(n / 1048576) = V - g * val (v.take (k + 1)) := by
  rw [val_set _ _ _ hi, val_take_succ, pow_step]
  generalize (1048576 : Int) ^ k = p at *
  have e0 := Int.emod_add_mul_ediv n 1048576
  have e : p * (n % 1048576 - dgt out k) - p * 1048576 * -(n / 1048576) = p * (n - dgt out k) := by
    rw [Int.mul_assoc, ← Int.mul_sub]
    congr 1
    omega
  have e2 : p * (n - dgt out k) = -(p * (g * dgt v k)) - p * c := by
    rw [hn, show dgt out k - c - g * dgt v k - dgt out k = -(g * dgt v k) - c by omega, Int.mul_sub, Int.mul_neg]
  have e3 : g * (val (v.take k) + p * dgt v k) = g * val (v.take k) + p * (g * dgt v k) := by rw [Int.mul_add, Int.mul_left_comm]
  rw [e3]
  omega
/-- Adding back, one digit, in place. -/
theorem back_step {out v : List Int} {k : Nat} {c n V : Int} (hi : k < out.length) (h : val out + 1048576 ^ k * c = V + val (v.take k)) (hn : n = c + dgt out k + dgt v k) :
    val (out.set k (n % 1048576)) + 1048576 ^ (k + 1) * (n / 1048576) = V + val (v.take (k + 1)) := by
  rw [val_set _ _ _ hi, val_take_succ, pow_step]
  generalize (1048576 : Int) ^ k = p at *
  have e0 := Int.emod_add_mul_ediv n 1048576
  have e : p * (n % 1048576 - dgt out k) + p * 1048576 * (n / 1048576) = p * (n - dgt out k) := by
    rw [Int.mul_assoc, ← Int.mul_add]
    congr 1
    omega
  have e2 : p * (n - dgt out k) = p * c + p * dgt v k := by
    rw [hn, show c + dgt out k + dgt v k - dgt out k = c + dgt v k by omega, Int.mul_add]
  omega
/-- The digit of the quotient that is settled on. -/
def settled (w v g : Int) : Int := if 0 ≤ w - g * v then g else g - 1
set_option maxRecDepth 100000 in
set_option maxHeartbeats 2000000 in
theorem t_settle (U W v : List Int) (i0 n : Nat) (g : Int) (hW : OkD W) (hv : OkD v) (lW : W.length = n + 1) (lv : v.length = n) (hU : i0 + (n + 1) ≤ U.length) (hU2 : U.length ≤ 10000000)
    (hg : 0 ≤ g ∧ g < 1048576) (hq : 0 ≤ val W - g * val v ∨ 0 ≤ val W - (g - 1) * val v) :
    CtrM G.P 186 [.osl 900 1 i0 (n + 1), .im (ints v), .im (.int g)] [(900, 1, (winL U i0 W).map ic)]
      (fun r Es new => r = .im (.int (settled (val W) (val v) g)) ∧ Es = [(winL U i0 (padD (n + 1) (val W - settled (val W) (val v) g * val v).toNat)).map ic] ∧ new = none) := by
  have hWl := val_lt hW
  have hv0 := val_nonneg hv
  have hgv : 0 ≤ g * val v := Int.mul_nonneg hg.1 hv0
  rw [lW] at hWl
  refine ctrm_go good _ _ [.tmp 6] Tryz.func186 rfl rfl (by decide +kernel) rfl rfl (by simp) ?_
  simp only [go_sem, ints, ic, mb20, pw20, fd20]
  refine LoopP_of [0, 1, 2, 7, 12, 13, 14] [900] (fun s : Nat × List Int × Int => ⟨[(0, .osl 900 1 i0 (n + 1)), (1, .im (.sl (v.map ic))), (2, .im (.int g)), (7, .im (.int s.2.2)), (12, .osl 900 1 i0 (n + 1)), (13, .im (.int ((n + 1 : Nat) : Int))), (14, .im (.int s.1))], [(900, 1, (winL U i0 s.2.1).map ic)], []⟩)
    (fun s => s.1 ≤ n + 1 ∧ s.2.1.length = n + 1 ∧ OkD s.2.1 ∧ 0 ≤ s.2.2 ∧ s.2.2 ≤ 1048576 ∧ val s.2.1 - 1048576 ^ s.1 * s.2.2 = val W - g * val (v.take s.1)) (fun s => n + 1 - s.1) (0, W, 0) ?_
    ⟨Nat.zero_le _, lW, hW, Int.le_refl _, by dsimp only; omega, by dsimp only; simp [val]⟩ ?_
  · simp only [Int.natCast_zero, go_sem, ints, ic, mb20, pw20, fd20]
  intro ⟨k, X, c⟩ ⟨hk, lX, hX, hc0, hc1, hinv⟩
  dsimp only at hk lX hX hc0 hc1 hinv
  by_cases hp : (k : Int) < ((n + 1 : Nat) : Int)
  case pos =>
    have hd : decide ((k : Int) < ((n + 1 : Nat) : Int)) = true := decide_eq_true hp
    have hdX := hX.dgt k
    have hdv := hv.dgt k
    have hmul := mul_lt_sq hg hdv
    have h1 := i64_ok (n := (k : Int) + 1) (by omega)
    have hy := winL_get (U := U) (X := X) (i := i0) (k := k) (by omega) (by omega)
    have w0 := i64_ok (n := g * dgt v k) (by omega)
    have w1 := i64_ok (n := dgt X k - c) (by omega)
    have w2 := i64_ok (n := dgt X k - c - g * dgt v k) (by omega)
    have hs := mul_step (by omega : k < X.length) hinv rfl
    generalize hN : dgt X k - c - g * dgt v k = t at *
    have a1 := and20 t
    have a2 := i64_ok (n := 0 - t / 1048576) (by omega)
    have hset : ((winL U i0 X).map ic).set (i0 + k) [.sc (.int .i64 (t % 1048576))] = (winL U i0 (X.set k (t % 1048576))).map ic := by
      rw [← winL_set (by omega) (by omega), List.map_set]; rfl
    have e0 : 0 - t / 1048576 = -(t / 1048576) := by omega
    rw [e0] at a2
    have fin : (0 ≤ -(t / 1048576) ∧ -(t / 1048576) ≤ 1048576) ∧ (X.set k (t % 1048576)).length = n + 1 ∧ OkD (X.set k (t % 1048576)) :=
      ⟨by omega, by rw [List.length_set]; exact lX, hX.set (by omega)⟩
    obtain ⟨f1, f2, f3⟩ := fin
    by_cases hbl : (k : Int) < v.length
    · have hd2 : decide ((k : Int) < v.length) = true := decide_eq_true hbl
      have hxb := get_nat hbl
      simp only [hd, hp, hd2, List.getElem?_map, hxb, hy, w0, w1, hN, w2, a1, a2, hset, e0, go_sem, ints, ic, mb20, pw20, fd20]
      refine RoundP_of (k + 1, X.set k (t % 1048576), -(t / 1048576)) ?_ ?_ ⟨?_, f2, f3, f1.1, f1.2, hs⟩
      · simp only [h1, Int.natCast_add, go_sem, ints, ic, mb20, pw20, fd20]
      · show n + 1 - (k + 1) < n + 1 - k; omega
      · show k + 1 ≤ n + 1; omega
    · have hd2 : decide ((k : Int) < v.length) = false := decide_eq_false hbl
      have hb0 : dgt v k = 0 := dgt_none (by omega)
      rw [hb0, Int.mul_zero, Int.sub_zero] at hN
      rw [hN] at w1
      simp only [hd, hp, hd2, List.getElem?_map, hy, hN, w1, a1, a2, hset, e0, go_sem, ints, ic, mb20, pw20, fd20]
      refine RoundP_of (k + 1, X.set k (t % 1048576), -(t / 1048576)) ?_ ?_ ⟨?_, f2, f3, f1.1, f1.2, hs⟩
      · simp only [h1, Int.natCast_add, go_sem, ints, ic, mb20, pw20, fd20]
      · show n + 1 - (k + 1) < n + 1 - k; omega
      · show k + 1 ≤ n + 1; omega
  case neg =>
    have hd : decide ((k : Int) < ((n + 1 : Nat) : Int)) = false := decide_eq_false hp
    have hkn : k = n + 1 := by omega
    subst hkn
    rw [val_take_all (l := v) (by omega)] at hinv
    have hXl := val_lt hX
    have hX0 := val_nonneg hX
    rw [lX] at hXl
    by_cases hc : c = 0
    · subst hc
      rw [Int.mul_zero, Int.sub_zero] at hinv
      have hset : settled (val W) (val v) g = g := if_pos (by omega)
      have hpad := pad_eq hX
      rw [lX, hinv] at hpad
      rw [hset]
      simp only [hd, ← hpad, eq_self, go_sem, ints, ic, mb20, pw20, fd20]
    · have hcd : decide (c = 0) = false := decide_eq_false hc
      have hP := pow_pos' (n + 1)
      have hcm : 1048576 ^ (n + 1) * 1 ≤ 1048576 ^ (n + 1) * c := Int.mul_le_mul_of_nonneg_left (by omega) (by omega)
      have hneg : ¬ 0 ≤ val W - g * val v := by omega
      have hset : settled (val W) (val v) g = g - 1 := if_neg hneg
      have hq' := hq.resolve_left hneg
      rw [hset]
      have wg := i64_ok (n := g - 1) (by omega)
      simp only [hd, hcd, go_sem, ints, ic, mb20, pw20, fd20]
      refine LoopP_of [0, 1, 2, 10, 47, 48, 49] [900] (fun s : Nat × List Int × Int => ⟨[(0, .osl 900 1 i0 (n + 1)), (1, .im (.sl (v.map ic))), (2, .im (.int g)), (10, .im (.int s.2.2)), (47, .osl 900 1 i0 (n + 1)), (48, .im (.int ((n + 1 : Nat) : Int))), (49, .im (.int s.1))], [(900, 1, (winL U i0 s.2.1).map ic)], []⟩)
        (fun s => s.1 ≤ n + 1 ∧ s.2.1.length = n + 1 ∧ OkD s.2.1 ∧ 0 ≤ s.2.2 ∧ s.2.2 ≤ 1 ∧ val s.2.1 + 1048576 ^ s.1 * s.2.2 = val X + val (v.take s.1)) (fun s => n + 1 - s.1) (0, X, 0) ?_
        ⟨Nat.zero_le _, lX, hX, Int.le_refl _, by dsimp only; omega, by dsimp only; simp [val]⟩ ?_
      · simp only [Int.natCast_zero, go_sem, ints, ic, mb20, pw20, fd20]
      intro ⟨k, Y, e⟩ ⟨hk2, lY, hY, he0, he1, hinv2⟩
      dsimp only at hk2 lY hY he0 he1 hinv2
      by_cases hp2 : (k : Int) < ((n + 1 : Nat) : Int)
      case pos =>
        have hd3 : decide ((k : Int) < ((n + 1 : Nat) : Int)) = true := decide_eq_true hp2
        have hdY := hY.dgt k
        have hdv := hv.dgt k
        have h1 := i64_ok (n := (k : Int) + 1) (by omega)
        have hy := winL_get (U := U) (X := Y) (i := i0) (k := k) (by omega) (by omega)
        have w1 := i64_ok (n := e + dgt Y k) (by omega)
        have w2 := i64_ok (n := e + dgt Y k + dgt v k) (by omega)
        have hs := back_step (by omega : k < Y.length) hinv2 rfl
        generalize hN : e + dgt Y k + dgt v k = t at *
        have a1 := and20 t
        have hset2 : ((winL U i0 Y).map ic).set (i0 + k) [.sc (.int .i64 (t % 1048576))] = (winL U i0 (Y.set k (t % 1048576))).map ic := by
          rw [← winL_set (by omega) (by omega), List.map_set]; rfl
        have fin : (0 ≤ t / 1048576 ∧ t / 1048576 ≤ 1) ∧ (Y.set k (t % 1048576)).length = n + 1 ∧ OkD (Y.set k (t % 1048576)) :=
          ⟨by omega, by rw [List.length_set]; exact lY, hY.set (by omega)⟩
        obtain ⟨f1, f2, f3⟩ := fin
        by_cases hbl : (k : Int) < v.length
        · have hd2 : decide ((k : Int) < v.length) = true := decide_eq_true hbl
          have hxb := get_nat hbl
          simp only [hd3, hp2, hd2, List.getElem?_map, hxb, hy, w1, hN, w2, a1, hset2, go_sem, ints, ic, mb20, pw20, fd20]
          refine RoundP_of (k + 1, Y.set k (t % 1048576), t / 1048576) ?_ ?_ ⟨?_, f2, f3, f1.1, f1.2, hs⟩
          · simp only [h1, Int.natCast_add, go_sem, ints, ic, mb20, pw20, fd20]
          · show n + 1 - (k + 1) < n + 1 - k; omega
          · show k + 1 ≤ n + 1; omega
        · have hd2 : decide ((k : Int) < v.length) = false := decide_eq_false hbl
          have hb0 : dgt v k = 0 := dgt_none (by omega)
          rw [hb0, Int.add_zero] at hN
          rw [hN] at w1
          simp only [hd3, hp2, hd2, List.getElem?_map, hy, hN, w1, a1, hset2, go_sem, ints, ic, mb20, pw20, fd20]
          refine RoundP_of (k + 1, Y.set k (t % 1048576), t / 1048576) ?_ ?_ ⟨?_, f2, f3, f1.1, f1.2, hs⟩
          · simp only [h1, Int.natCast_add, go_sem, ints, ic, mb20, pw20, fd20]
          · show n + 1 - (k + 1) < n + 1 - k; omega
          · show k + 1 ≤ n + 1; omega
      case neg =>
        have hd3 : decide ((k : Int) < ((n + 1 : Nat) : Int)) = false := decide_eq_false hp2
        have hkn : k = n + 1 := by omega
        subst hkn
        rw [val_take_all (l := v) (by omega)] at hinv2
        have hYl := val_lt hY
        have hY0 := val_nonneg hY
        rw [lY] at hYl
        have hYv : val Y = val W - (g - 1) * val v := by
          have e1 : (g - 1) * val v = g * val v - val v := by rw [Int.sub_mul]; omega
          rw [e1] at hq' ⊢
          have e2 : 1048576 ^ (n + 1) * (c - e) = 1048576 ^ (n + 1) * c - 1048576 ^ (n + 1) * e := Int.mul_sub ..
          have hce : c - e = 0 := by
            rcases Int.lt_trichotomy (c - e) 0 with h | h | h
            · have : 1048576 ^ (n + 1) * (c - e) ≤ 1048576 ^ (n + 1) * (-1) := Int.mul_le_mul_of_nonneg_left (by omega) (by omega)
              omega
            · exact h
            · have : 1048576 ^ (n + 1) * 1 ≤ 1048576 ^ (n + 1) * (c - e) := Int.mul_le_mul_of_nonneg_left (by omega) (by omega)
              omega
          rw [hce, Int.mul_zero] at e2
          omega
        have hpad := pad_eq hY
        rw [lY, hYv] at hpad
        simp only [hd3, wg, ← hpad, eq_self, go_sem, ints, ic, mb20, pw20, fd20]
end Go.Proofs.YtnjkhiafjcajaaaGreat
