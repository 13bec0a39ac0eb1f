/- A part of the proof: what functions of the program do, and the layer under it. No further condition. -/
import Derived.Test.YtpnlfkaijdjhlaaKD1
import Derived.Test.YtpnlfkaijdjhlaaKM1
namespace Go.Proofs.Ytpnlfkaijdjhlaa
set_option linter.all false
open Go.Abs

theorem ic_len (l : List Int) : ∀ c ∈ l.map ic, c.length = 1 := fun c hc => by
  obtain ⟨z, _, rfl⟩ := List.mem_map.1 hc; rfl
theorem ic_all (l : List Int) : ((l.map ic).all fun c => c.length == 1) = true := by
  rw [List.all_eq_true]; intro c hc; rw [beq_iff_eq]; exact ic_len l c hc
theorem get_nat {l : List Int} {i : Nat} (h : (i : Int) < l.length) : l[i]? = some (dgt l i) := by
  have h : i < l.length := by omega
  unfold dgt; rw [List.getElem?_eq_getElem h]; rfl
theorem dgt_at {l : List Int} {i : Nat} {d : Int} (h : l[i]? = some d) : dgt l i = d := by simp [dgt, h]
theorem dgt_none {l : List Int} {i : Nat} (h : l.length ≤ i) : dgt l i = 0 := by simp [dgt, List.getElem?_eq_none h]
theorem t_digit (l : List Int) (i : Nat) : Ctr G.P 73 [ints l, .int i] (· = .int (dgt l i)) := by
  by_cases hp : (i : Int) < l.length
  · have hd : decide ((i : Int) < l.length) = true := decide_eq_true hp
    have hx : l[i]? = some (dgt l i) := by
      have h : i < l.length := by omega
      unfold dgt; rw [List.getElem?_eq_getElem h]; rfl
    generalize dgt l i = d at *
    refine ctr_go good _ _ [.tmp 4] Try.func73 rfl rfl (by decide +kernel) rfl ?_
    simp only [hd, List.getElem?_map, hx, go_sem, Int.reduceNegSucc, Nat.reduceAdd, Nat.reduceSub, Nat.reduceMul, Nat.reduceEqDiff, Nat.reduceLeDiff, Nat.reduceLT, Nat.reduceBEq, Nat.reduceBNe, reduceIte, reduceCtorEq, Int.reduceToNat, Int.reduceAdd, Int.reduceSub, Int.reduceMul, Int.reduceNeg, Int.reduceLT, Int.reduceLE, Int.reduceEq, Int.reduceNe, ints, ic]
  · have hd : decide ((i : Int) < l.length) = false := decide_eq_false hp
    rw [dgt_none (by omega)]
    refine ctr_go good _ _ [.tmp 4] Try.func73 rfl rfl (by decide +kernel) rfl ?_
    simp only [hd, go_sem, Int.reduceNegSucc, Nat.reduceAdd, Nat.reduceSub, Nat.reduceMul, Nat.reduceEqDiff, Nat.reduceLeDiff, Nat.reduceLT, Nat.reduceBEq, Nat.reduceBNe, reduceIte, reduceCtorEq, Int.reduceToNat, Int.reduceAdd, Int.reduceSub, Int.reduceMul, Int.reduceNeg, Int.reduceLT, Int.reduceLE, Int.reduceEq, Int.reduceNe, ints, ic]
set_option maxRecDepth 100000 in
set_option maxHeartbeats 1000000 in
theorem t_trim (l : List Int) (hl : OkD l) (hlen : l.length ≤ 1000000) : Ctr G.P 72 [ints l] (· = ints (dig (val l).toNat)) := by
  refine ctr_go good _ _ [.tmp 2] Try.func72 rfl rfl (by decide +kernel) rfl ?_
  simp only [go_sem, Int.reduceNegSucc, Nat.reduceAdd, Nat.reduceSub, Nat.reduceMul, Nat.reduceEqDiff, Nat.reduceLeDiff, Nat.reduceLT, Nat.reduceBEq, Nat.reduceBNe, reduceIte, reduceCtorEq, Int.reduceToNat, Int.reduceAdd, Int.reduceSub, Int.reduceMul, Int.reduceNeg, Int.reduceLT, Int.reduceLE, Int.reduceEq, Int.reduceNe, ints, ic]
  refine LoopP_of [0, 3] [] (fun n : Nat => ⟨[(0, .im (.sl (l.map ic))), (3, .im (.int n))], [], []⟩) (fun n => n ≤ l.length ∧ ∀ i, n ≤ i → dgt l i = 0) (fun n => n) l.length ?_ ⟨Nat.le_refl _, fun i hi => dgt_none hi⟩ ?_
  · simp only [go_sem, Int.reduceNegSucc, Nat.reduceAdd, Nat.reduceSub, Nat.reduceMul, Nat.reduceEqDiff, Nat.reduceLeDiff, Nat.reduceLT, Nat.reduceBEq, Nat.reduceBNe, reduceIte, reduceCtorEq, Int.reduceToNat, Int.reduceAdd, Int.reduceSub, Int.reduceMul, Int.reduceNeg, Int.reduceLT, Int.reduceLE, Int.reduceEq, Int.reduceNe, ints, ic]
  · intro n ⟨hn, hz⟩
    have fin : n = 0 ∨ dgt l (n - 1) ≠ 0 → (l.map ic).take n = (dig (val l).toNat).map ic := fun h => by
      rw [← List.map_take, take_dig hl hn hz h]
    have hnn : (n : Int) ≤ l.length := by omega
    rcases n with _ | m
    · have hd : decide ((0 : Int) < ((0 : Nat) : Int)) = false := by decide
      have hf := fin (.inl rfl)
      rw [List.take_zero] at hf
      have hg : dig (val l).toNat = [] := List.map_eq_nil_iff.1 hf.symm
      rw [hg]
      simp only [hd, Int.natCast_zero, Int.lt_irrefl, ic_all, go_sem, Int.reduceNegSucc, Nat.reduceAdd, Nat.reduceSub, Nat.reduceMul, Nat.reduceEqDiff, Nat.reduceLeDiff, Nat.reduceLT, Nat.reduceBEq, Nat.reduceBNe, reduceIte, reduceCtorEq, Int.reduceToNat, Int.reduceAdd, Int.reduceSub, Int.reduceMul, Int.reduceNeg, Int.reduceLT, Int.reduceLE, Int.reduceEq, Int.reduceNe, ints, ic]
      exact ⟨by simp, by simp⟩
    · have hd : decide ((0 : Int) < ((m + 1 : Nat) : Int)) = true := decide_eq_true (by omega)
      have h1 := i64_ok (n := (m : Int)) (by omega)
      have h2 : ((m + 1 : Nat) : Int) - 1 = m := by omega
      have h3 : ((m + 1 : Nat) : Int).toNat = m + 1 := by omega
      have h4 : (0 : Int) ≤ ((m + 1 : Nat) : Int) := by omega
      obtain ⟨d, hx⟩ : ∃ d, l[m]? = some d := ⟨_, List.getElem?_eq_getElem (by omega)⟩
      have hdm := dgt_at hx
      simp only [hd, h1, h2, List.getElem?_map, hx, go_sem, Int.reduceNegSucc, Nat.reduceAdd, Nat.reduceSub, Nat.reduceMul, Nat.reduceEqDiff, Nat.reduceLeDiff, Nat.reduceLT, Nat.reduceBEq, Nat.reduceBNe, reduceIte, reduceCtorEq, Int.reduceToNat, Int.reduceAdd, Int.reduceSub, Int.reduceMul, Int.reduceNeg, Int.reduceLT, Int.reduceLE, Int.reduceEq, Int.reduceNe, ints, ic]
      refine Two_dec (fun hb hb' => ?_) (fun hb hb' => ?_)
      · simp only [hd, h1, h2, go_sem, Int.reduceNegSucc, Nat.reduceAdd, Nat.reduceSub, Nat.reduceMul, Nat.reduceEqDiff, Nat.reduceLeDiff, Nat.reduceLT, Nat.reduceBEq, Nat.reduceBNe, reduceIte, reduceCtorEq, Int.reduceToNat, Int.reduceAdd, Int.reduceSub, Int.reduceMul, Int.reduceNeg, Int.reduceLT, Int.reduceLE, Int.reduceEq, Int.reduceNe, ints, ic]
        refine RoundP_of m ?_ (by omega) ⟨by omega, fun i hi => ?_⟩
        · simp only [h1, h2, go_sem, Int.reduceNegSucc, Nat.reduceAdd, Nat.reduceSub, Nat.reduceMul, Nat.reduceEqDiff, Nat.reduceLeDiff, Nat.reduceLT, Nat.reduceBEq, Nat.reduceBNe, reduceIte, reduceCtorEq, Int.reduceToNat, Int.reduceAdd, Int.reduceSub, Int.reduceMul, Int.reduceNeg, Int.reduceLT, Int.reduceLE, Int.reduceEq, Int.reduceNe, ints, ic]
        · rcases Nat.lt_or_ge m i with h | h
          · exact hz i h
          · rw [show i = m by omega, hdm]; exact hb'
      · have hf := fin (.inr (by rw [Nat.add_sub_cancel, hdm]; exact hb'))
        simp only [ic_all, hnn, h3, h4, go_sem, Int.reduceNegSucc, Nat.reduceAdd, Nat.reduceSub, Nat.reduceMul, Nat.reduceEqDiff, Nat.reduceLeDiff, Nat.reduceLT, Nat.reduceBEq, Nat.reduceBNe, reduceIte, reduceCtorEq, Int.reduceToNat, Int.reduceAdd, Int.reduceSub, Int.reduceMul, Int.reduceNeg, Int.reduceLT, Int.reduceLE, Int.reduceEq, Int.reduceNe, ints, ic]
        refine ⟨by simp, ?_, ?_, ?_⟩
        · rw [Nat.sub_zero, hf]; exact ic_len _
        · rw [List.length_take, List.length_map]; omega
        · rw [Nat.sub_zero, hf]
set_option maxRecDepth 100000 in
set_option maxHeartbeats 1000000 in
theorem t_plus (a b : List Int) (ha : OkD a) (hb : OkD b) (la : a.length ≤ 100000) (lb : b.length ≤ 100000) : Ctr G.P 75 [ints a, ints b] (· = ints (dig (val a + val b).toNat)) := by
  refine ctr_go good _ _ [.tmp 4] Try.func75 rfl rfl (by decide +kernel) rfl ?_
  simp only [go_sem, Int.reduceNegSucc, Nat.reduceAdd, Nat.reduceSub, Nat.reduceMul, Nat.reduceEqDiff, Nat.reduceLeDiff, Nat.reduceLT, Nat.reduceBEq, Nat.reduceBNe, reduceIte, reduceCtorEq, Int.reduceToNat, Int.reduceAdd, Int.reduceSub, Int.reduceMul, Int.reduceNeg, Int.reduceLT, Int.reduceLE, Int.reduceEq, Int.reduceNe, ints, ic]
  refine LoopP_ofP [0, 1, 5, 6, 7] [38] [(5, 38, 3, 1)] (fun g : Nat × List Int × Int => ⟨[(0, .im (.sl (a.map ic))), (1, .im (.sl (b.map ic))), (5, .vec 38 3 1 (g.2.1.map ic)), (6, .im (.int g.2.2)), (7, .im (.int g.1))], [], [(38, 1, g.2.1.length)]⟩)
    (fun g => g.2.1.length = g.1 ∧ OkD g.2.1 ∧ 0 ≤ g.2.2 ∧ g.2.2 ≤ 1 ∧ val g.2.1 + 1048576 ^ g.1 * g.2.2 = val (a.take g.1) + val (b.take g.1) ∧ g.1 ≤ max a.length b.length + 1 ∧ (max a.length b.length < g.1 → g.2.2 = 0))
    (fun g => max a.length b.length + 1 - g.1) (0, [], 0) ?_ ?_ ⟨rfl, OkD.nil, Int.le_refl _, by decide, rfl, Nat.zero_le _, fun _ => rfl⟩ ?_
  · simp only [go_sem, Int.reduceNegSucc, Nat.reduceAdd, Nat.reduceSub, Nat.reduceMul, Nat.reduceEqDiff, Nat.reduceLeDiff, Nat.reduceLT, Nat.reduceBEq, Nat.reduceBNe, reduceIte, reduceCtorEq, Int.reduceToNat, Int.reduceAdd, Int.reduceSub, Int.reduceMul, Int.reduceNeg, Int.reduceLT, Int.reduceLE, Int.reduceEq, Int.reduceNe, ints, ic]
    simp
  · simp only [Int.natCast_zero, List.map_nil, go_sem, Int.reduceNegSucc, Nat.reduceAdd, Nat.reduceSub, Nat.reduceMul, Nat.reduceEqDiff, Nat.reduceLeDiff, Nat.reduceLT, Nat.reduceBEq, Nat.reduceBNe, reduceIte, reduceCtorEq, Int.reduceToNat, Int.reduceAdd, Int.reduceSub, Int.reduceMul, Int.reduceNeg, Int.reduceLT, Int.reduceLE, Int.reduceEq, Int.reduceNe, ints, ic]
  · intro ⟨i, out, c⟩ ⟨h1, h2, h3, h4, h5, h6, h7⟩
    dsimp only at h1 h2 h3 h4 h5 h6 h7
    obtain ⟨a0, a1⟩ := ha.dgt i
    obtain ⟨b0, b1⟩ := hb.dgt i
    have w1 := i64_ok (n := dgt a i + dgt b i) (by omega)
    have w2 := i64_ok (n := dgt a i + dgt b i + c) (by omega)
    have w3 := i64_ok (n := (i : Int) + 1) (by omega)
    have hm : (dgt a i + dgt b i + c).tmod 1048576 = (dgt a i + dgt b i + c) % 1048576 := Int.tmod_eq_emod_of_nonneg (by omega)
    have hq : IntKind.i64.wrap ((dgt a i + dgt b i + c).tdiv 1048576) = (dgt a i + dgt b i + c) / 1048576 := by
      rw [Int.tdiv_eq_ediv_of_nonneg (by omega)]; exact i64_ok (by omega)
    have nxt : (i < a.length ∨ i < b.length ∨ 0 < c) → (out ++ [(dgt a i + dgt b i + c) % 1048576]).length = i + 1 ∧ OkD (out ++ [(dgt a i + dgt b i + c) % 1048576]) ∧ 0 ≤ (dgt a i + dgt b i + c) / 1048576 ∧ (dgt a i + dgt b i + c) / 1048576 ≤ 1 ∧
        val (out ++ [(dgt a i + dgt b i + c) % 1048576]) + 1048576 ^ (i + 1) * ((dgt a i + dgt b i + c) / 1048576) = val (a.take (i + 1)) + val (b.take (i + 1)) ∧ i + 1 ≤ max a.length b.length + 1 ∧ (max a.length b.length < i + 1 → (dgt a i + dgt b i + c) / 1048576 = 0) := by
      intro hc
      have hi : i ≤ max a.length b.length := by
        rcases Nat.lt_or_ge (max a.length b.length) i with h | h
        · have := h7 h; omega
        · exact h
      refine ⟨by rw [List.length_append, h1]; rfl, h2.append (OkD.cons (by omega) OkD.nil), by omega, by omega, plus_step h1 h5 rfl, by omega, fun h => ?_⟩
      have ea : dgt a i = 0 := dgt_none (by omega)
      have eb : dgt b i = 0 := dgt_none (by omega)
      rw [ea, eb]; omega
    have fin : ¬ i < a.length → ¬ i < b.length → ¬ 0 < c → val out = val a + val b := by
      intro n1 n2 n3
      have hc : c = 0 := by omega
      rw [hc, Int.mul_zero, Int.add_zero, val_take_all (by omega), val_take_all (by omega)] at h5
      exact h5
    simp only [go_sem, Int.reduceNegSucc, Nat.reduceAdd, Nat.reduceSub, Nat.reduceMul, Nat.reduceEqDiff, Nat.reduceLeDiff, Nat.reduceLT, Nat.reduceBEq, Nat.reduceBNe, reduceIte, reduceCtorEq, Int.reduceToNat, Int.reduceAdd, Int.reduceSub, Int.reduceMul, Int.reduceNeg, Int.reduceLT, Int.reduceLE, Int.reduceEq, Int.reduceNe, ints, ic]
    refine Two_of (fun d1 => ?_) (fun d1 => ?_)
    · have hn := nxt (.inl (by have := of_decide_eq_true d1; omega))
      simp only [d1, go_sem, Int.reduceNegSucc, Nat.reduceAdd, Nat.reduceSub, Nat.reduceMul, Nat.reduceEqDiff, Nat.reduceLeDiff, Nat.reduceLT, Nat.reduceBEq, Nat.reduceBNe, reduceIte, reduceCtorEq, Int.reduceToNat, Int.reduceAdd, Int.reduceSub, Int.reduceMul, Int.reduceNeg, Int.reduceLT, Int.reduceLE, Int.reduceEq, Int.reduceNe, ints, ic]
      refine CallP_eq (t_digit a i) (by decide) ?_
      simp only [go_sem, Int.reduceNegSucc, Nat.reduceAdd, Nat.reduceSub, Nat.reduceMul, Nat.reduceEqDiff, Nat.reduceLeDiff, Nat.reduceLT, Nat.reduceBEq, Nat.reduceBNe, reduceIte, reduceCtorEq, Int.reduceToNat, Int.reduceAdd, Int.reduceSub, Int.reduceMul, Int.reduceNeg, Int.reduceLT, Int.reduceLE, Int.reduceEq, Int.reduceNe, ints, ic]
      refine CallP_eq (t_digit b i) (by decide) ?_
      simp only [w1, w2, hm, hq, go_sem, Int.reduceNegSucc, Nat.reduceAdd, Nat.reduceSub, Nat.reduceMul, Nat.reduceEqDiff, Nat.reduceLeDiff, Nat.reduceLT, Nat.reduceBEq, Nat.reduceBNe, reduceIte, reduceCtorEq, Int.reduceToNat, Int.reduceAdd, Int.reduceSub, Int.reduceMul, Int.reduceNeg, Int.reduceLT, Int.reduceLE, Int.reduceEq, Int.reduceNe, ints, ic]
      refine ⟨ic_len _, by simp, by omega, ?_⟩
      refine RoundP_of (i + 1, out ++ [(dgt a i + dgt b i + c) % 1048576], (dgt a i + dgt b i + c) / 1048576) ?_ ?_ hn
      · simp only [w3, hq, Int.natCast_add, List.map_append, List.length_append, go_sem, Int.reduceNegSucc, Nat.reduceAdd, Nat.reduceSub, Nat.reduceMul, Nat.reduceEqDiff, Nat.reduceLeDiff, Nat.reduceLT, Nat.reduceBEq, Nat.reduceBNe, reduceIte, reduceCtorEq, Int.reduceToNat, Int.reduceAdd, Int.reduceSub, Int.reduceMul, Int.reduceNeg, Int.reduceLT, Int.reduceLE, Int.reduceEq, Int.reduceNe, ints, ic]
      · show max a.length b.length + 1 - (i + 1) < max a.length b.length + 1 - i; omega
    · simp only [d1, go_sem, Int.reduceNegSucc, Nat.reduceAdd, Nat.reduceSub, Nat.reduceMul, Nat.reduceEqDiff, Nat.reduceLeDiff, Nat.reduceLT, Nat.reduceBEq, Nat.reduceBNe, reduceIte, reduceCtorEq, Int.reduceToNat, Int.reduceAdd, Int.reduceSub, Int.reduceMul, Int.reduceNeg, Int.reduceLT, Int.reduceLE, Int.reduceEq, Int.reduceNe, ints, ic]
      refine Two_of (fun d2 => ?_) (fun d2 => ?_)
      · have hn := nxt (.inr (.inl (by have := of_decide_eq_true d2; omega)))
        simp only [d1, d2, go_sem, Int.reduceNegSucc, Nat.reduceAdd, Nat.reduceSub, Nat.reduceMul, Nat.reduceEqDiff, Nat.reduceLeDiff, Nat.reduceLT, Nat.reduceBEq, Nat.reduceBNe, reduceIte, reduceCtorEq, Int.reduceToNat, Int.reduceAdd, Int.reduceSub, Int.reduceMul, Int.reduceNeg, Int.reduceLT, Int.reduceLE, Int.reduceEq, Int.reduceNe, ints, ic]
        refine CallP_eq (t_digit a i) (by decide) ?_
        simp only [go_sem, Int.reduceNegSucc, Nat.reduceAdd, Nat.reduceSub, Nat.reduceMul, Nat.reduceEqDiff, Nat.reduceLeDiff, Nat.reduceLT, Nat.reduceBEq, Nat.reduceBNe, reduceIte, reduceCtorEq, Int.reduceToNat, Int.reduceAdd, Int.reduceSub, Int.reduceMul, Int.reduceNeg, Int.reduceLT, Int.reduceLE, Int.reduceEq, Int.reduceNe, ints, ic]
        refine CallP_eq (t_digit b i) (by decide) ?_
        simp only [w1, w2, hm, hq, go_sem, Int.reduceNegSucc, Nat.reduceAdd, Nat.reduceSub, Nat.reduceMul, Nat.reduceEqDiff, Nat.reduceLeDiff, Nat.reduceLT, Nat.reduceBEq, Nat.reduceBNe, reduceIte, reduceCtorEq, Int.reduceToNat, Int.reduceAdd, Int.reduceSub, Int.reduceMul, Int.reduceNeg, Int.reduceLT, Int.reduceLE, Int.reduceEq, Int.reduceNe, ints, ic]
        refine ⟨ic_len _, by simp, by omega, ?_⟩
        refine RoundP_of (i + 1, out ++ [(dgt a i + dgt b i + c) % 1048576], (dgt a i + dgt b i + c) / 1048576) ?_ ?_ hn
        · simp only [w3, hq, Int.natCast_add, List.map_append, List.length_append, go_sem, Int.reduceNegSucc, Nat.reduceAdd, Nat.reduceSub, Nat.reduceMul, Nat.reduceEqDiff, Nat.reduceLeDiff, Nat.reduceLT, Nat.reduceBEq, Nat.reduceBNe, reduceIte, reduceCtorEq, Int.reduceToNat, Int.reduceAdd, Int.reduceSub, Int.reduceMul, Int.reduceNeg, Int.reduceLT, Int.reduceLE, Int.reduceEq, Int.reduceNe, ints, ic]
        · show max a.length b.length + 1 - (i + 1) < max a.length b.length + 1 - i; omega
      · simp only [d1, d2, go_sem, Int.reduceNegSucc, Nat.reduceAdd, Nat.reduceSub, Nat.reduceMul, Nat.reduceEqDiff, Nat.reduceLeDiff, Nat.reduceLT, Nat.reduceBEq, Nat.reduceBNe, reduceIte, reduceCtorEq, Int.reduceToNat, Int.reduceAdd, Int.reduceSub, Int.reduceMul, Int.reduceNeg, Int.reduceLT, Int.reduceLE, Int.reduceEq, Int.reduceNe, ints, ic]
        refine Two_of (fun d3 => ?_) (fun d3 => ?_)
        · have hn := nxt (.inr (.inr (of_decide_eq_true d3)))
          simp only [d1, d2, d3, go_sem, Int.reduceNegSucc, Nat.reduceAdd, Nat.reduceSub, Nat.reduceMul, Nat.reduceEqDiff, Nat.reduceLeDiff, Nat.reduceLT, Nat.reduceBEq, Nat.reduceBNe, reduceIte, reduceCtorEq, Int.reduceToNat, Int.reduceAdd, Int.reduceSub, Int.reduceMul, Int.reduceNeg, Int.reduceLT, Int.reduceLE, Int.reduceEq, Int.reduceNe, ints, ic]
          refine CallP_eq (t_digit a i) (by decide) ?_
          simp only [go_sem, Int.reduceNegSucc, Nat.reduceAdd, Nat.reduceSub, Nat.reduceMul, Nat.reduceEqDiff, Nat.reduceLeDiff, Nat.reduceLT, Nat.reduceBEq, Nat.reduceBNe, reduceIte, reduceCtorEq, Int.reduceToNat, Int.reduceAdd, Int.reduceSub, Int.reduceMul, Int.reduceNeg, Int.reduceLT, Int.reduceLE, Int.reduceEq, Int.reduceNe, ints, ic]
          refine CallP_eq (t_digit b i) (by decide) ?_
          simp only [w1, w2, hm, hq, go_sem, Int.reduceNegSucc, Nat.reduceAdd, Nat.reduceSub, Nat.reduceMul, Nat.reduceEqDiff, Nat.reduceLeDiff, Nat.reduceLT, Nat.reduceBEq, Nat.reduceBNe, reduceIte, reduceCtorEq, Int.reduceToNat, Int.reduceAdd, Int.reduceSub, Int.reduceMul, Int.reduceNeg, Int.reduceLT, Int.reduceLE, Int.reduceEq, Int.reduceNe, ints, ic]
          refine ⟨ic_len _, by simp, by omega, ?_⟩
          refine RoundP_of (i + 1, out ++ [(dgt a i + dgt b i + c) % 1048576], (dgt a i + dgt b i + c) / 1048576) ?_ ?_ hn
          · simp only [w3, hq, Int.natCast_add, List.map_append, List.length_append, go_sem, Int.reduceNegSucc, Nat.reduceAdd, Nat.reduceSub, Nat.reduceMul, Nat.reduceEqDiff, Nat.reduceLeDiff, Nat.reduceLT, Nat.reduceBEq, Nat.reduceBNe, reduceIte, reduceCtorEq, Int.reduceToNat, Int.reduceAdd, Int.reduceSub, Int.reduceMul, Int.reduceNeg, Int.reduceLT, Int.reduceLE, Int.reduceEq, Int.reduceNe, ints, ic]
          · show max a.length b.length + 1 - (i + 1) < max a.length b.length + 1 - i; omega
        · have hv := fin (by have := of_decide_eq_false d1; omega) (by have := of_decide_eq_false d2; omega) (of_decide_eq_false d3)
          have ht := t_trim out h2 (by omega)
          rw [hv] at ht
          simp only [d1, d2, d3, go_sem, Int.reduceNegSucc, Nat.reduceAdd, Nat.reduceSub, Nat.reduceMul, Nat.reduceEqDiff, Nat.reduceLeDiff, Nat.reduceLT, Nat.reduceBEq, Nat.reduceBNe, reduceIte, reduceCtorEq, Int.reduceToNat, Int.reduceAdd, Int.reduceSub, Int.reduceMul, Int.reduceNeg, Int.reduceLT, Int.reduceLE, Int.reduceEq, Int.reduceNe, ints, ic]
          refine CallP_eq ht (by decide) ?_
          simp only [go_sem, Int.reduceNegSucc, Nat.reduceAdd, Nat.reduceSub, Nat.reduceMul, Nat.reduceEqDiff, Nat.reduceLeDiff, Nat.reduceLT, Nat.reduceBEq, Nat.reduceBNe, reduceIte, reduceCtorEq, Int.reduceToNat, Int.reduceAdd, Int.reduceSub, Int.reduceMul, Int.reduceNeg, Int.reduceLT, Int.reduceLE, Int.reduceEq, Int.reduceNe, ints, ic]
end Go.Proofs.Ytpnlfkaijdjhlaa

namespace Go.Proofs.Ytpnlfkaijdjhlaa
set_option linter.all false
open Go.Abs

theorem lt_dgt {a b : List Int} (ha : OkD a) (hb : OkD b) {m : Nat} (h : ∀ j, m < j → dgt a j = dgt b j) (hne : dgt a m ≠ dgt b m) : decide (dgt a m < dgt b m) = decide (val a < val b) := by
  rcases Int.lt_or_gt_of_ne hne with h1 | h1
  · have := lt_at ha hb m h h1
    simp [h1, this]
  · have := lt_at hb ha m (fun j hj => (h j hj).symm) h1
    rw [decide_eq_false (by omega), decide_eq_false (by omega)]
set_option maxRecDepth 100000 in
set_option maxHeartbeats 1000000 in
theorem t_less (a b : List Int) (ha : OkD a) (hb : OkD b) (la : a.length ≤ 1000000) (lb : b.length ≤ 1000000) : Ctr G.P 64 [ints a, ints b] (· = .bool (decide (val a < val b))) := by
  have hmx : max (a.length : Int) (b.length : Int) = ((max a.length b.length : Nat) : Int) := by omega
  have hw := i64_ok (n := ((max a.length b.length : Nat) : Int) - 1) (by omega)
  refine ctr_go good _ _ [.tmp 4] Try.func64 rfl rfl (by decide +kernel) rfl ?_
  simp only [hmx, hw, go_sem, Int.reduceNegSucc, Nat.reduceAdd, Nat.reduceSub, Nat.reduceMul, Nat.reduceEqDiff, Nat.reduceLeDiff, Nat.reduceLT, Nat.reduceBEq, Nat.reduceBNe, reduceIte, reduceCtorEq, Int.reduceToNat, Int.reduceAdd, Int.reduceSub, Int.reduceMul, Int.reduceNeg, Int.reduceLT, Int.reduceLE, Int.reduceEq, Int.reduceNe, ints, ic]
  refine LoopP_of [0, 1, 5] [] (fun n : Nat => ⟨[(0, .im (.sl (a.map ic))), (1, .im (.sl (b.map ic))), (5, .im (.int ((n : Int) - 1)))], [], []⟩) (fun n => n ≤ max a.length b.length ∧ ∀ j, n ≤ j → dgt a j = dgt b j) (fun n => n) (max a.length b.length) ?_
    ⟨Nat.le_refl _, fun j hj => by rw [dgt_none (by omega), dgt_none (by omega)]⟩ ?_
  · simp only [hmx, hw, go_sem, Int.reduceNegSucc, Nat.reduceAdd, Nat.reduceSub, Nat.reduceMul, Nat.reduceEqDiff, Nat.reduceLeDiff, Nat.reduceLT, Nat.reduceBEq, Nat.reduceBNe, reduceIte, reduceCtorEq, Int.reduceToNat, Int.reduceAdd, Int.reduceSub, Int.reduceMul, Int.reduceNeg, Int.reduceLT, Int.reduceLE, Int.reduceEq, Int.reduceNe, ints, ic]
  · intro n ⟨hn, hz⟩
    rcases n with _ | m
    · have hd : decide ((0 : Int) ≤ ((0 : Nat) : Int) - 1) = false := by decide
      have hv : val a = val b := same_val fun j => hz j (Nat.zero_le _)
      have hv' : decide (val a < val b) = false := decide_eq_false (by omega)
      rw [hv']
      simp only [hd, go_sem, Int.reduceNegSucc, Nat.reduceAdd, Nat.reduceSub, Nat.reduceMul, Nat.reduceEqDiff, Nat.reduceLeDiff, Nat.reduceLT, Nat.reduceBEq, Nat.reduceBNe, reduceIte, reduceCtorEq, Int.reduceToNat, Int.reduceAdd, Int.reduceSub, Int.reduceMul, Int.reduceNeg, Int.reduceLT, Int.reduceLE, Int.reduceEq, Int.reduceNe, ints, ic]
    · have h2 : ((m + 1 : Nat) : Int) - 1 = m := by omega
      have hd : decide ((0 : Int) ≤ (m : Int)) = true := decide_eq_true (by omega)
      have h3 := i64_ok (n := (m : Int) - 1) (by omega)
      simp only [h2, hd, go_sem, Int.reduceNegSucc, Nat.reduceAdd, Nat.reduceSub, Nat.reduceMul, Nat.reduceEqDiff, Nat.reduceLeDiff, Nat.reduceLT, Nat.reduceBEq, Nat.reduceBNe, reduceIte, reduceCtorEq, Int.reduceToNat, Int.reduceAdd, Int.reduceSub, Int.reduceMul, Int.reduceNeg, Int.reduceLT, Int.reduceLE, Int.reduceEq, Int.reduceNe, ints, ic]
      refine CallP_eq (t_digit a m) (by decide) ?_
      simp only [h2, go_sem, Int.reduceNegSucc, Nat.reduceAdd, Nat.reduceSub, Nat.reduceMul, Nat.reduceEqDiff, Nat.reduceLeDiff, Nat.reduceLT, Nat.reduceBEq, Nat.reduceBNe, reduceIte, reduceCtorEq, Int.reduceToNat, Int.reduceAdd, Int.reduceSub, Int.reduceMul, Int.reduceNeg, Int.reduceLT, Int.reduceLE, Int.reduceEq, Int.reduceNe, ints, ic]
      refine CallP_eq (t_digit b m) (by decide) ?_
      simp only [h2, go_sem, Int.reduceNegSucc, Nat.reduceAdd, Nat.reduceSub, Nat.reduceMul, Nat.reduceEqDiff, Nat.reduceLeDiff, Nat.reduceLT, Nat.reduceBEq, Nat.reduceBNe, reduceIte, reduceCtorEq, Int.reduceToNat, Int.reduceAdd, Int.reduceSub, Int.reduceMul, Int.reduceNeg, Int.reduceLT, Int.reduceLE, Int.reduceEq, Int.reduceNe, ints, ic]
      refine Two_dec (fun he he' => ?_) (fun he he' => ?_)
      · simp only [h2, go_sem, Int.reduceNegSucc, Nat.reduceAdd, Nat.reduceSub, Nat.reduceMul, Nat.reduceEqDiff, Nat.reduceLeDiff, Nat.reduceLT, Nat.reduceBEq, Nat.reduceBNe, reduceIte, reduceCtorEq, Int.reduceToNat, Int.reduceAdd, Int.reduceSub, Int.reduceMul, Int.reduceNeg, Int.reduceLT, Int.reduceLE, Int.reduceEq, Int.reduceNe, ints, ic]
        refine RoundP_of m ?_ (by omega) ⟨by omega, fun j hj => ?_⟩
        · simp only [h2, h3, go_sem, Int.reduceNegSucc, Nat.reduceAdd, Nat.reduceSub, Nat.reduceMul, Nat.reduceEqDiff, Nat.reduceLeDiff, Nat.reduceLT, Nat.reduceBEq, Nat.reduceBNe, reduceIte, reduceCtorEq, Int.reduceToNat, Int.reduceAdd, Int.reduceSub, Int.reduceMul, Int.reduceNeg, Int.reduceLT, Int.reduceLE, Int.reduceEq, Int.reduceNe, ints, ic]
        · rcases Nat.lt_or_ge m j with h | h
          · exact hz j h
          · rw [show j = m by omega]; exact he'
      · have hlt := lt_dgt ha hb (m := m) (fun j hj => hz j hj) he'
        simp only [h2, go_sem, Int.reduceNegSucc, Nat.reduceAdd, Nat.reduceSub, Nat.reduceMul, Nat.reduceEqDiff, Nat.reduceLeDiff, Nat.reduceLT, Nat.reduceBEq, Nat.reduceBNe, reduceIte, reduceCtorEq, Int.reduceToNat, Int.reduceAdd, Int.reduceSub, Int.reduceMul, Int.reduceNeg, Int.reduceLT, Int.reduceLE, Int.reduceEq, Int.reduceNe, ints, ic]
        refine CallP_eq (t_digit a m) (by decide) ?_
        simp only [h2, go_sem, Int.reduceNegSucc, Nat.reduceAdd, Nat.reduceSub, Nat.reduceMul, Nat.reduceEqDiff, Nat.reduceLeDiff, Nat.reduceLT, Nat.reduceBEq, Nat.reduceBNe, reduceIte, reduceCtorEq, Int.reduceToNat, Int.reduceAdd, Int.reduceSub, Int.reduceMul, Int.reduceNeg, Int.reduceLT, Int.reduceLE, Int.reduceEq, Int.reduceNe, ints, ic]
        refine CallP_eq (t_digit b m) (by decide) ?_
        simp only [hlt, go_sem, Int.reduceNegSucc, Nat.reduceAdd, Nat.reduceSub, Nat.reduceMul, Nat.reduceEqDiff, Nat.reduceLeDiff, Nat.reduceLT, Nat.reduceBEq, Nat.reduceBNe, reduceIte, reduceCtorEq, Int.reduceToNat, Int.reduceAdd, Int.reduceSub, Int.reduceMul, Int.reduceNeg, Int.reduceLT, Int.reduceLE, Int.reduceEq, Int.reduceNe, ints, ic]
set_option maxRecDepth 100000 in
set_option maxHeartbeats 1000000 in
theorem t_minus (a b : List Int) (ha : OkD a) (hb : OkD b) (hab : val b ≤ val a) (la : a.length ≤ 100000) (lb : b.length ≤ 1000000) : Ctr G.P 76 [ints a, ints b] (· = ints (dig (val a - val b).toNat)) := by
  refine ctr_go good _ _ [.tmp 4] Try.func76 rfl rfl (by decide +kernel) rfl ?_
  simp only [go_sem, Int.reduceNegSucc, Nat.reduceAdd, Nat.reduceSub, Nat.reduceMul, Nat.reduceEqDiff, Nat.reduceLeDiff, Nat.reduceLT, Nat.reduceBEq, Nat.reduceBNe, reduceIte, reduceCtorEq, Int.reduceToNat, Int.reduceAdd, Int.reduceSub, Int.reduceMul, Int.reduceNeg, Int.reduceLT, Int.reduceLE, Int.reduceEq, Int.reduceNe, ints, ic]
  refine LoopP_ofP [0, 1, 5, 6, 7] [32] [(5, 32, 3, 1)] (fun g : Nat × List Int × Int => ⟨[(0, .im (.sl (a.map ic))), (1, .im (.sl (b.map ic))), (5, .vec 32 3 1 (g.2.1.map ic)), (6, .im (.int g.2.2)), (7, .im (.int g.1))], [], [(32, 1, g.2.1.length)]⟩)
    (fun g => g.2.1.length = g.1 ∧ OkD g.2.1 ∧ 0 ≤ g.2.2 ∧ g.2.2 ≤ 1 ∧ val g.2.1 - 1048576 ^ g.1 * g.2.2 = val (a.take g.1) - val (b.take g.1) ∧ g.1 ≤ a.length)
    (fun g => a.length - g.1) (0, [], 0) ?_ ?_ ⟨rfl, OkD.nil, Int.le_refl _, by decide, rfl, Nat.zero_le _⟩ ?_
  · simp only [go_sem, Int.reduceNegSucc, Nat.reduceAdd, Nat.reduceSub, Nat.reduceMul, Nat.reduceEqDiff, Nat.reduceLeDiff, Nat.reduceLT, Nat.reduceBEq, Nat.reduceBNe, reduceIte, reduceCtorEq, Int.reduceToNat, Int.reduceAdd, Int.reduceSub, Int.reduceMul, Int.reduceNeg, Int.reduceLT, Int.reduceLE, Int.reduceEq, Int.reduceNe, ints, ic]
    simp
  · simp only [Int.natCast_zero, List.map_nil, go_sem, Int.reduceNegSucc, Nat.reduceAdd, Nat.reduceSub, Nat.reduceMul, Nat.reduceEqDiff, Nat.reduceLeDiff, Nat.reduceLT, Nat.reduceBEq, Nat.reduceBNe, reduceIte, reduceCtorEq, Int.reduceToNat, Int.reduceAdd, Int.reduceSub, Int.reduceMul, Int.reduceNeg, Int.reduceLT, Int.reduceLE, Int.reduceEq, Int.reduceNe, ints, ic]
  · intro ⟨i, out, c⟩ ⟨h1, h2, h3, h4, h5, h6⟩
    dsimp only at h1 h2 h3 h4 h5 h6
    by_cases hp : (i : Int) < a.length
    · have hd : decide ((i : Int) < a.length) = true := decide_eq_true hp
      have hx := get_nat hp
      obtain ⟨a0, a1⟩ := ha.dgt i
      obtain ⟨b0, b1⟩ := hb.dgt i
      have w1 := i64_ok (n := dgt a i - dgt b i) (by omega)
      have w2 := i64_ok (n := dgt a i - dgt b i - c) (by omega)
      have w3 := i64_ok (n := (i : Int) + 1) (by omega)
      have w4 := i64_ok (n := dgt a i - dgt b i - c + 1048576) (by omega)
      simp only [hd, go_sem, Int.reduceNegSucc, Nat.reduceAdd, Nat.reduceSub, Nat.reduceMul, Nat.reduceEqDiff, Nat.reduceLeDiff, Nat.reduceLT, Nat.reduceBEq, Nat.reduceBNe, reduceIte, reduceCtorEq, Int.reduceToNat, Int.reduceAdd, Int.reduceSub, Int.reduceMul, Int.reduceNeg, Int.reduceLT, Int.reduceLE, Int.reduceEq, Int.reduceNe, ints, ic]
      refine DrawP_of 11 (by decide +kernel) ?_
      simp only [hd, List.getElem?_map, hx, go_sem, Int.reduceNegSucc, Nat.reduceAdd, Nat.reduceSub, Nat.reduceMul, Nat.reduceEqDiff, Nat.reduceLeDiff, Nat.reduceLT, Nat.reduceBEq, Nat.reduceBNe, reduceIte, reduceCtorEq, Int.reduceToNat, Int.reduceAdd, Int.reduceSub, Int.reduceMul, Int.reduceNeg, Int.reduceLT, Int.reduceLE, Int.reduceEq, Int.reduceNe, ints, ic]
      refine CallD_eq (t_digit b i) (by decide) ?_
      simp only [w1, w2, go_sem, Int.reduceNegSucc, Nat.reduceAdd, Nat.reduceSub, Nat.reduceMul, Nat.reduceEqDiff, Nat.reduceLeDiff, Nat.reduceLT, Nat.reduceBEq, Nat.reduceBNe, reduceIte, reduceCtorEq, Int.reduceToNat, Int.reduceAdd, Int.reduceSub, Int.reduceMul, Int.reduceNeg, Int.reduceLT, Int.reduceLE, Int.reduceEq, Int.reduceNe, ints, ic]
      refine Two_dec (fun he he' => ?_) (fun he he' => ?_)
      · have hs := minus_step (c' := 1) (d := dgt a i - dgt b i - c + 1048576) h1 h5 rfl (by omega)
        simp only [he, w4, go_sem, Int.reduceNegSucc, Nat.reduceAdd, Nat.reduceSub, Nat.reduceMul, Nat.reduceEqDiff, Nat.reduceLeDiff, Nat.reduceLT, Nat.reduceBEq, Nat.reduceBNe, reduceIte, reduceCtorEq, Int.reduceToNat, Int.reduceAdd, Int.reduceSub, Int.reduceMul, Int.reduceNeg, Int.reduceLT, Int.reduceLE, Int.reduceEq, Int.reduceNe, ints, ic]
        refine ⟨ic_len _, by simp, by omega, ?_⟩
        refine RoundP_of (i + 1, out ++ [dgt a i - dgt b i - c + 1048576], 1) ?_ ?_ ⟨?_, ?_, ?_, ?_, hs, ?_⟩
        · simp only [w3, Int.natCast_add, List.map_append, List.length_append, go_sem, Int.reduceNegSucc, Nat.reduceAdd, Nat.reduceSub, Nat.reduceMul, Nat.reduceEqDiff, Nat.reduceLeDiff, Nat.reduceLT, Nat.reduceBEq, Nat.reduceBNe, reduceIte, reduceCtorEq, Int.reduceToNat, Int.reduceAdd, Int.reduceSub, Int.reduceMul, Int.reduceNeg, Int.reduceLT, Int.reduceLE, Int.reduceEq, Int.reduceNe, ints, ic]
        · show a.length - (i + 1) < a.length - i; omega
        · show (out ++ [_]).length = i + 1; rw [List.length_append, h1]; rfl
        · exact h2.append (OkD.cons (by omega) OkD.nil)
        · dsimp only; omega
        · dsimp only; omega
        · show i + 1 ≤ a.length; omega
      · have hs := minus_step (c' := 0) (d := dgt a i - dgt b i - c) h1 h5 rfl (by omega)
        simp only [he, go_sem, Int.reduceNegSucc, Nat.reduceAdd, Nat.reduceSub, Nat.reduceMul, Nat.reduceEqDiff, Nat.reduceLeDiff, Nat.reduceLT, Nat.reduceBEq, Nat.reduceBNe, reduceIte, reduceCtorEq, Int.reduceToNat, Int.reduceAdd, Int.reduceSub, Int.reduceMul, Int.reduceNeg, Int.reduceLT, Int.reduceLE, Int.reduceEq, Int.reduceNe, ints, ic]
        refine ⟨ic_len _, by simp, by omega, ?_⟩
        refine RoundP_of (i + 1, out ++ [dgt a i - dgt b i - c], 0) ?_ ?_ ⟨?_, ?_, ?_, ?_, hs, ?_⟩
        · simp only [w3, Int.natCast_add, List.map_append, List.length_append, go_sem, Int.reduceNegSucc, Nat.reduceAdd, Nat.reduceSub, Nat.reduceMul, Nat.reduceEqDiff, Nat.reduceLeDiff, Nat.reduceLT, Nat.reduceBEq, Nat.reduceBNe, reduceIte, reduceCtorEq, Int.reduceToNat, Int.reduceAdd, Int.reduceSub, Int.reduceMul, Int.reduceNeg, Int.reduceLT, Int.reduceLE, Int.reduceEq, Int.reduceNe, ints, ic]
        · show a.length - (i + 1) < a.length - i; omega
        · show (out ++ [_]).length = i + 1; rw [List.length_append, h1]; rfl
        · exact h2.append (OkD.cons (by omega) OkD.nil)
        · dsimp only; omega
        · dsimp only; omega
        · show i + 1 ≤ a.length; omega
    · have hd : decide ((i : Int) < a.length) = false := decide_eq_false hp
      have hi : i = a.length := by omega
      have hv : val out = val a - val b := by
        have e1 := val_lt ha
        have e2 := val_lt h2
        have e3 := val_nonneg h2
        rw [h1] at e2
        rw [hi] at h5 e2
        rw [take_of_lt ha e1, take_of_lt hb (by omega)] at h5
        generalize (1048576 : Int) ^ a.length = p at *
        have hc : c = 0 ∨ c = 1 := by omega
        rcases hc with rfl | rfl <;> omega
      have ht := t_trim out h2 (by omega)
      rw [hv] at ht
      simp only [hd, go_sem, Int.reduceNegSucc, Nat.reduceAdd, Nat.reduceSub, Nat.reduceMul, Nat.reduceEqDiff, Nat.reduceLeDiff, Nat.reduceLT, Nat.reduceBEq, Nat.reduceBNe, reduceIte, reduceCtorEq, Int.reduceToNat, Int.reduceAdd, Int.reduceSub, Int.reduceMul, Int.reduceNeg, Int.reduceLT, Int.reduceLE, Int.reduceEq, Int.reduceNe, ints, ic]
      refine CallP_eq ht (by decide) ?_
      simp only [go_sem, Int.reduceNegSucc, Nat.reduceAdd, Nat.reduceSub, Nat.reduceMul, Nat.reduceEqDiff, Nat.reduceLeDiff, Nat.reduceLT, Nat.reduceBEq, Nat.reduceBNe, reduceIte, reduceCtorEq, Int.reduceToNat, Int.reduceAdd, Int.reduceSub, Int.reduceMul, Int.reduceNeg, Int.reduceLT, Int.reduceLE, Int.reduceEq, Int.reduceNe, ints, ic]
set_option maxHeartbeats 1000000 in
theorem t_made (s : Int) (l : List Int) (hl : OkD l) (ll : l.length ≤ 1000000) : Ctr G.P 61 [.int s, ints l] (· = .agg [.int (if val l = 0 then 0 else s), ints (dig (val l).toNat)]) := by
  have ht := t_trim l hl ll
  have h0 := val_nonneg hl
  by_cases hv : val l = 0
  · rw [hv] at ht
    rw [show dig (0 : Int).toNat = [] from dig_zero] at ht
    rw [if_pos hv, hv, show dig (0 : Int).toNat = [] from dig_zero]
    refine ctr_go good _ _ [.cell 4 47] Try.func61 rfl rfl (by decide +kernel) rfl ?_
    simp only [go_sem, Int.reduceNegSucc, Nat.reduceAdd, Nat.reduceSub, Nat.reduceMul, Nat.reduceEqDiff, Nat.reduceLeDiff, Nat.reduceLT, Nat.reduceBEq, Nat.reduceBNe, reduceIte, reduceCtorEq, Int.reduceToNat, Int.reduceAdd, Int.reduceSub, Int.reduceMul, Int.reduceNeg, Int.reduceLT, Int.reduceLE, Int.reduceEq, Int.reduceNe, ints, ic]
    refine CallP_eq ht (by decide) ?_
    simp only [go_sem, Int.reduceNegSucc, Nat.reduceAdd, Nat.reduceSub, Nat.reduceMul, Nat.reduceEqDiff, Nat.reduceLeDiff, Nat.reduceLT, Nat.reduceBEq, Nat.reduceBNe, reduceIte, reduceCtorEq, Int.reduceToNat, Int.reduceAdd, Int.reduceSub, Int.reduceMul, Int.reduceNeg, Int.reduceLT, Int.reduceLE, Int.reduceEq, Int.reduceNe, ints, ic]
  · rw [if_neg hv]
    have hn : dig (val l).toNat ≠ [] := fun h => by rw [dig_nil] at h; omega
    generalize dig (val l).toNat = d at *
    have hd : decide ((d.length : Int) = 0) = false := decide_eq_false (by
      have := List.length_pos_iff.2 hn; omega)
    refine ctr_go good _ _ [.cell 4 47] Try.func61 rfl rfl (by decide +kernel) rfl ?_
    simp only [go_sem, Int.reduceNegSucc, Nat.reduceAdd, Nat.reduceSub, Nat.reduceMul, Nat.reduceEqDiff, Nat.reduceLeDiff, Nat.reduceLT, Nat.reduceBEq, Nat.reduceBNe, reduceIte, reduceCtorEq, Int.reduceToNat, Int.reduceAdd, Int.reduceSub, Int.reduceMul, Int.reduceNeg, Int.reduceLT, Int.reduceLE, Int.reduceEq, Int.reduceNe, ints, ic]
    refine CallP_eq ht (by decide) ?_
    simp only [hd, go_sem, Int.reduceNegSucc, Nat.reduceAdd, Nat.reduceSub, Nat.reduceMul, Nat.reduceEqDiff, Nat.reduceLeDiff, Nat.reduceLT, Nat.reduceBEq, Nat.reduceBNe, reduceIte, reduceCtorEq, Int.reduceToNat, Int.reduceAdd, Int.reduceSub, Int.reduceMul, Int.reduceNeg, Int.reduceLT, Int.reduceLE, Int.reduceEq, Int.reduceNe, ints, ic]
end Go.Proofs.Ytpnlfkaijdjhlaa

namespace Go.Proofs.Ytpnlfkaijdjhlaa
set_option linter.all false
open Go.Abs

set_option maxRecDepth 100000 in
set_option maxHeartbeats 2000000 in
theorem t_times (a b : List Int) (ha : OkD a) (hb : OkD b) (la : a.length ≤ 100000) (lb : b.length ≤ 100000) : Ctr G.P 62 [ints a, ints b] (· = ints (dig (val a * val b).toNat)) := by
  have hw := i64_ok (n := (a.length : Int) + b.length) (by omega)
  have ht : ((a.length : Int) + b.length).toNat = a.length + b.length := by omega
  have h0 : (0 : Int) ≤ (a.length : Int) + b.length := by omega
  have hb8 : ((a.length : Int) + b.length) * 8 ≤ 140737488355328 := by omega
  refine ctr_go good _ _ [.tmp 4] Try.func62 rfl rfl (by decide +kernel) rfl ?_
  simp only [hw, ht, h0, hb8, go_sem, Int.reduceNegSucc, Nat.reduceAdd, Nat.reduceSub, Nat.reduceMul, Nat.reduceEqDiff, Nat.reduceLeDiff, Nat.reduceLT, Nat.reduceBEq, Nat.reduceBNe, reduceIte, reduceCtorEq, Int.reduceToNat, Int.reduceAdd, Int.reduceSub, Int.reduceMul, Int.reduceNeg, Int.reduceLT, Int.reduceLE, Int.reduceEq, Int.reduceNe, ints, ic]
  refine LoopP_of [0, 1, 5, 6] [15] (fun g : Nat × List Int => ⟨[(0, .im (.sl (a.map ic))), (1, .im (.sl (b.map ic))), (5, .osl 15 1 0 (a.length + b.length)), (6, .im (.int g.1))], [(15, 1, g.2.map ic)], []⟩)
    (fun g => g.1 ≤ a.length ∧ g.2.length = a.length + b.length ∧ OkD g.2 ∧ val g.2 = val (a.take g.1) * val b) (fun g => a.length - g.1) (0, List.replicate (a.length + b.length) 0) ?_
    ⟨Nat.zero_le _, List.length_replicate, OkD.replicate _, by dsimp only; rw [val_replicate]; simp [val]⟩ ?_
  · simp only [Int.natCast_zero, List.map_replicate, List.length_replicate, go_sem, Int.reduceNegSucc, Nat.reduceAdd, Nat.reduceSub, Nat.reduceMul, Nat.reduceEqDiff, Nat.reduceLeDiff, Nat.reduceLT, Nat.reduceBEq, Nat.reduceBNe, reduceIte, reduceCtorEq, Int.reduceToNat, Int.reduceAdd, Int.reduceSub, Int.reduceMul, Int.reduceNeg, Int.reduceLT, Int.reduceLE, Int.reduceEq, Int.reduceNe, ints, ic]
  · intro ⟨i, out0⟩ ⟨hi, hl0, ho0, hv0⟩
    dsimp only at hi hl0 ho0 hv0
    by_cases hp : (i : Int) < a.length
    · have hd : decide ((i : Int) < a.length) = true := decide_eq_true hp
      have hx := get_nat hp
      have h1 := i64_ok (n := (i : Int) + 1) (by omega)
      simp only [hd, go_sem, Int.reduceNegSucc, Nat.reduceAdd, Nat.reduceSub, Nat.reduceMul, Nat.reduceEqDiff, Nat.reduceLeDiff, Nat.reduceLT, Nat.reduceBEq, Nat.reduceBNe, reduceIte, reduceCtorEq, Int.reduceToNat, Int.reduceAdd, Int.reduceSub, Int.reduceMul, Int.reduceNeg, Int.reduceLT, Int.reduceLE, Int.reduceEq, Int.reduceNe, ints, ic]
      refine LoopP_of [0, 1, 5, 6, 7, 8] [15] (fun g : Nat × List Int × Int => ⟨[(0, .im (.sl (a.map ic))), (1, .im (.sl (b.map ic))), (5, .osl 15 1 0 (a.length + b.length)), (6, .im (.int i)), (7, .im (.int g.2.2)), (8, .im (.int g.1))], [(15, 1, g.2.1.map ic)], []⟩)
        (fun g => g.1 ≤ b.length + 1 ∧ g.2.1.length = a.length + b.length ∧ OkD g.2.1 ∧ 0 ≤ g.2.2 ∧ g.2.2 < 1048576 ∧ (b.length < g.1 → g.2.2 = 0) ∧ val g.2.1 + 1048576 ^ (i + g.1) * g.2.2 = val (a.take i) * val b + 1048576 ^ i * (dgt a i * val (b.take g.1)))
        (fun g => b.length + 1 - g.1) (0, out0, 0) ?_ ⟨Nat.zero_le _, hl0, ho0, Int.le_refl _, by dsimp only; omega, fun _ => rfl, by dsimp only; rw [List.take_zero, hv0]; simp [val]⟩ ?_
      · simp only [Int.natCast_zero, go_sem, Int.reduceNegSucc, Nat.reduceAdd, Nat.reduceSub, Nat.reduceMul, Nat.reduceEqDiff, Nat.reduceLeDiff, Nat.reduceLT, Nat.reduceBEq, Nat.reduceBNe, reduceIte, reduceCtorEq, Int.reduceToNat, Int.reduceAdd, Int.reduceSub, Int.reduceMul, Int.reduceNeg, Int.reduceLT, Int.reduceLE, Int.reduceEq, Int.reduceNe, ints, ic]
      · intro ⟨k, out, c⟩ ⟨hk, hl, ho, hc0, hc1, hcl, hv⟩
        dsimp only at hk hl ho hc0 hc1 hcl hv
        have hda := ha.dgt i
        have hdb := hb.dgt k
        have hdo := ho.dgt (i + k)
        have hmul := mul_lt_sq hda hdb
        have w1 := i64_ok (n := (i : Int) + k) (by omega)
        have w2 := i64_ok (n := dgt a i * dgt b k) (by omega)
        have w3 := i64_ok (n := dgt out (i + k) + dgt a i * dgt b k) (by omega)
        have w4 := i64_ok (n := dgt out (i + k) + dgt a i * dgt b k + c) (by omega)
        have w5 := i64_ok (n := (k : Int) + 1) (by omega)
        have hjn : ((i : Int) + k).toNat = i + k := by omega
        have hj0 : (0 : Int) ≤ (i : Int) + k := by omega
        have hm : (dgt out (i + k) + dgt a i * dgt b k + c).tmod 1048576 = (dgt out (i + k) + dgt a i * dgt b k + c) % 1048576 := Int.tmod_eq_emod_of_nonneg (by omega)
        have hq : IntKind.i64.wrap ((dgt out (i + k) + dgt a i * dgt b k + c).tdiv 1048576) = (dgt out (i + k) + dgt a i * dgt b k + c) / 1048576 := by
          rw [Int.tdiv_eq_ediv_of_nonneg (by omega)]; exact i64_ok (by omega)
        have nxt : (k < b.length ∨ 0 < c) → k + 1 ≤ b.length + 1 ∧ (out.set (i + k) ((dgt out (i + k) + dgt a i * dgt b k + c) % 1048576)).length = a.length + b.length ∧ OkD (out.set (i + k) ((dgt out (i + k) + dgt a i * dgt b k + c) % 1048576)) ∧
            0 ≤ (dgt out (i + k) + dgt a i * dgt b k + c) / 1048576 ∧ (dgt out (i + k) + dgt a i * dgt b k + c) / 1048576 < 1048576 ∧ (b.length < k + 1 → (dgt out (i + k) + dgt a i * dgt b k + c) / 1048576 = 0) ∧
            val (out.set (i + k) ((dgt out (i + k) + dgt a i * dgt b k + c) % 1048576)) + 1048576 ^ (i + (k + 1)) * ((dgt out (i + k) + dgt a i * dgt b k + c) / 1048576) = val (a.take i) * val b + 1048576 ^ i * (dgt a i * val (b.take (k + 1))) := by
          intro hcc
          have hkb : k ≤ b.length := by
            rcases Nat.lt_or_ge b.length k with h | h
            · have := hcl h; omega
            · exact h
          have hs := times_step (out := out) (b := b) (j := i + k) (i := i) (k := k) (c := c) (x := dgt a i) (V := val (a.take i) * val b) rfl (by omega) hv rfl
          have hok : OkD (out.set (i + k) ((dgt out (i + k) + dgt a i * dgt b k + c) % 1048576)) := ho.set (by omega)
          refine ⟨by omega, by rw [List.length_set]; exact hl, hok, by omega, by omega, fun h => ?_, hs⟩
          have hkk : k = b.length := by omega
          have hs' := hs
          rw [val_take_all (l := b) (i := k + 1) (by omega)] at hs'
          exact times_last ha hb hda (val_nonneg hok) (by omega) (by rw [← hkk]; exact hs')
        by_cases hkl : (k : Int) < b.length
        · have hn : k < b.length ∨ 0 < c := .inl (by omega)
          have d1 : decide ((k : Int) < b.length) = true := decide_eq_true hkl
          have hjl : (i : Int) + k < ((a.length + b.length : Nat) : Int) := by omega
          have hy : out[i + k]? = some (dgt out (i + k)) := get_nat (by omega)
          simp only [d1, go_sem, Int.reduceNegSucc, Nat.reduceAdd, Nat.reduceSub, Nat.reduceMul, Nat.reduceEqDiff, Nat.reduceLeDiff, Nat.reduceLT, Nat.reduceBEq, Nat.reduceBNe, reduceIte, reduceCtorEq, Int.reduceToNat, Int.reduceAdd, Int.reduceSub, Int.reduceMul, Int.reduceNeg, Int.reduceLT, Int.reduceLE, Int.reduceEq, Int.reduceNe, ints, ic]
          refine DrawP_of 18 (by decide +kernel) ?_
          simp only [w1, List.getElem?_map, hx, hy, hjn, hj0, hjl, go_sem, Int.reduceNegSucc, Nat.reduceAdd, Nat.reduceSub, Nat.reduceMul, Nat.reduceEqDiff, Nat.reduceLeDiff, Nat.reduceLT, Nat.reduceBEq, Nat.reduceBNe, reduceIte, reduceCtorEq, Int.reduceToNat, Int.reduceAdd, Int.reduceSub, Int.reduceMul, Int.reduceNeg, Int.reduceLT, Int.reduceLE, Int.reduceEq, Int.reduceNe, ints, ic]
          refine CallD_eq (t_digit b k) (by decide) ?_
          simp only [w2, w3, w4, go_sem, Int.reduceNegSucc, Nat.reduceAdd, Nat.reduceSub, Nat.reduceMul, Nat.reduceEqDiff, Nat.reduceLeDiff, Nat.reduceLT, Nat.reduceBEq, Nat.reduceBNe, reduceIte, reduceCtorEq, Int.reduceToNat, Int.reduceAdd, Int.reduceSub, Int.reduceMul, Int.reduceNeg, Int.reduceLT, Int.reduceLE, Int.reduceEq, Int.reduceNe, ints, ic]
          simp only [w1, hjn, hj0, hjl, List.getElem?_map, hy, hm, hq, ← List.map_set, go_sem, Int.reduceNegSucc, Nat.reduceAdd, Nat.reduceSub, Nat.reduceMul, Nat.reduceEqDiff, Nat.reduceLeDiff, Nat.reduceLT, Nat.reduceBEq, Nat.reduceBNe, reduceIte, reduceCtorEq, Int.reduceToNat, Int.reduceAdd, Int.reduceSub, Int.reduceMul, Int.reduceNeg, Int.reduceLT, Int.reduceLE, Int.reduceEq, Int.reduceNe, ints, ic]
          refine RoundP_of (k + 1, out.set (i + k) ((dgt out (i + k) + dgt a i * dgt b k + c) % 1048576), (dgt out (i + k) + dgt a i * dgt b k + c) / 1048576) ?_ ?_ (nxt hn)
          · simp only [w5, Int.natCast_add, List.map_set, go_sem, Int.reduceNegSucc, Nat.reduceAdd, Nat.reduceSub, Nat.reduceMul, Nat.reduceEqDiff, Nat.reduceLeDiff, Nat.reduceLT, Nat.reduceBEq, Nat.reduceBNe, reduceIte, reduceCtorEq, Int.reduceToNat, Int.reduceAdd, Int.reduceSub, Int.reduceMul, Int.reduceNeg, Int.reduceLT, Int.reduceLE, Int.reduceEq, Int.reduceNe, ints, ic]
          · show b.length + 1 - (k + 1) < b.length + 1 - k; omega
        · have d1 : decide ((k : Int) < b.length) = false := decide_eq_false hkl
          by_cases hcp : 0 < c
          · have hn : k < b.length ∨ 0 < c := .inr hcp
            have d2 : decide (0 < c) = true := decide_eq_true hcp
            have hkb : k ≤ b.length := by
              rcases Nat.lt_or_ge b.length k with h | h
              · have := hcl h; omega
              · exact h
            have hjl : (i : Int) + k < ((a.length + b.length : Nat) : Int) := by omega
            have hy : out[i + k]? = some (dgt out (i + k)) := get_nat (by omega)
            simp only [d1, d2, go_sem, Int.reduceNegSucc, Nat.reduceAdd, Nat.reduceSub, Nat.reduceMul, Nat.reduceEqDiff, Nat.reduceLeDiff, Nat.reduceLT, Nat.reduceBEq, Nat.reduceBNe, reduceIte, reduceCtorEq, Int.reduceToNat, Int.reduceAdd, Int.reduceSub, Int.reduceMul, Int.reduceNeg, Int.reduceLT, Int.reduceLE, Int.reduceEq, Int.reduceNe, ints, ic]
            refine DrawP_of 18 (by decide +kernel) ?_
            simp only [w1, List.getElem?_map, hx, hy, hjn, hj0, hjl, go_sem, Int.reduceNegSucc, Nat.reduceAdd, Nat.reduceSub, Nat.reduceMul, Nat.reduceEqDiff, Nat.reduceLeDiff, Nat.reduceLT, Nat.reduceBEq, Nat.reduceBNe, reduceIte, reduceCtorEq, Int.reduceToNat, Int.reduceAdd, Int.reduceSub, Int.reduceMul, Int.reduceNeg, Int.reduceLT, Int.reduceLE, Int.reduceEq, Int.reduceNe, ints, ic]
            refine CallD_eq (t_digit b k) (by decide) ?_
            simp only [w2, w3, w4, go_sem, Int.reduceNegSucc, Nat.reduceAdd, Nat.reduceSub, Nat.reduceMul, Nat.reduceEqDiff, Nat.reduceLeDiff, Nat.reduceLT, Nat.reduceBEq, Nat.reduceBNe, reduceIte, reduceCtorEq, Int.reduceToNat, Int.reduceAdd, Int.reduceSub, Int.reduceMul, Int.reduceNeg, Int.reduceLT, Int.reduceLE, Int.reduceEq, Int.reduceNe, ints, ic]
            simp only [w1, hjn, hj0, hjl, List.getElem?_map, hy, hm, hq, ← List.map_set, go_sem, Int.reduceNegSucc, Nat.reduceAdd, Nat.reduceSub, Nat.reduceMul, Nat.reduceEqDiff, Nat.reduceLeDiff, Nat.reduceLT, Nat.reduceBEq, Nat.reduceBNe, reduceIte, reduceCtorEq, Int.reduceToNat, Int.reduceAdd, Int.reduceSub, Int.reduceMul, Int.reduceNeg, Int.reduceLT, Int.reduceLE, Int.reduceEq, Int.reduceNe, ints, ic]
            refine RoundP_of (k + 1, out.set (i + k) ((dgt out (i + k) + dgt a i * dgt b k + c) % 1048576), (dgt out (i + k) + dgt a i * dgt b k + c) / 1048576) ?_ ?_ (nxt hn)
            · simp only [w5, Int.natCast_add, List.map_set, go_sem, Int.reduceNegSucc, Nat.reduceAdd, Nat.reduceSub, Nat.reduceMul, Nat.reduceEqDiff, Nat.reduceLeDiff, Nat.reduceLT, Nat.reduceBEq, Nat.reduceBNe, reduceIte, reduceCtorEq, Int.reduceToNat, Int.reduceAdd, Int.reduceSub, Int.reduceMul, Int.reduceNeg, Int.reduceLT, Int.reduceLE, Int.reduceEq, Int.reduceNe, ints, ic]
            · show b.length + 1 - (k + 1) < b.length + 1 - k; omega
          · have d2 : decide (0 < c) = false := decide_eq_false hcp
            have hc : c = 0 := by omega
            have hvv : val out = val (a.take (i + 1)) * val b := by
              rw [hc, Int.mul_zero, Int.add_zero, val_take_all (l := b) (i := k) (by omega)] at hv
              rw [hv, val_take_succ, Int.add_mul, Int.mul_assoc]
            simp only [d1, d2, go_sem, Int.reduceNegSucc, Nat.reduceAdd, Nat.reduceSub, Nat.reduceMul, Nat.reduceEqDiff, Nat.reduceLeDiff, Nat.reduceLT, Nat.reduceBEq, Nat.reduceBNe, reduceIte, reduceCtorEq, Int.reduceToNat, Int.reduceAdd, Int.reduceSub, Int.reduceMul, Int.reduceNeg, Int.reduceLT, Int.reduceLE, Int.reduceEq, Int.reduceNe, ints, ic]
            refine RoundP_of (i + 1, out) ?_ ?_ ⟨?_, hl, ho, hvv⟩
            · simp only [h1, Int.natCast_add, go_sem, Int.reduceNegSucc, Nat.reduceAdd, Nat.reduceSub, Nat.reduceMul, Nat.reduceEqDiff, Nat.reduceLeDiff, Nat.reduceLT, Nat.reduceBEq, Nat.reduceBNe, reduceIte, reduceCtorEq, Int.reduceToNat, Int.reduceAdd, Int.reduceSub, Int.reduceMul, Int.reduceNeg, Int.reduceLT, Int.reduceLE, Int.reduceEq, Int.reduceNe, ints, ic]
            · show a.length - (i + 1) < a.length - i; omega
            · show i + 1 ≤ a.length; omega
    · have hd : decide ((i : Int) < a.length) = false := decide_eq_false hp
      rw [val_take_all (l := a) (i := i) (by omega)] at hv0
      have ht := t_trim out0 ho0 (by omega)
      rw [hv0] at ht
      have hall : (out0.map ic).take (a.length + b.length) = out0.map ic := List.take_of_length_le (by rw [List.length_map]; omega)
      have hle : a.length + b.length ≤ (out0.map ic).length := by rw [List.length_map]; omega
      simp only [hd, hl0, Nat.le_refl, hall, go_sem, Int.reduceNegSucc, Nat.reduceAdd, Nat.reduceSub, Nat.reduceMul, Nat.reduceEqDiff, Nat.reduceLeDiff, Nat.reduceLT, Nat.reduceBEq, Nat.reduceBNe, reduceIte, reduceCtorEq, Int.reduceToNat, Int.reduceAdd, Int.reduceSub, Int.reduceMul, Int.reduceNeg, Int.reduceLT, Int.reduceLE, Int.reduceEq, Int.reduceNe, ints, ic]
      refine CallP_eq ht (by decide) ?_
      simp only [go_sem, Int.reduceNegSucc, Nat.reduceAdd, Nat.reduceSub, Nat.reduceMul, Nat.reduceEqDiff, Nat.reduceLeDiff, Nat.reduceLT, Nat.reduceBEq, Nat.reduceBNe, reduceIte, reduceCtorEq, Int.reduceToNat, Int.reduceAdd, Int.reduceSub, Int.reduceMul, Int.reduceNeg, Int.reduceLT, Int.reduceLE, Int.reduceEq, Int.reduceNe, ints, ic]
end Go.Proofs.Ytpnlfkaijdjhlaa

namespace Go.Proofs.Ytpnlfkaijdjhlaa
set_option linter.all false
open Go.Abs

def okd (d : Int) : Bool := !decide (d < 0) && !decide (1048576 ≤ d)
def rightF (s : Int) (l : List Int) : Bool :=
  l.all okd && (!decide (s < -1) && (!decide (1 < s) && ((decide ((l.length : Int) = 0) == decide (s = 0)) && (decide ((l.length : Int) = 0) || !decide (dgt l (l.length - 1) = 0)))))
theorem okd_iff {d : Int} : okd d = true ↔ 0 ≤ d ∧ d < 1048576 := by simp [okd]
theorem all_okd {l : List Int} : l.all okd = true ↔ OkD l := by
  rw [List.all_eq_true]
  exact ⟨fun h d hd => okd_iff.1 (h d hd), fun h d hd => okd_iff.2 (h d hd)⟩
theorem all_okd_succ {l : List Int} {i : Nat} (h : (i : Int) < l.length) : (l.take (i + 1)).all okd = ((l.take i).all okd && okd (dgt l i)) := by
  have hx := get_nat h
  rw [List.take_add_one, hx, List.all_append]; simp
set_option maxRecDepth 100000 in
set_option maxHeartbeats 1000000 in
theorem t_right (s : Int) (l : List Int) (hl : l.length ≤ 1000000000) : Ctr G.P 59 [.agg [.int s, ints l]] (· = .bool (rightF s l)) := by
  refine ctr_go good _ _ [.tmp 2] Try.func59 rfl rfl (by decide +kernel) rfl ?_
  simp only [go_sem, Int.reduceNegSucc, Nat.reduceAdd, Nat.reduceSub, Nat.reduceMul, Nat.reduceEqDiff, Nat.reduceLeDiff, Nat.reduceLT, Nat.reduceBEq, Nat.reduceBNe, reduceIte, reduceCtorEq, Int.reduceToNat, Int.reduceAdd, Int.reduceSub, Int.reduceMul, Int.reduceNeg, Int.reduceLT, Int.reduceLE, Int.reduceEq, Int.reduceNe, ints, ic]
  refine LoopP_of [1, 3] [1] (fun i : Nat => ⟨[(1, .loc 1 2 0 0), (3, .im (.int i))], [(1, 2, [[.int s, ints l]])], []⟩) (fun i => i ≤ l.length ∧ (l.take i).all okd = true) (fun i => l.length - i) 0 ?_ ⟨Nat.zero_le _, rfl⟩ ?_
  · simp only [Int.natCast_zero, go_sem, Int.reduceNegSucc, Nat.reduceAdd, Nat.reduceSub, Nat.reduceMul, Nat.reduceEqDiff, Nat.reduceLeDiff, Nat.reduceLT, Nat.reduceBEq, Nat.reduceBNe, reduceIte, reduceCtorEq, Int.reduceToNat, Int.reduceAdd, Int.reduceSub, Int.reduceMul, Int.reduceNeg, Int.reduceLT, Int.reduceLE, Int.reduceEq, Int.reduceNe, ints, ic]
  · intro i ⟨hi, ha⟩
    by_cases hp : (i : Int) < l.length
    · have hd : decide ((i : Int) < l.length) = true := decide_eq_true hp
      have hx := get_nat hp
      have h1 := i64_ok (n := (i : Int) + 1) (by omega)
      have hs := all_okd_succ hp
      have hno : okd (dgt l i) = false → rightF s l = false := fun h => by
        have : l.all okd = false := by
          rw [List.all_eq_false]; exact ⟨_, List.mem_of_getElem? hx, by simp [h]⟩
        simp [rightF, this]
      simp only [hd, List.getElem?_map, hx, go_sem, Int.reduceNegSucc, Nat.reduceAdd, Nat.reduceSub, Nat.reduceMul, Nat.reduceEqDiff, Nat.reduceLeDiff, Nat.reduceLT, Nat.reduceBEq, Nat.reduceBNe, reduceIte, reduceCtorEq, Int.reduceToNat, Int.reduceAdd, Int.reduceSub, Int.reduceMul, Int.reduceNeg, Int.reduceLT, Int.reduceLE, Int.reduceEq, Int.reduceNe, ints, ic]
      refine Two_of (fun d1 => ?_) (fun d1 => ?_)
      · rw [hno (by simp [okd, d1])]
        simp only [d1, go_sem, Int.reduceNegSucc, Nat.reduceAdd, Nat.reduceSub, Nat.reduceMul, Nat.reduceEqDiff, Nat.reduceLeDiff, Nat.reduceLT, Nat.reduceBEq, Nat.reduceBNe, reduceIte, reduceCtorEq, Int.reduceToNat, Int.reduceAdd, Int.reduceSub, Int.reduceMul, Int.reduceNeg, Int.reduceLT, Int.reduceLE, Int.reduceEq, Int.reduceNe, ints, ic]
      · simp only [d1, List.getElem?_map, hx, go_sem, Int.reduceNegSucc, Nat.reduceAdd, Nat.reduceSub, Nat.reduceMul, Nat.reduceEqDiff, Nat.reduceLeDiff, Nat.reduceLT, Nat.reduceBEq, Nat.reduceBNe, reduceIte, reduceCtorEq, Int.reduceToNat, Int.reduceAdd, Int.reduceSub, Int.reduceMul, Int.reduceNeg, Int.reduceLT, Int.reduceLE, Int.reduceEq, Int.reduceNe, ints, ic]
        refine Two_of (fun d2 => ?_) (fun d2 => ?_)
        · rw [hno (by simp only [okd, d1, d2]; rfl)]
          simp only [go_sem, Int.reduceNegSucc, Nat.reduceAdd, Nat.reduceSub, Nat.reduceMul, Nat.reduceEqDiff, Nat.reduceLeDiff, Nat.reduceLT, Nat.reduceBEq, Nat.reduceBNe, reduceIte, reduceCtorEq, Int.reduceToNat, Int.reduceAdd, Int.reduceSub, Int.reduceMul, Int.reduceNeg, Int.reduceLT, Int.reduceLE, Int.reduceEq, Int.reduceNe, ints, ic]
        · simp only [go_sem, Int.reduceNegSucc, Nat.reduceAdd, Nat.reduceSub, Nat.reduceMul, Nat.reduceEqDiff, Nat.reduceLeDiff, Nat.reduceLT, Nat.reduceBEq, Nat.reduceBNe, reduceIte, reduceCtorEq, Int.reduceToNat, Int.reduceAdd, Int.reduceSub, Int.reduceMul, Int.reduceNeg, Int.reduceLT, Int.reduceLE, Int.reduceEq, Int.reduceNe, ints, ic]
          refine RoundP_of (i + 1) ?_ (by omega) ⟨by omega, by rw [hs, ha]; simp only [okd, d1, d2]; rfl⟩
          simp only [h1, Int.natCast_add, go_sem, Int.reduceNegSucc, Nat.reduceAdd, Nat.reduceSub, Nat.reduceMul, Nat.reduceEqDiff, Nat.reduceLeDiff, Nat.reduceLT, Nat.reduceBEq, Nat.reduceBNe, reduceIte, reduceCtorEq, Int.reduceToNat, Int.reduceAdd, Int.reduceSub, Int.reduceMul, Int.reduceNeg, Int.reduceLT, Int.reduceLE, Int.reduceEq, Int.reduceNe, ints, ic]
    · have hd : decide ((i : Int) < l.length) = false := decide_eq_false hp
      rw [List.take_of_length_le (by omega)] at ha
      rw [rightF, ha, Bool.true_and]
      simp only [hd, go_sem, Int.reduceNegSucc, Nat.reduceAdd, Nat.reduceSub, Nat.reduceMul, Nat.reduceEqDiff, Nat.reduceLeDiff, Nat.reduceLT, Nat.reduceBEq, Nat.reduceBNe, reduceIte, reduceCtorEq, Int.reduceToNat, Int.reduceAdd, Int.reduceSub, Int.reduceMul, Int.reduceNeg, Int.reduceLT, Int.reduceLE, Int.reduceEq, Int.reduceNe, ints, ic]
      clear hd hp hi
      refine Two_of (fun d1 => ?_) (fun d1 => ?_)
      · simp only [d1, go_sem, Int.reduceNegSucc, Nat.reduceAdd, Nat.reduceSub, Nat.reduceMul, Nat.reduceEqDiff, Nat.reduceLeDiff, Nat.reduceLT, Nat.reduceBEq, Nat.reduceBNe, reduceIte, reduceCtorEq, Int.reduceToNat, Int.reduceAdd, Int.reduceSub, Int.reduceMul, Int.reduceNeg, Int.reduceLT, Int.reduceLE, Int.reduceEq, Int.reduceNe, ints, ic]
      · simp only [d1, go_sem, Int.reduceNegSucc, Nat.reduceAdd, Nat.reduceSub, Nat.reduceMul, Nat.reduceEqDiff, Nat.reduceLeDiff, Nat.reduceLT, Nat.reduceBEq, Nat.reduceBNe, reduceIte, reduceCtorEq, Int.reduceToNat, Int.reduceAdd, Int.reduceSub, Int.reduceMul, Int.reduceNeg, Int.reduceLT, Int.reduceLE, Int.reduceEq, Int.reduceNe, ints, ic]
        refine Two_of (fun d2 => ?_) (fun d2 => ?_)
        · simp only [d1, d2, go_sem, Int.reduceNegSucc, Nat.reduceAdd, Nat.reduceSub, Nat.reduceMul, Nat.reduceEqDiff, Nat.reduceLeDiff, Nat.reduceLT, Nat.reduceBEq, Nat.reduceBNe, reduceIte, reduceCtorEq, Int.reduceToNat, Int.reduceAdd, Int.reduceSub, Int.reduceMul, Int.reduceNeg, Int.reduceLT, Int.reduceLE, Int.reduceEq, Int.reduceNe, ints, ic]
        · by_cases h0 : l = []
          · subst h0
            simp only [d1, d2, Bool.true_beq, Int.natCast_zero, go_sem, Int.reduceNegSucc, Nat.reduceAdd, Nat.reduceSub, Nat.reduceMul, Nat.reduceEqDiff, Nat.reduceLeDiff, Nat.reduceLT, Nat.reduceBEq, Nat.reduceBNe, reduceIte, reduceCtorEq, Int.reduceToNat, Int.reduceAdd, Int.reduceSub, Int.reduceMul, Int.reduceNeg, Int.reduceLT, Int.reduceLE, Int.reduceEq, Int.reduceNe, ints, ic]
            refine Two_of (fun d3 => ?_) (fun d3 => ?_)
            · simp only [d1, d2, d3, Bool.true_beq, go_sem, Int.reduceNegSucc, Nat.reduceAdd, Nat.reduceSub, Nat.reduceMul, Nat.reduceEqDiff, Nat.reduceLeDiff, Nat.reduceLT, Nat.reduceBEq, Nat.reduceBNe, reduceIte, reduceCtorEq, Int.reduceToNat, Int.reduceAdd, Int.reduceSub, Int.reduceMul, Int.reduceNeg, Int.reduceLT, Int.reduceLE, Int.reduceEq, Int.reduceNe, ints, ic]
            · simp only [d1, d2, d3, Bool.true_beq, go_sem, Int.reduceNegSucc, Nat.reduceAdd, Nat.reduceSub, Nat.reduceMul, Nat.reduceEqDiff, Nat.reduceLeDiff, Nat.reduceLT, Nat.reduceBEq, Nat.reduceBNe, reduceIte, reduceCtorEq, Int.reduceToNat, Int.reduceAdd, Int.reduceSub, Int.reduceMul, Int.reduceNeg, Int.reduceLT, Int.reduceLE, Int.reduceEq, Int.reduceNe, ints, ic]
          · have hpos := List.length_pos_iff.2 h0
            have hz : decide ((l.length : Int) = 0) = false := decide_eq_false (by omega)
            have hlast : l[l.length - 1]? = some (dgt l (l.length - 1)) := get_nat (by omega)
            have hw := i64_ok (n := (l.length : Int) - 1) (by omega)
            have hn : ((l.length : Int) - 1).toNat = l.length - 1 := by omega
            have hn0 : (0 : Int) ≤ (l.length : Int) - 1 := by omega
            have hn1 : (l.length : Int) - 1 < l.length := by omega
            rw [hz]
            simp only [d1, d2, hz, Bool.false_beq, go_sem, Int.reduceNegSucc, Nat.reduceAdd, Nat.reduceSub, Nat.reduceMul, Nat.reduceEqDiff, Nat.reduceLeDiff, Nat.reduceLT, Nat.reduceBEq, Nat.reduceBNe, reduceIte, reduceCtorEq, Int.reduceToNat, Int.reduceAdd, Int.reduceSub, Int.reduceMul, Int.reduceNeg, Int.reduceLT, Int.reduceLE, Int.reduceEq, Int.reduceNe, ints, ic]
            refine Two_of (fun d3 => ?_) (fun d3 => ?_)
            · simp only [d1, d2, d3, hz, Bool.false_beq, go_sem, Int.reduceNegSucc, Nat.reduceAdd, Nat.reduceSub, Nat.reduceMul, Nat.reduceEqDiff, Nat.reduceLeDiff, Nat.reduceLT, Nat.reduceBEq, Nat.reduceBNe, reduceIte, reduceCtorEq, Int.reduceToNat, Int.reduceAdd, Int.reduceSub, Int.reduceMul, Int.reduceNeg, Int.reduceLT, Int.reduceLE, Int.reduceEq, Int.reduceNe, ints, ic]
            · simp only [d1, d2, d3, hz, hw, hn, hn0, hn1, List.getElem?_map, hlast, Bool.false_beq, go_sem, Int.reduceNegSucc, Nat.reduceAdd, Nat.reduceSub, Nat.reduceMul, Nat.reduceEqDiff, Nat.reduceLeDiff, Nat.reduceLT, Nat.reduceBEq, Nat.reduceBNe, reduceIte, reduceCtorEq, Int.reduceToNat, Int.reduceAdd, Int.reduceSub, Int.reduceMul, Int.reduceNeg, Int.reduceLT, Int.reduceLE, Int.reduceEq, Int.reduceNe, ints, ic]
end Go.Proofs.Ytpnlfkaijdjhlaa
