import Derived.Test.YtpnlfkaijdjhlaaDat
import Derived.Test.YtpnlfkaijdjhlaaC1
namespace Go.Proofs.Ytpnlfkaijdjhlaa
set_option linter.all false
open Go.Abs

theorem isum_bound {l : List Int} {b : Int} (h : ∀ x ∈ l, 0 ≤ x ∧ x ≤ b) : ∀ i, 0 ≤ isum (l.take i) ∧ isum (l.take i) ≤ b * (l.take i).length := by
  intro i
  have : ∀ m : List Int, (∀ x ∈ m, 0 ≤ x ∧ x ≤ b) → 0 ≤ isum m ∧ isum m ≤ b * m.length := by
    intro m
    induction m with
    | nil => simp [isum]
    | cons x r ih =>
      intro hm
      have h1 := ih fun y hy => hm y (List.mem_cons_of_mem _ hy)
      have h2 := hm x (List.mem_cons_self ..)
      simp only [isum, List.length_cons, Int.natCast_add, Int.mul_add]
      simp
      omega
  exact this _ fun x hx => h x (List.mem_of_mem_take hx)

theorem c28 (l : List Int) (hl : l.length ≤ 1000) (h : ∀ x ∈ l, 0 ≤ x ∧ x ≤ 1099511627776) : Ctr G.P 28 [ints l] (· = .int (isum l)) := by
  refine ctr_go good _ _ [.tmp 2] Try.func28 rfl rfl (by decide +kernel) rfl ?_
  unfold ints
  simp only [go_sem, Int.reduceNegSucc, Nat.reduceAdd, Nat.reduceSub, Nat.reduceMul, Nat.reduceEqDiff, Nat.reduceLeDiff, Nat.reduceLT, Nat.reduceBEq, Nat.reduceBNe, reduceIte, reduceCtorEq, Int.reduceToNat, Int.reduceAdd, Int.reduceSub, Int.reduceMul, Int.reduceNeg, Int.reduceLT, Int.reduceLE, Int.reduceEq, Int.reduceNe, Evid.iv, Evid.c, Place.c, Move.c, Cert.c, Recall.c, Purity.c, Sample.c, Recipe.c, ints, ic]
  refine LoopP_of [0, 3, 4] [] (fun i : Nat => ⟨[(0, .im (.sl (l.map ic))), (3, .im (.int (isum (l.take i)))), (4, .im (.int i))], [], []⟩) (fun i => i ≤ l.length) (fun i => l.length - i) 0 ?_ (Nat.zero_le _) ?_
  · simp only [List.take_zero, isum, Int.natCast_zero, go_sem, Int.reduceNegSucc, Nat.reduceAdd, Nat.reduceSub, Nat.reduceMul, Nat.reduceEqDiff, Nat.reduceLeDiff, Nat.reduceLT, Nat.reduceBEq, Nat.reduceBNe, reduceIte, reduceCtorEq, Int.reduceToNat, Int.reduceAdd, Int.reduceSub, Int.reduceMul, Int.reduceNeg, Int.reduceLT, Int.reduceLE, Int.reduceEq, Int.reduceNe, Evid.iv, Evid.c, Place.c, Move.c, Cert.c, Recall.c, Purity.c, Sample.c, Recipe.c, ints, ic]
  · intro i hi
    simp only [List.length_map, go_sem, Int.reduceNegSucc, Nat.reduceAdd, Nat.reduceSub, Nat.reduceMul, Nat.reduceEqDiff, Nat.reduceLeDiff, Nat.reduceLT, Nat.reduceBEq, Nat.reduceBNe, reduceIte, reduceCtorEq, Int.reduceToNat, Int.reduceAdd, Int.reduceSub, Int.reduceMul, Int.reduceNeg, Int.reduceLT, Int.reduceLE, Int.reduceEq, Int.reduceNe, Evid.iv, Evid.c, Place.c, Move.c, Cert.c, Recall.c, Purity.c, Sample.c, Recipe.c, ints, ic]
    repeat' (refine Two_dec (fun hd hp => ?_) (fun hd hp => ?_) <;> simp only [hd, go_sem, Int.reduceNegSucc, Nat.reduceAdd, Nat.reduceSub, Nat.reduceMul, Nat.reduceEqDiff, Nat.reduceLeDiff, Nat.reduceLT, Nat.reduceBEq, Nat.reduceBNe, reduceIte, reduceCtorEq, Int.reduceToNat, Int.reduceAdd, Int.reduceSub, Int.reduceMul, Int.reduceNeg, Int.reduceLT, Int.reduceLE, Int.reduceEq, Int.reduceNe, Evid.iv, Evid.c, Place.c, Move.c, Cert.c, Recall.c, Purity.c, Sample.c, Recipe.c, ints, ic])
    · obtain ⟨x, hx⟩ : ∃ x, l[i]? = some x := ⟨_, List.getElem?_eq_getElem (by omega)⟩
      simp only [List.getElem?_map, hx, ic, go_sem, Int.reduceNegSucc, Nat.reduceAdd, Nat.reduceSub, Nat.reduceMul, Nat.reduceEqDiff, Nat.reduceLeDiff, Nat.reduceLT, Nat.reduceBEq, Nat.reduceBNe, reduceIte, reduceCtorEq, Int.reduceToNat, Int.reduceAdd, Int.reduceSub, Int.reduceMul, Int.reduceNeg, Int.reduceLT, Int.reduceLE, Int.reduceEq, Int.reduceNe, Evid.iv, Evid.c, Place.c, Move.c, Cert.c, Recall.c, Purity.c, Sample.c, Recipe.c, ints, ic]
      have hb := isum_bound h i
      have hx' := h x (List.mem_of_getElem? hx)
      rw [List.length_take] at hb
      have hm : min i l.length ≤ 1000 := by omega
      have h1 := i64_ok (n := (i : Int) + 1) (by omega)
      have h2 := i64_ok (n := isum (l.take i) + x) (by omega)
      refine RoundP_of (i + 1) ?_ (by omega) (by omega)
      simp only [h1, h2, isum_take hx, Int.natCast_add, go_sem, Int.reduceNegSucc, Nat.reduceAdd, Nat.reduceSub, Nat.reduceMul, Nat.reduceEqDiff, Nat.reduceLeDiff, Nat.reduceLT, Nat.reduceBEq, Nat.reduceBNe, reduceIte, reduceCtorEq, Int.reduceToNat, Int.reduceAdd, Int.reduceSub, Int.reduceMul, Int.reduceNeg, Int.reduceLT, Int.reduceLE, Int.reduceEq, Int.reduceNe, Evid.iv, Evid.c, Place.c, Move.c, Cert.c, Recall.c, Purity.c, Sample.c, Recipe.c, ints, ic]
    · rw [List.take_of_length_le (by omega)]
end Go.Proofs.Ytpnlfkaijdjhlaa
