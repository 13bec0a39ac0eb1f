import Derived.Test.YtpnlfkaijdjhlaaC10
import Derived.Test.YtpnlfkaijdjhlaaC29
namespace Go.Proofs.Ytpnlfkaijdjhlaa
set_option linter.all false
open Go.Abs

/-- What the recipe alone adds. -/
theorem expand_one (e : Evid) (x : Recipe) : expandF e [] [x] = if checkF e = 0 then (if (cookedF e x).2 = 0 then (if 200 < ((e.purs ++ (cookedF e x).1).length : Int) then (zeroE, 6) else ({ e with purs := e.purs ++ (cookedF e x).1 }, 0)) else (zeroE, (cookedF e x).2)) else (zeroE, checkF e) := by
  unfold expandF
  by_cases h : checkF e = 0
  · rw [if_neg (by simp [h]), if_pos h]
    simp only [addS, decide_true, Bool.true_eq_false, if_false]
    by_cases h2 : (cookedF e x).2 = 0
    · simp only [addR, h2, decide_true, if_true, Bool.true_eq_false, if_false, decide_eq_true_eq]
    · simp only [addR, h2, decide_false, Bool.false_eq_true, if_false, if_true]
  · rw [if_pos (by simp [h]), if_neg h]
def recGo (x : Recipe) : List Move → List Int → List Purity
  | _, [] => []
  | l, i :: r => match l[i.toNat]? with
    | some m => if decide (m.fr = x.fr) = true then ⟨i, x.mat, x.least, x.most⟩ :: recGo x l r else recGo x l r
    | none => recGo x l r
theorem rec_cook (x : Recipe) (all : List Move) : ∀ (l : List Move) (i : Nat), all.drop i = l → recGo x all (movesG (fun m => decide (m.to = x.to)) all.length i l) = cookGo x i l
  | [], i, _ => rfl
  | m :: l, i, h => by
    have hi : i < all.length := by
      rcases Nat.lt_or_ge i all.length with h1 | h1
      · exact h1
      · rw [List.drop_of_length_le h1] at h; cases h
    have hm : all[i]? = some m := by
      have := List.getElem?_drop (xs := all) (i := i) (j := 0)
      rw [h] at this; simpa using this.symm
    have hr : all.drop (i + 1) = l := by rw [← List.drop_drop, h]; rfl
    have ih := rec_cook x all l (i + 1) hr
    rw [movesG, cookGo]
    have hd : decide ((i : Int) < (all.length : Int)) = true := decide_eq_true (by omega)
    rw [hd, Bool.true_and]
    by_cases ht : m.to = x.to
    · rw [if_pos (decide_eq_true ht), recGo, Int.toNat_natCast, hm]
      dsimp only
      rw [ih]
      by_cases hf : m.fr = x.fr
      · simp [hf, ht]
      · simp [hf]
    · rw [if_neg (by simpa using ht), ih, if_neg (by simp [ht])]
theorem moves_in (is : Move → Bool) (u : Int) : ∀ (l : List Move) (i : Nat) (k : Nat) (v : Int), (movesG is u i l)[k]? = some v → (i : Int) ≤ v ∧ v < (i : Int) + l.length
  | [], i, k, v, h => by simp [movesG] at h
  | m :: l, i, k, v, h => by
    rw [movesG] at h
    have ih := moves_in is u l (i + 1)
    split at h
    · cases k with
      | zero => simp at h; subst h; simp; omega
      | succ k =>
        have := ih k v (by simpa using h)
        simp only [List.length_cons]; omega
    · have := ih k v h
      simp only [List.length_cons]; omega
theorem moves_len (is : Move → Bool) (u : Int) : ∀ (l : List Move) (i : Nat), (movesG is u i l).length ≤ l.length
  | [], i => Nat.le_refl _
  | m :: l, i => by
    rw [movesG]
    have := moves_len is u l (i + 1)
    split <;> simp <;> omega
theorem cooked_ok {e : Evid} {x : Recipe} (h : (cookedF e x).2 = 0) : cookedF e x = (cookGo x 0 e.moves, 0) := by
  unfold cookedF at h ⊢
  repeat' split at h
  all_goals first | (cases h; done) | skip
  rename_i h1 h2 h3 h4 h5
  rw [if_neg h1, if_neg h2, if_neg h3, if_neg h4, if_neg h5]
theorem expand_ok {e : Evid} {x : Recipe} (h0 : checkF e = 0) (h1 : ¬ x.fr < 0) (h2 : ¬ (e.places.length : Int) ≤ x.fr) (h3 : ¬ x.to < 0) (h4 : ¬ (e.places.length : Int) ≤ x.to) (h5 : ¬ x.mat < 0) (h6 : ¬ e.mats ≤ x.mat)
    (h7 : ¬ x.least < 0) (h8 : ¬ x.most < x.least) (h9 : ¬ 1000 < x.most) (h10 : ¬ 200 < (e.purs.length : Int) + e.moves.length) : (expandF e [] [x]).2 = 0 := by
  have b1 : btw x.fr 0 ((e.places.length : Int) - 1) = true := btw_iff.2 (by omega)
  have b2 : btw x.to 0 ((e.places.length : Int) - 1) = true := btw_iff.2 (by omega)
  have b3 : btw x.mat 0 (e.mats - 1) = true := btw_iff.2 (by omega)
  have b4 : btw x.least 0 x.most = true := btw_iff.2 (by omega)
  have hc : cookedF e x = (cookGo x 0 e.moves, 0) := by simp [cookedF, b1, b2, b3, b4, h9]
  have hl := cookGo_len x e.moves 0
  rw [expand_one, if_pos h0, hc]
  simp only [if_true]
  rw [if_neg (by rw [List.length_append]; omega)]
theorem alist_app (ops : List Oper) (K : St → Prop) (x : Oper) (a b : List Oper) (st : St) : alist G ops K (List.append (x :: a) b) st = alist G ops K (x :: List.append a b) st := propext ⟨fun h => h, fun h => h⟩
theorem alist_app_nil (ops : List Oper) (K : St → Prop) (b : List Oper) (st : St) : alist G ops K (List.append [] b) st = alist G ops K b st := propext ⟨fun h => h, fun h => h⟩
theorem app_get_succ (x : Oper) (a b : List Oper) (n : Nat) : (List.append (x :: a) b)[n + 1]? = (List.append a b)[n]? := List.getElem?_cons_succ
theorem app_get_zero (x : Oper) (a b : List Oper) : (List.append (x :: a) b)[0]? = some x := List.getElem?_cons_zero
theorem app_get_nil (b : List Oper) (n : Nat) : (List.append [] b)[n]? = b[n]? := congrArg (·[n]?) (List.nil_append b)
attribute [local go_sem ↓] alist_app alist_app_nil app_get_succ app_get_zero app_get_nil
set_option maxRecDepth 100000 in
set_option maxHeartbeats 4000000 in
theorem w6 (e : Evid) (x : Recipe) : Ctr G.P 6 [e.iv, .agg x.c] (· = .bool true) := by
  have h8 := c8 e
  rcases hf : few14 e with _ | _
  · rw [hf] at h8
    refine ctr_go good _ _ [.tmp 4] Try.func6 rfl rfl (by decide +kernel) rfl ?_
    simp only [go_sem, Int.reduceNegSucc, Nat.reduceAdd, Nat.reduceSub, Nat.reduceMul, Nat.reduceEqDiff, Nat.reduceLeDiff, Nat.reduceLT, Nat.reduceBEq, Nat.reduceBNe, reduceIte, reduceCtorEq, Int.reduceToNat, Int.reduceAdd, Int.reduceSub, Int.reduceMul, Int.reduceNeg, Int.reduceLT, Int.reduceLE, Int.reduceEq, Int.reduceNe, Evid.iv, Evid.c, Place.c, Move.c, Cert.c, Recall.c, Purity.c, Sample.c, Recipe.c, ints, ic]
    refine CallP_eq c7 (by decide) ?_
    simp only [go_sem, Int.reduceNegSucc, Nat.reduceAdd, Nat.reduceSub, Nat.reduceMul, Nat.reduceEqDiff, Nat.reduceLeDiff, Nat.reduceLT, Nat.reduceBEq, Nat.reduceBNe, reduceIte, reduceCtorEq, Int.reduceToNat, Int.reduceAdd, Int.reduceSub, Int.reduceMul, Int.reduceNeg, Int.reduceLT, Int.reduceLE, Int.reduceEq, Int.reduceNe, Evid.iv, Evid.c, Place.c, Move.c, Cert.c, Recall.c, Purity.c, Sample.c, Recipe.c, ints, ic]
    refine CallP_eq h8 (by decide) ?_
    simp only [go_sem, Int.reduceNegSucc, Nat.reduceAdd, Nat.reduceSub, Nat.reduceMul, Nat.reduceEqDiff, Nat.reduceLeDiff, Nat.reduceLT, Nat.reduceBEq, Nat.reduceBNe, reduceIte, reduceCtorEq, Int.reduceToNat, Int.reduceAdd, Int.reduceSub, Int.reduceMul, Int.reduceNeg, Int.reduceLT, Int.reduceLE, Int.reduceEq, Int.reduceNe, Evid.iv, Evid.c, Place.c, Move.c, Cert.c, Recall.c, Purity.c, Sample.c, Recipe.c, ints, ic]
  have b1 : e.places.length ≤ 110 ∧ e.moves.length ≤ 210 ∧ e.certs.length ≤ 110 ∧ e.recalls.length ≤ 40 ∧ e.purs.length ≤ 210 := by
    simp [few14] at hf; omega
  rw [hf] at h8
  have h12 := c12 e [] [x] (by simp) (by simp) (by simp)
  have w1 := i64_ok (n := (e.purs.length : Int) + e.moves.length) (by omega)
  by_cases hk : (expandF e [] [x]).2 = 0
  · have h22 := c22 e x.to e.moves.length
    have hone := expand_one e x
    by_cases hc : checkF e = 0
    case neg => rw [hone, if_neg hc] at hk; exact absurd hk hc
    rw [if_pos hc] at hone
    by_cases hc2 : (cookedF e x).2 = 0
    case neg => rw [hone, if_neg hc2] at hk; exact absurd hk hc2
    rw [if_pos hc2] at hone
    by_cases hc3 : 200 < ((e.purs ++ (cookedF e x).1).length : Int)
    · rw [hone, if_pos hc3] at hk; cases hk
    rw [if_neg hc3, cooked_ok hc2] at hone
    rw [cooked_ok hc2] at hc3
    rw [hone] at h12
    have hin : intoF e x.to e.moves.length = movesG (fun m => decide (m.to = x.to)) e.moves.length 0 e.moves := by simp [intoF, movesF, hc]
    rw [hin] at h22
    have hrec := rec_cook x e.moves e.moves 0 rfl
    have hmi := moves_in (fun m => decide (m.to = x.to)) e.moves.length e.moves 0
    have hml := moves_len (fun m => decide (m.to = x.to)) e.moves.length e.moves 0
    clear hone hk hc hc2 hin hf
    dsimp only at hc3
    have hlen : (e.purs ++ cookGo x 0 e.moves).length = e.purs.length + (cookGo x 0 e.moves).length := List.length_append
    have hdrop : (e.purs ++ cookGo x 0 e.moves).drop e.purs.length = cookGo x 0 e.moves := List.drop_left
    generalize movesG (fun m => decide (m.to = x.to)) e.moves.length 0 e.moves = into at *
    rw [← hdrop] at hrec
    generalize e.purs ++ cookGo x 0 e.moves = P at *
    clear hdrop
    simp only [Evid.iv, Evid.c, Recipe.c, samples, recipes, resE, ints, List.map_cons, List.map_nil] at h8 h12 h22
    refine ctr_go good _ _ [.tmp 4] Try.func6 rfl rfl (by decide +kernel) rfl ?_
    simp only [go_sem, Int.reduceNegSucc, Nat.reduceAdd, Nat.reduceSub, Nat.reduceMul, Nat.reduceEqDiff, Nat.reduceLeDiff, Nat.reduceLT, Nat.reduceBEq, Nat.reduceBNe, reduceIte, reduceCtorEq, Int.reduceToNat, Int.reduceAdd, Int.reduceSub, Int.reduceMul, Int.reduceNeg, Int.reduceLT, Int.reduceLE, Int.reduceEq, Int.reduceNe, Evid.iv, Evid.c, Place.c, Move.c, Cert.c, Recall.c, Purity.c, Sample.c, Recipe.c, ints, ic]
    refine CallP_eq c7 (by decide) ?_
    simp only [go_sem, Int.reduceNegSucc, Nat.reduceAdd, Nat.reduceSub, Nat.reduceMul, Nat.reduceEqDiff, Nat.reduceLeDiff, Nat.reduceLT, Nat.reduceBEq, Nat.reduceBNe, reduceIte, reduceCtorEq, Int.reduceToNat, Int.reduceAdd, Int.reduceSub, Int.reduceMul, Int.reduceNeg, Int.reduceLT, Int.reduceLE, Int.reduceEq, Int.reduceNe, Evid.iv, Evid.c, Place.c, Move.c, Cert.c, Recall.c, Purity.c, Sample.c, Recipe.c, ints, ic]
    refine CallP_eq h8 (by decide) ?_
    simp only [go_sem, Int.reduceNegSucc, Nat.reduceAdd, Nat.reduceSub, Nat.reduceMul, Nat.reduceEqDiff, Nat.reduceLeDiff, Nat.reduceLT, Nat.reduceBEq, Nat.reduceBNe, reduceIte, reduceCtorEq, Int.reduceToNat, Int.reduceAdd, Int.reduceSub, Int.reduceMul, Int.reduceNeg, Int.reduceLT, Int.reduceLE, Int.reduceEq, Int.reduceNe, Evid.iv, Evid.c, Place.c, Move.c, Cert.c, Recall.c, Purity.c, Sample.c, Recipe.c, ints, ic]
    refine CallP_eq h12 (by decide) ?_
    simp only [go_sem, Int.reduceNegSucc, Nat.reduceAdd, Nat.reduceSub, Nat.reduceMul, Nat.reduceEqDiff, Nat.reduceLeDiff, Nat.reduceLT, Nat.reduceBEq, Nat.reduceBNe, reduceIte, reduceCtorEq, Int.reduceToNat, Int.reduceAdd, Int.reduceSub, Int.reduceMul, Int.reduceNeg, Int.reduceLT, Int.reduceLE, Int.reduceEq, Int.reduceNe, Evid.iv, Evid.c, Place.c, Move.c, Cert.c, Recall.c, Purity.c, Sample.c, Recipe.c, ints, ic]
    refine CallP_eq h22 (by decide) ?_
    simp only [go_sem, Int.reduceNegSucc, Nat.reduceAdd, Nat.reduceSub, Nat.reduceMul, Nat.reduceEqDiff, Nat.reduceLeDiff, Nat.reduceLT, Nat.reduceBEq, Nat.reduceBNe, reduceIte, reduceCtorEq, Int.reduceToNat, Int.reduceAdd, Int.reduceSub, Int.reduceMul, Int.reduceNeg, Int.reduceLT, Int.reduceLE, Int.reduceEq, Int.reduceNe, Evid.iv, Evid.c, Place.c, Move.c, Cert.c, Recall.c, Purity.c, Sample.c, Recipe.c, ints, ic]
    clear h8 h12 h22
    refine LoopP_of [2, 3, 5, 6, 8, 9, 10] [2, 3, 6] (fun g : Nat × Nat => ⟨[(2, .loc 2 8 0 0), (3, .loc 3 5 0 0), (5, .im (.bool true)), (6, .loc 6 8 0 0), (8, .im (.int g.2)), (9, .im (.sl (into.map ic))), (10, .im (.int g.1))],
        [(6, 8, [Evid.c { e with purs := P }]), (3, 5, [x.c]), (2, 8, [e.c])], []⟩)
      (fun g => g.1 ≤ into.length ∧ g.2 ≤ P.length ∧ recGo x e.moves (into.drop g.1) = P.drop g.2) (fun g => into.length - g.1) (0, e.purs.length) ?_ ⟨Nat.zero_le _, by show e.purs.length ≤ _; omega, hrec⟩ ?_
    · simp only [Int.natCast_zero, go_sem, Int.reduceNegSucc, Nat.reduceAdd, Nat.reduceSub, Nat.reduceMul, Nat.reduceEqDiff, Nat.reduceLeDiff, Nat.reduceLT, Nat.reduceBEq, Nat.reduceBNe, reduceIte, reduceCtorEq, Int.reduceToNat, Int.reduceAdd, Int.reduceSub, Int.reduceMul, Int.reduceNeg, Int.reduceLT, Int.reduceLE, Int.reduceEq, Int.reduceNe, Evid.iv, Evid.c, Place.c, Move.c, Cert.c, Recall.c, Purity.c, Sample.c, Recipe.c, ints, ic]
    clear hrec
    intro ⟨i, k⟩ ⟨hi, hkl, hr⟩
    dsimp only at hi hkl hr
    by_cases hp : (i : Int) < into.length
    · have hd : decide ((i : Int) < into.length) = true := decide_eq_true hp
      obtain ⟨v, hv⟩ := at_nat hp
      obtain ⟨v0, v1⟩ := hmi i v hv
      obtain ⟨m, hm⟩ : ∃ m, e.moves[v.toNat]? = some m := ⟨_, List.getElem?_eq_getElem (by omega)⟩
      have h1 := i64_ok (n := (i : Int) + 1) (by omega)
      have h2 := i64_ok (n := (k : Int) + 1) (by omega)
      have d1 : decide (v < 0) = false := decide_eq_false (by omega)
      have d2 : decide ((e.moves.length : Int) ≤ v) = false := decide_eq_false (by omega)
      have v0' : 0 ≤ v := by omega
      rw [drop_cons hv, recGo, hm] at hr
      dsimp only at hr
      simp only [hd, go_sem, Int.reduceNegSucc, Nat.reduceAdd, Nat.reduceSub, Nat.reduceMul, Nat.reduceEqDiff, Nat.reduceLeDiff, Nat.reduceLT, Nat.reduceBEq, Nat.reduceBNe, reduceIte, reduceCtorEq, Int.reduceToNat, Int.reduceAdd, Int.reduceSub, Int.reduceMul, Int.reduceNeg, Int.reduceLT, Int.reduceLE, Int.reduceEq, Int.reduceNe, Evid.iv, Evid.c, Place.c, Move.c, Cert.c, Recall.c, Purity.c, Sample.c, Recipe.c, ints, ic]
      refine DrawP_of 15 (by decide +kernel) ?_
      simp only [hd, List.getElem?_map, hv, d1, d2, go_sem, Int.reduceNegSucc, Nat.reduceAdd, Nat.reduceSub, Nat.reduceMul, Nat.reduceEqDiff, Nat.reduceLeDiff, Nat.reduceLT, Nat.reduceBEq, Nat.reduceBNe, reduceIte, reduceCtorEq, Int.reduceToNat, Int.reduceAdd, Int.reduceSub, Int.reduceMul, Int.reduceNeg, Int.reduceLT, Int.reduceLE, Int.reduceEq, Int.reduceNe, Evid.iv, Evid.c, Place.c, Move.c, Cert.c, Recall.c, Purity.c, Sample.c, Recipe.c, ints, ic]
      refine DrawP_of 12 (by decide +kernel) ?_
      simp only [hd, List.getElem?_map, hv, hm, v0', go_sem, Int.reduceNegSucc, Nat.reduceAdd, Nat.reduceSub, Nat.reduceMul, Nat.reduceEqDiff, Nat.reduceLeDiff, Nat.reduceLT, Nat.reduceBEq, Nat.reduceBNe, reduceIte, reduceCtorEq, Int.reduceToNat, Int.reduceAdd, Int.reduceSub, Int.reduceMul, Int.reduceNeg, Int.reduceLT, Int.reduceLE, Int.reduceEq, Int.reduceNe, Evid.iv, Evid.c, Place.c, Move.c, Cert.c, Recall.c, Purity.c, Sample.c, Recipe.c, ints, ic]
      refine Two_of (fun hfr => ?_) (fun hfr => ?_)
      · rw [hfr, if_pos rfl] at hr
        have hkP : k < P.length := by
          rcases Nat.lt_or_ge k P.length with h | h
          · exact h
          · rw [List.drop_of_length_le h] at hr; cases hr
        have hPk : P[k]? = some ⟨v, x.mat, x.least, x.most⟩ := by
          have := List.getElem?_drop (xs := P) (i := k) (j := 0)
          rw [← hr] at this; simpa using this.symm
        have hr' : recGo x e.moves (into.drop (i + 1)) = P.drop (k + 1) := by
          rw [drop_cons hPk] at hr
          exact (List.cons.inj hr).2
        have d3 : decide ((P.length : Int) ≤ k) = false := decide_eq_false (by omega)
        simp only [d3, go_sem, Int.reduceNegSucc, Nat.reduceAdd, Nat.reduceSub, Nat.reduceMul, Nat.reduceEqDiff, Nat.reduceLeDiff, Nat.reduceLT, Nat.reduceBEq, Nat.reduceBNe, reduceIte, reduceCtorEq, Int.reduceToNat, Int.reduceAdd, Int.reduceSub, Int.reduceMul, Int.reduceNeg, Int.reduceLT, Int.reduceLE, Int.reduceEq, Int.reduceNe, Evid.iv, Evid.c, Place.c, Move.c, Cert.c, Recall.c, Purity.c, Sample.c, Recipe.c, ints, ic]
        refine DrawP_of 17 (by decide +kernel) ?_
        simp only [List.getElem?_map, hv, hPk, eq_self, go_sem, Int.reduceNegSucc, Nat.reduceAdd, Nat.reduceSub, Nat.reduceMul, Nat.reduceEqDiff, Nat.reduceLeDiff, Nat.reduceLT, Nat.reduceBEq, Nat.reduceBNe, reduceIte, reduceCtorEq, Int.reduceToNat, Int.reduceAdd, Int.reduceSub, Int.reduceMul, Int.reduceNeg, Int.reduceLT, Int.reduceLE, Int.reduceEq, Int.reduceNe, Evid.iv, Evid.c, Place.c, Move.c, Cert.c, Recall.c, Purity.c, Sample.c, Recipe.c, ints, ic]
        refine RoundP_of (i + 1, k + 1) ?_ ?_ ⟨?_, ?_, hr'⟩
        · simp only [h1, h2, Int.natCast_add, go_sem, Int.reduceNegSucc, Nat.reduceAdd, Nat.reduceSub, Nat.reduceMul, Nat.reduceEqDiff, Nat.reduceLeDiff, Nat.reduceLT, Nat.reduceBEq, Nat.reduceBNe, reduceIte, reduceCtorEq, Int.reduceToNat, Int.reduceAdd, Int.reduceSub, Int.reduceMul, Int.reduceNeg, Int.reduceLT, Int.reduceLE, Int.reduceEq, Int.reduceNe, Evid.iv, Evid.c, Place.c, Move.c, Cert.c, Recall.c, Purity.c, Sample.c, Recipe.c, ints, ic]
        · show into.length - (i + 1) < into.length - i; omega
        · show i + 1 ≤ into.length; omega
        · show k + 1 ≤ P.length; omega
      · rw [hfr, if_neg Bool.false_ne_true] at hr
        simp only [go_sem, Int.reduceNegSucc, Nat.reduceAdd, Nat.reduceSub, Nat.reduceMul, Nat.reduceEqDiff, Nat.reduceLeDiff, Nat.reduceLT, Nat.reduceBEq, Nat.reduceBNe, reduceIte, reduceCtorEq, Int.reduceToNat, Int.reduceAdd, Int.reduceSub, Int.reduceMul, Int.reduceNeg, Int.reduceLT, Int.reduceLE, Int.reduceEq, Int.reduceNe, Evid.iv, Evid.c, Place.c, Move.c, Cert.c, Recall.c, Purity.c, Sample.c, Recipe.c, ints, ic]
        refine RoundP_of (i + 1, k) ?_ ?_ ⟨?_, hkl, hr⟩
        · simp only [h1, Int.natCast_add, go_sem, Int.reduceNegSucc, Nat.reduceAdd, Nat.reduceSub, Nat.reduceMul, Nat.reduceEqDiff, Nat.reduceLeDiff, Nat.reduceLT, Nat.reduceBEq, Nat.reduceBNe, reduceIte, reduceCtorEq, Int.reduceToNat, Int.reduceAdd, Int.reduceSub, Int.reduceMul, Int.reduceNeg, Int.reduceLT, Int.reduceLE, Int.reduceEq, Int.reduceNe, Evid.iv, Evid.c, Place.c, Move.c, Cert.c, Recall.c, Purity.c, Sample.c, Recipe.c, ints, ic]
        · show into.length - (i + 1) < into.length - i; omega
        · show i + 1 ≤ into.length; omega
    · have hd : decide ((i : Int) < into.length) = false := decide_eq_false hp
      rw [List.drop_of_length_le (by omega), recGo] at hr
      have : P.length ≤ k := List.drop_eq_nil_iff.1 hr.symm
      have d3 : decide ((k : Int) = P.length) = true := decide_eq_true (by omega)
      simp only [hd, d3, go_sem, Int.reduceNegSucc, Nat.reduceAdd, Nat.reduceSub, Nat.reduceMul, Nat.reduceEqDiff, Nat.reduceLeDiff, Nat.reduceLT, Nat.reduceBEq, Nat.reduceBNe, reduceIte, reduceCtorEq, Int.reduceToNat, Int.reduceAdd, Int.reduceSub, Int.reduceMul, Int.reduceNeg, Int.reduceLT, Int.reduceLE, Int.reduceEq, Int.reduceNe, Evid.iv, Evid.c, Place.c, Move.c, Cert.c, Recall.c, Purity.c, Sample.c, Recipe.c, ints, ic]
  · have h21 := c21 e
    have hok := fun h0 h1 h2 h3 h4 h5 h6 h7 h8 h9 h10 => hk (expand_ok (e := e) (x := x) h0 h1 h2 h3 h4 h5 h6 h7 h8 h9 h10)
    generalize checkF e = ck at *
    generalize expandF e [] [x] = r at *
    obtain ⟨e', k⟩ := r
    dsimp only at hk
    have hkd : decide (k = 0) = false := decide_eq_false hk
    simp only [Evid.iv, Evid.c, Recipe.c, samples, recipes, resE, ints, List.map_cons, List.map_nil] at h8 h12 h21
    refine ctr_go good _ _ [.tmp 4] Try.func6 rfl rfl (by decide +kernel) rfl ?_
    simp only [go_sem, Int.reduceNegSucc, Nat.reduceAdd, Nat.reduceSub, Nat.reduceMul, Nat.reduceEqDiff, Nat.reduceLeDiff, Nat.reduceLT, Nat.reduceBEq, Nat.reduceBNe, reduceIte, reduceCtorEq, Int.reduceToNat, Int.reduceAdd, Int.reduceSub, Int.reduceMul, Int.reduceNeg, Int.reduceLT, Int.reduceLE, Int.reduceEq, Int.reduceNe, Evid.iv, Evid.c, Place.c, Move.c, Cert.c, Recall.c, Purity.c, Sample.c, Recipe.c, ints, ic]
    refine CallP_eq c7 (by decide) ?_
    simp only [go_sem, Int.reduceNegSucc, Nat.reduceAdd, Nat.reduceSub, Nat.reduceMul, Nat.reduceEqDiff, Nat.reduceLeDiff, Nat.reduceLT, Nat.reduceBEq, Nat.reduceBNe, reduceIte, reduceCtorEq, Int.reduceToNat, Int.reduceAdd, Int.reduceSub, Int.reduceMul, Int.reduceNeg, Int.reduceLT, Int.reduceLE, Int.reduceEq, Int.reduceNe, Evid.iv, Evid.c, Place.c, Move.c, Cert.c, Recall.c, Purity.c, Sample.c, Recipe.c, ints, ic]
    refine CallP_eq h8 (by decide) ?_
    simp only [go_sem, Int.reduceNegSucc, Nat.reduceAdd, Nat.reduceSub, Nat.reduceMul, Nat.reduceEqDiff, Nat.reduceLeDiff, Nat.reduceLT, Nat.reduceBEq, Nat.reduceBNe, reduceIte, reduceCtorEq, Int.reduceToNat, Int.reduceAdd, Int.reduceSub, Int.reduceMul, Int.reduceNeg, Int.reduceLT, Int.reduceLE, Int.reduceEq, Int.reduceNe, Evid.iv, Evid.c, Place.c, Move.c, Cert.c, Recall.c, Purity.c, Sample.c, Recipe.c, ints, ic]
    refine CallP_eq h12 (by decide) ?_
    simp only [hkd, go_sem, Int.reduceNegSucc, Nat.reduceAdd, Nat.reduceSub, Nat.reduceMul, Nat.reduceEqDiff, Nat.reduceLeDiff, Nat.reduceLT, Nat.reduceBEq, Nat.reduceBNe, reduceIte, reduceCtorEq, Int.reduceToNat, Int.reduceAdd, Int.reduceSub, Int.reduceMul, Int.reduceNeg, Int.reduceLT, Int.reduceLE, Int.reduceEq, Int.reduceNe, Evid.iv, Evid.c, Place.c, Move.c, Cert.c, Recall.c, Purity.c, Sample.c, Recipe.c, ints, ic]
    refine CallP_eq h21 (by decide) ?_
    simp only [w1, go_sem, Int.reduceNegSucc, Nat.reduceAdd, Nat.reduceSub, Nat.reduceMul, Nat.reduceEqDiff, Nat.reduceLeDiff, Nat.reduceLT, Nat.reduceBEq, Nat.reduceBNe, reduceIte, reduceCtorEq, Int.reduceToNat, Int.reduceAdd, Int.reduceSub, Int.reduceMul, Int.reduceNeg, Int.reduceLT, Int.reduceLE, Int.reduceEq, Int.reduceNe, Evid.iv, Evid.c, Place.c, Move.c, Cert.c, Recall.c, Purity.c, Sample.c, Recipe.c, ints, ic]
    clear h8 h12 h21
    refine Two_of (fun d0 => ?_) (fun d0 => ?_)
    case refine_2 => simp only [d0, go_sem, Int.reduceNegSucc, Nat.reduceAdd, Nat.reduceSub, Nat.reduceMul, Nat.reduceEqDiff, Nat.reduceLeDiff, Nat.reduceLT, Nat.reduceBEq, Nat.reduceBNe, reduceIte, reduceCtorEq, Int.reduceToNat, Int.reduceAdd, Int.reduceSub, Int.reduceMul, Int.reduceNeg, Int.reduceLT, Int.reduceLE, Int.reduceEq, Int.reduceNe, Evid.iv, Evid.c, Place.c, Move.c, Cert.c, Recall.c, Purity.c, Sample.c, Recipe.c, ints, ic]
    simp only [d0, w1, go_sem, Int.reduceNegSucc, Nat.reduceAdd, Nat.reduceSub, Nat.reduceMul, Nat.reduceEqDiff, Nat.reduceLeDiff, Nat.reduceLT, Nat.reduceBEq, Nat.reduceBNe, reduceIte, reduceCtorEq, Int.reduceToNat, Int.reduceAdd, Int.reduceSub, Int.reduceMul, Int.reduceNeg, Int.reduceLT, Int.reduceLE, Int.reduceEq, Int.reduceNe, Evid.iv, Evid.c, Place.c, Move.c, Cert.c, Recall.c, Purity.c, Sample.c, Recipe.c, ints, ic]
    refine Two_of (fun d1 => ?_) (fun d1 => ?_)
    · simp only [d1, go_sem, Int.reduceNegSucc, Nat.reduceAdd, Nat.reduceSub, Nat.reduceMul, Nat.reduceEqDiff, Nat.reduceLeDiff, Nat.reduceLT, Nat.reduceBEq, Nat.reduceBNe, reduceIte, reduceCtorEq, Int.reduceToNat, Int.reduceAdd, Int.reduceSub, Int.reduceMul, Int.reduceNeg, Int.reduceLT, Int.reduceLE, Int.reduceEq, Int.reduceNe, Evid.iv, Evid.c, Place.c, Move.c, Cert.c, Recall.c, Purity.c, Sample.c, Recipe.c, ints, ic]
    simp only [d0, d1, w1, go_sem, Int.reduceNegSucc, Nat.reduceAdd, Nat.reduceSub, Nat.reduceMul, Nat.reduceEqDiff, Nat.reduceLeDiff, Nat.reduceLT, Nat.reduceBEq, Nat.reduceBNe, reduceIte, reduceCtorEq, Int.reduceToNat, Int.reduceAdd, Int.reduceSub, Int.reduceMul, Int.reduceNeg, Int.reduceLT, Int.reduceLE, Int.reduceEq, Int.reduceNe, Evid.iv, Evid.c, Place.c, Move.c, Cert.c, Recall.c, Purity.c, Sample.c, Recipe.c, ints, ic]
    refine Two_of (fun d2 => ?_) (fun d2 => ?_)
    · simp only [d2, go_sem, Int.reduceNegSucc, Nat.reduceAdd, Nat.reduceSub, Nat.reduceMul, Nat.reduceEqDiff, Nat.reduceLeDiff, Nat.reduceLT, Nat.reduceBEq, Nat.reduceBNe, reduceIte, reduceCtorEq, Int.reduceToNat, Int.reduceAdd, Int.reduceSub, Int.reduceMul, Int.reduceNeg, Int.reduceLT, Int.reduceLE, Int.reduceEq, Int.reduceNe, Evid.iv, Evid.c, Place.c, Move.c, Cert.c, Recall.c, Purity.c, Sample.c, Recipe.c, ints, ic]
    simp only [d0, d1, d2, w1, go_sem, Int.reduceNegSucc, Nat.reduceAdd, Nat.reduceSub, Nat.reduceMul, Nat.reduceEqDiff, Nat.reduceLeDiff, Nat.reduceLT, Nat.reduceBEq, Nat.reduceBNe, reduceIte, reduceCtorEq, Int.reduceToNat, Int.reduceAdd, Int.reduceSub, Int.reduceMul, Int.reduceNeg, Int.reduceLT, Int.reduceLE, Int.reduceEq, Int.reduceNe, Evid.iv, Evid.c, Place.c, Move.c, Cert.c, Recall.c, Purity.c, Sample.c, Recipe.c, ints, ic]
    refine Two_of (fun d3 => ?_) (fun d3 => ?_)
    · simp only [d3, go_sem, Int.reduceNegSucc, Nat.reduceAdd, Nat.reduceSub, Nat.reduceMul, Nat.reduceEqDiff, Nat.reduceLeDiff, Nat.reduceLT, Nat.reduceBEq, Nat.reduceBNe, reduceIte, reduceCtorEq, Int.reduceToNat, Int.reduceAdd, Int.reduceSub, Int.reduceMul, Int.reduceNeg, Int.reduceLT, Int.reduceLE, Int.reduceEq, Int.reduceNe, Evid.iv, Evid.c, Place.c, Move.c, Cert.c, Recall.c, Purity.c, Sample.c, Recipe.c, ints, ic]
    simp only [d0, d1, d2, d3, w1, go_sem, Int.reduceNegSucc, Nat.reduceAdd, Nat.reduceSub, Nat.reduceMul, Nat.reduceEqDiff, Nat.reduceLeDiff, Nat.reduceLT, Nat.reduceBEq, Nat.reduceBNe, reduceIte, reduceCtorEq, Int.reduceToNat, Int.reduceAdd, Int.reduceSub, Int.reduceMul, Int.reduceNeg, Int.reduceLT, Int.reduceLE, Int.reduceEq, Int.reduceNe, Evid.iv, Evid.c, Place.c, Move.c, Cert.c, Recall.c, Purity.c, Sample.c, Recipe.c, ints, ic]
    refine Two_of (fun d4 => ?_) (fun d4 => ?_)
    · simp only [d4, go_sem, Int.reduceNegSucc, Nat.reduceAdd, Nat.reduceSub, Nat.reduceMul, Nat.reduceEqDiff, Nat.reduceLeDiff, Nat.reduceLT, Nat.reduceBEq, Nat.reduceBNe, reduceIte, reduceCtorEq, Int.reduceToNat, Int.reduceAdd, Int.reduceSub, Int.reduceMul, Int.reduceNeg, Int.reduceLT, Int.reduceLE, Int.reduceEq, Int.reduceNe, Evid.iv, Evid.c, Place.c, Move.c, Cert.c, Recall.c, Purity.c, Sample.c, Recipe.c, ints, ic]
    simp only [d0, d1, d2, d3, d4, w1, go_sem, Int.reduceNegSucc, Nat.reduceAdd, Nat.reduceSub, Nat.reduceMul, Nat.reduceEqDiff, Nat.reduceLeDiff, Nat.reduceLT, Nat.reduceBEq, Nat.reduceBNe, reduceIte, reduceCtorEq, Int.reduceToNat, Int.reduceAdd, Int.reduceSub, Int.reduceMul, Int.reduceNeg, Int.reduceLT, Int.reduceLE, Int.reduceEq, Int.reduceNe, Evid.iv, Evid.c, Place.c, Move.c, Cert.c, Recall.c, Purity.c, Sample.c, Recipe.c, ints, ic]
    refine Two_of (fun d5 => ?_) (fun d5 => ?_)
    · simp only [d5, go_sem, Int.reduceNegSucc, Nat.reduceAdd, Nat.reduceSub, Nat.reduceMul, Nat.reduceEqDiff, Nat.reduceLeDiff, Nat.reduceLT, Nat.reduceBEq, Nat.reduceBNe, reduceIte, reduceCtorEq, Int.reduceToNat, Int.reduceAdd, Int.reduceSub, Int.reduceMul, Int.reduceNeg, Int.reduceLT, Int.reduceLE, Int.reduceEq, Int.reduceNe, Evid.iv, Evid.c, Place.c, Move.c, Cert.c, Recall.c, Purity.c, Sample.c, Recipe.c, ints, ic]
    simp only [d0, d1, d2, d3, d4, d5, w1, go_sem, Int.reduceNegSucc, Nat.reduceAdd, Nat.reduceSub, Nat.reduceMul, Nat.reduceEqDiff, Nat.reduceLeDiff, Nat.reduceLT, Nat.reduceBEq, Nat.reduceBNe, reduceIte, reduceCtorEq, Int.reduceToNat, Int.reduceAdd, Int.reduceSub, Int.reduceMul, Int.reduceNeg, Int.reduceLT, Int.reduceLE, Int.reduceEq, Int.reduceNe, Evid.iv, Evid.c, Place.c, Move.c, Cert.c, Recall.c, Purity.c, Sample.c, Recipe.c, ints, ic]
    refine Two_of (fun d6 => ?_) (fun d6 => ?_)
    · simp only [d6, go_sem, Int.reduceNegSucc, Nat.reduceAdd, Nat.reduceSub, Nat.reduceMul, Nat.reduceEqDiff, Nat.reduceLeDiff, Nat.reduceLT, Nat.reduceBEq, Nat.reduceBNe, reduceIte, reduceCtorEq, Int.reduceToNat, Int.reduceAdd, Int.reduceSub, Int.reduceMul, Int.reduceNeg, Int.reduceLT, Int.reduceLE, Int.reduceEq, Int.reduceNe, Evid.iv, Evid.c, Place.c, Move.c, Cert.c, Recall.c, Purity.c, Sample.c, Recipe.c, ints, ic]
    simp only [d0, d1, d2, d3, d4, d5, d6, w1, go_sem, Int.reduceNegSucc, Nat.reduceAdd, Nat.reduceSub, Nat.reduceMul, Nat.reduceEqDiff, Nat.reduceLeDiff, Nat.reduceLT, Nat.reduceBEq, Nat.reduceBNe, reduceIte, reduceCtorEq, Int.reduceToNat, Int.reduceAdd, Int.reduceSub, Int.reduceMul, Int.reduceNeg, Int.reduceLT, Int.reduceLE, Int.reduceEq, Int.reduceNe, Evid.iv, Evid.c, Place.c, Move.c, Cert.c, Recall.c, Purity.c, Sample.c, Recipe.c, ints, ic]
    refine Two_of (fun d7 => ?_) (fun d7 => ?_)
    · simp only [d7, go_sem, Int.reduceNegSucc, Nat.reduceAdd, Nat.reduceSub, Nat.reduceMul, Nat.reduceEqDiff, Nat.reduceLeDiff, Nat.reduceLT, Nat.reduceBEq, Nat.reduceBNe, reduceIte, reduceCtorEq, Int.reduceToNat, Int.reduceAdd, Int.reduceSub, Int.reduceMul, Int.reduceNeg, Int.reduceLT, Int.reduceLE, Int.reduceEq, Int.reduceNe, Evid.iv, Evid.c, Place.c, Move.c, Cert.c, Recall.c, Purity.c, Sample.c, Recipe.c, ints, ic]
    simp only [d0, d1, d2, d3, d4, d5, d6, d7, w1, go_sem, Int.reduceNegSucc, Nat.reduceAdd, Nat.reduceSub, Nat.reduceMul, Nat.reduceEqDiff, Nat.reduceLeDiff, Nat.reduceLT, Nat.reduceBEq, Nat.reduceBNe, reduceIte, reduceCtorEq, Int.reduceToNat, Int.reduceAdd, Int.reduceSub, Int.reduceMul, Int.reduceNeg, Int.reduceLT, Int.reduceLE, Int.reduceEq, Int.reduceNe, Evid.iv, Evid.c, Place.c, Move.c, Cert.c, Recall.c, Purity.c, Sample.c, Recipe.c, ints, ic]
    refine Two_of (fun d8 => ?_) (fun d8 => ?_)
    · simp only [d8, go_sem, Int.reduceNegSucc, Nat.reduceAdd, Nat.reduceSub, Nat.reduceMul, Nat.reduceEqDiff, Nat.reduceLeDiff, Nat.reduceLT, Nat.reduceBEq, Nat.reduceBNe, reduceIte, reduceCtorEq, Int.reduceToNat, Int.reduceAdd, Int.reduceSub, Int.reduceMul, Int.reduceNeg, Int.reduceLT, Int.reduceLE, Int.reduceEq, Int.reduceNe, Evid.iv, Evid.c, Place.c, Move.c, Cert.c, Recall.c, Purity.c, Sample.c, Recipe.c, ints, ic]
    simp only [d0, d1, d2, d3, d4, d5, d6, d7, d8, w1, go_sem, Int.reduceNegSucc, Nat.reduceAdd, Nat.reduceSub, Nat.reduceMul, Nat.reduceEqDiff, Nat.reduceLeDiff, Nat.reduceLT, Nat.reduceBEq, Nat.reduceBNe, reduceIte, reduceCtorEq, Int.reduceToNat, Int.reduceAdd, Int.reduceSub, Int.reduceMul, Int.reduceNeg, Int.reduceLT, Int.reduceLE, Int.reduceEq, Int.reduceNe, Evid.iv, Evid.c, Place.c, Move.c, Cert.c, Recall.c, Purity.c, Sample.c, Recipe.c, ints, ic]
    refine Two_of (fun d9 => ?_) (fun d9 => ?_)
    · simp only [d9, go_sem, Int.reduceNegSucc, Nat.reduceAdd, Nat.reduceSub, Nat.reduceMul, Nat.reduceEqDiff, Nat.reduceLeDiff, Nat.reduceLT, Nat.reduceBEq, Nat.reduceBNe, reduceIte, reduceCtorEq, Int.reduceToNat, Int.reduceAdd, Int.reduceSub, Int.reduceMul, Int.reduceNeg, Int.reduceLT, Int.reduceLE, Int.reduceEq, Int.reduceNe, Evid.iv, Evid.c, Place.c, Move.c, Cert.c, Recall.c, Purity.c, Sample.c, Recipe.c, ints, ic]
    simp only [d0, d1, d2, d3, d4, d5, d6, d7, d8, d9, w1, go_sem, Int.reduceNegSucc, Nat.reduceAdd, Nat.reduceSub, Nat.reduceMul, Nat.reduceEqDiff, Nat.reduceLeDiff, Nat.reduceLT, Nat.reduceBEq, Nat.reduceBNe, reduceIte, reduceCtorEq, Int.reduceToNat, Int.reduceAdd, Int.reduceSub, Int.reduceMul, Int.reduceNeg, Int.reduceLT, Int.reduceLE, Int.reduceEq, Int.reduceNe, Evid.iv, Evid.c, Place.c, Move.c, Cert.c, Recall.c, Purity.c, Sample.c, Recipe.c, ints, ic]
    have d10 : decide (200 < (e.purs.length : Int) + e.moves.length) = true := by
      cases h : decide (200 < (e.purs.length : Int) + e.moves.length)
      · exact (hok (of_decide_eq_true d0) (of_decide_eq_false d1) (of_decide_eq_false d2) (of_decide_eq_false d3) (of_decide_eq_false d4) (of_decide_eq_false d5) (of_decide_eq_false d6) (of_decide_eq_false d7) (of_decide_eq_false d8) (of_decide_eq_false d9) (of_decide_eq_false h)).elim
      · rfl
    rw [d10]
end Go.Proofs.Ytpnlfkaijdjhlaa
