/- What every seat's texts begin with. -/
import Derived.Test.YtpnlfkaijdjhlabKX10
import Derived.IntWalk
import Derived.Test.YtpnlfkaijdjhlabKX3
namespace Go.Proofs.Ytpnlfkaijdjhlab
set_option linter.all false
open Go.Abs

def ic (n : Int) : List IV := [.int n]
def ints (l : List Int) : IV := .sl (l.map ic)
theorem i64_ok {n : Int} (h : -9223372036854775808 ≤ n ∧ n ≤ 9223372036854775807) : IntKind.i64.wrap n = n := IntWalk.i64_in n h
end Go.Proofs.Ytpnlfkaijdjhlab

namespace Go.Proofs.Ytpnlfkaijdjhlab
set_option linter.all false
open Go.Abs
set_option linter.all false

/-- A posting. -/
structure Pst where
  h : Int
  p : Int
  c : Int
  v : Int
  deriving DecidableEq, Inhabited
def inF (n lo hi : Int) : Bool := decide (lo ≤ n) && decide (n ≤ hi)
def okP (x : Pst) : Bool := inF x.h 0 99 && (inF x.p 0 100000 && (inF x.v 0 100000 && (inF x.c (-1125899906842624) 1125899906842624 && !decide (x.c = 0))))
def befStep (h p : Int) (s : Int × Int) (x : Pst) : Int × Int := if x.h = h ∧ x.p = p then (s.1 + x.c, x.v) else s
/-- The sum, and the last version. -/
def bef (a : List Pst) (h p : Int) : Int × Int := a.foldl (befStep h p) (0, -1)
def has (a : List Pst) (h p : Int) : Bool := a.any fun x => decide (x.h = h ∧ x.p = p)
def stepOk (pre : List Pst) (x : Pst) : Bool := okP x && (decide ((bef pre x.h x.p).2 < x.v) && inF ((bef pre x.h x.p).1 + x.c) 0 1125899906842624)
def rightL (pre : List Pst) : List Pst → Bool
  | [] => true
  | x :: r => stepOk pre x && rightL (pre ++ [x]) r
def rightA (a : List Pst) : Bool := !decide (500 < (a.length : Int)) && rightL [] a
/-- All up to here are right. -/
def Rt (a : List Pst) : Prop := rightL [] a = true
theorem bef_snoc (a : List Pst) (x : Pst) (h p : Int) : bef (a ++ [x]) h p = befStep h p (bef a h p) x := by
  rw [bef, List.foldl_append]; rfl
theorem has_snoc (a : List Pst) (x : Pst) (h p : Int) : has (a ++ [x]) h p = (has a h p || decide (x.h = h ∧ x.p = p)) := by
  rw [has, List.any_append]; simp [has]
theorem rightL_app : ∀ (b pre : List Pst) (x : Pst), rightL pre (b ++ [x]) = (rightL pre b && stepOk (pre ++ b) x)
  | [], pre, x => by simp [rightL]
  | y :: b, pre, x => by
    rw [List.cons_append, rightL, rightL, rightL_app b (pre ++ [y]) x, Bool.and_assoc, List.append_assoc, List.singleton_append]
theorem rt_snoc (a : List Pst) (x : Pst) : Rt (a ++ [x]) ↔ Rt a ∧ stepOk a x = true := by
  rw [Rt, Rt, rightL_app, List.nil_append, Bool.and_eq_true]
theorem rightL_take : ∀ (b pre : List Pst) (i : Nat), rightL pre b = true → rightL pre (b.take i) = true
  | [], pre, i, h => by simp [rightL]
  | y :: b, pre, 0, h => rfl
  | y :: b, pre, i + 1, h => by
    rw [rightL, Bool.and_eq_true] at h
    rw [List.take_succ_cons, rightL, h.1, rightL_take b _ i h.2]; rfl
theorem Rt.take {a : List Pst} (h : Rt a) (i : Nat) : Rt (a.take i) := rightL_take a [] i h
theorem rt_nil : Rt [] := rfl
/-- A list, from its end. -/
theorem snoc_ind {P : List Pst → Prop} (h0 : P []) (h1 : ∀ a x, P a → P (a ++ [x])) : ∀ a, P a := fun a => by
  have : ∀ n, P (a.take n) := fun n => by
    induction n with
    | zero => simpa using h0
    | succ n ih =>
      cases hx : a[n]? with
      | none => rwa [List.take_of_length_le (by have := List.getElem?_eq_none_iff.1 hx; omega), ← List.take_of_length_le (List.getElem?_eq_none_iff.1 hx)]
      | some x => rw [List.take_add_one, hx]; exact h1 _ x ih
  have := this a.length
  rwa [List.take_length] at this
theorem inF_iff {n lo hi : Int} : inF n lo hi = true ↔ lo ≤ n ∧ n ≤ hi := by
  rw [inF, Bool.and_eq_true, decide_eq_true_eq, decide_eq_true_eq]
theorem okP_iff {x : Pst} : okP x = true ↔ (0 ≤ x.h ∧ x.h ≤ 99) ∧ (0 ≤ x.p ∧ x.p ≤ 100000) ∧ (0 ≤ x.v ∧ x.v ≤ 100000) ∧ (-1125899906842624 ≤ x.c ∧ x.c ≤ 1125899906842624) ∧ x.c ≠ 0 := by
  simp only [okP, Bool.and_eq_true, inF_iff, Bool.not_eq_true', decide_eq_false_iff_not, ne_eq]
theorem stepOk_iff {a : List Pst} {x : Pst} : stepOk a x = true ↔ okP x = true ∧ (bef a x.h x.p).2 < x.v ∧ 0 ≤ (bef a x.h x.p).1 + x.c ∧ (bef a x.h x.p).1 + x.c ≤ 1125899906842624 := by
  rw [stepOk, Bool.and_eq_true, Bool.and_eq_true, decide_eq_true_eq, inF_iff]
/-- What holds of the sums of a right account. -/
theorem bef_rt (a : List Pst) : Rt a → ∀ h p, (0 ≤ (bef a h p).1 ∧ (bef a h p).1 ≤ 1125899906842624) ∧ (-1 ≤ (bef a h p).2 ∧ (bef a h p).2 ≤ 100000) ∧ (has a h p = false → bef a h p = (0, -1)) ∧ (has a h p = true → 0 ≤ (bef a h p).2 ∧ (0 ≤ h ∧ h ≤ 99) ∧ (0 ≤ p ∧ p ≤ 100000)) := by
  refine snoc_ind (P := fun a => Rt a → ∀ h p, (0 ≤ (bef a h p).1 ∧ (bef a h p).1 ≤ 1125899906842624) ∧ (-1 ≤ (bef a h p).2 ∧ (bef a h p).2 ≤ 100000) ∧ (has a h p = false → bef a h p = (0, -1)) ∧ (has a h p = true → 0 ≤ (bef a h p).2 ∧ (0 ≤ h ∧ h ≤ 99) ∧ (0 ≤ p ∧ p ≤ 100000))) (fun _ h p => ?_) (fun a x ih hr h p => ?_) a
  · exact ⟨by simp [bef], by simp [bef], fun _ => rfl, fun e => by simp [has] at e⟩
  · obtain ⟨hr, hs⟩ := (rt_snoc a x).1 hr
    have ih := ih hr h p
    rw [stepOk_iff, okP_iff] at hs
    rw [bef_snoc, has_snoc, befStep]
    by_cases hx : x.h = h ∧ x.p = p
    · obtain ⟨rfl, rfl⟩ := hx
      rw [if_pos ⟨rfl, rfl⟩]
      refine ⟨⟨hs.2.2.1, hs.2.2.2⟩, by dsimp only; omega, fun e => ?_, fun _ => ⟨by dsimp only; omega, by omega, by omega⟩⟩
      simp at e
    · rw [if_neg hx, decide_eq_false hx, Bool.or_false]
      exact ih
/-- The map of the balances. -/
def balStep (k : List (List Int × List Int)) (x : Pst) : List (List Int × List Int) := mput k [x.h, x.p] [((mget k [x.h, x.p]).getD [0, 0]).headD 0 + x.c, x.v]
def balF (a : List Pst) : List (List Int × List Int) := a.foldl balStep []
theorem balF_snoc (a : List Pst) (x : Pst) : balF (a ++ [x]) = balStep (balF a) x := by
  rw [balF, List.foldl_append]; rfl
theorem mget_mput : ∀ (l : List (List Int × List Int)) (x v y : List Int), mget (mput l x v) y = if y = x then some v else mget l y
  | [], x, v, y => by simp only [mput, mget]
  | (k, u) :: r, x, v, y => by
    have ih := mget_mput r x v y
    simp only [mput]
    by_cases h : x = k
    · subst h
      rw [if_pos rfl]
      simp only [mget]
      by_cases hy : y = x <;> simp [hy]
    · rw [if_neg h]
      simp only [mget]
      by_cases hy : y = k
      · subst hy
        rw [if_pos rfl, if_pos rfl, if_neg (Ne.symm h)]
      · rw [if_neg hy, if_neg hy, ih]
theorem bal_get (a : List Pst) : ∀ h p, mget (balF a) [h, p] = if has a h p = true then some [(bef a h p).1, (bef a h p).2] else none := by
  refine snoc_ind (P := fun a => (∀ h p, has a h p = false → (bef a h p).1 = 0) ∧ ∀ h p, mget (balF a) [h, p] = if has a h p = true then some [(bef a h p).1, (bef a h p).2] else none) ?_ ?_ a |>.2
  · exact ⟨fun _ _ _ => rfl, fun _ _ => rfl⟩
  · rintro a x ⟨ih0, ih⟩
    refine ⟨fun h p hh => ?_, fun h p => ?_⟩
    · rw [has_snoc, Bool.or_eq_false_iff, decide_eq_false_iff_not] at hh
      rw [bef_snoc, befStep, if_neg hh.2]
      exact ih0 h p hh.1
    · rw [balF_snoc, balStep, mget_mput, has_snoc, bef_snoc, befStep]
      by_cases hx : x.h = h ∧ x.p = p
      · obtain ⟨rfl, rfl⟩ := hx
        have e0 : decide (x.h = x.h ∧ x.p = x.p) = true := decide_eq_true ⟨rfl, rfl⟩
        rw [if_pos rfl, e0, Bool.or_true, if_pos rfl, if_pos (show x.h = x.h ∧ x.p = x.p from ⟨rfl, rfl⟩), ih]
        by_cases hh : has a x.h x.p = true
        · rw [if_pos hh]; rfl
        · rw [if_neg hh, ih0 x.h x.p (by simpa using hh)]; rfl
      · rw [if_neg (fun e => hx (by simp only [List.cons.injEq, and_true] at e; exact ⟨e.1.symm, e.2.symm⟩)), if_neg hx, decide_eq_false hx, Bool.or_false, ih]
def pcells (x : Pst) : List IV := [.int x.h, .int x.p, .int x.c, .int x.v]
def posts (a : List Pst) : IV := .sl (a.map pcells)
def postF (a : List Pst) (h p v c : Int) : List Pst × Int :=
  if (rightA a && (inF h 0 99 && (inF p 0 100000 && inF v 0 100000))) = false then ([], 1) else
  if inF c 0 1125899906842624 = false then ([], 3) else
  if (bef a h p).1 = c then (a, 0) else
  if v ≤ (bef a h p).2 then ([], 5) else
  if 500 ≤ (a.length : Int) then ([], 6) else (a ++ [⟨h, p, c - (bef a h p).1, v⟩], 0)
def balanceF (a : List Pst) (h p : Int) : Int := if rightA a = true then (bef a h p).1 else 0
end Go.Proofs.Ytpnlfkaijdjhlab

namespace Go.Proofs.Ytpnlfkaijdjhlab
set_option linter.all false
open Go.Abs

theorem t_pin (n lo hi : Int) : Ctr G.P 33 [.int n, .int lo, .int hi] (· = .bool (inF n lo hi)) := by
  refine ctr_go good _ _ [.tmp 6] Try.func33 rfl rfl (by decide +kernel) rfl ?_
  simp only [go_sem, Int.reduceNegSucc, Nat.reduceAdd, Nat.reduceSub, Nat.reduceMul, Nat.reduceEqDiff, Nat.reduceLeDiff, Nat.reduceLT, Nat.reduceBEq, Nat.reduceBNe, reduceIte, reduceCtorEq, Int.reduceToNat, Int.reduceAdd, Int.reduceSub, Int.reduceMul, Int.reduceNeg, Int.reduceLT, Int.reduceLE, Int.reduceEq, Int.reduceNe, posts, pcells]
  refine Two_of (fun d => ?_) (fun d => ?_)
  · simp only [d, go_sem, Int.reduceNegSucc, Nat.reduceAdd, Nat.reduceSub, Nat.reduceMul, Nat.reduceEqDiff, Nat.reduceLeDiff, Nat.reduceLT, Nat.reduceBEq, Nat.reduceBNe, reduceIte, reduceCtorEq, Int.reduceToNat, Int.reduceAdd, Int.reduceSub, Int.reduceMul, Int.reduceNeg, Int.reduceLT, Int.reduceLE, Int.reduceEq, Int.reduceNe, posts, pcells]
    rw [inF, d]; rfl
  · simp only [d, go_sem, Int.reduceNegSucc, Nat.reduceAdd, Nat.reduceSub, Nat.reduceMul, Nat.reduceEqDiff, Nat.reduceLeDiff, Nat.reduceLT, Nat.reduceBEq, Nat.reduceBNe, reduceIte, reduceCtorEq, Int.reduceToNat, Int.reduceAdd, Int.reduceSub, Int.reduceMul, Int.reduceNeg, Int.reduceLT, Int.reduceLE, Int.reduceEq, Int.reduceNe, posts, pcells]
    rw [inF, d]; rfl
theorem t_rin (n lo hi : Int) : Ctr G.P 35 [.int n, .int lo, .int hi] (· = .bool (inF n lo hi)) := by
  refine ctr_go good _ _ [.tmp 6] Try.func35 rfl rfl (by decide +kernel) rfl ?_
  simp only [go_sem, Int.reduceNegSucc, Nat.reduceAdd, Nat.reduceSub, Nat.reduceMul, Nat.reduceEqDiff, Nat.reduceLeDiff, Nat.reduceLT, Nat.reduceBEq, Nat.reduceBNe, reduceIte, reduceCtorEq, Int.reduceToNat, Int.reduceAdd, Int.reduceSub, Int.reduceMul, Int.reduceNeg, Int.reduceLT, Int.reduceLE, Int.reduceEq, Int.reduceNe, posts, pcells]
  refine Two_of (fun d => ?_) (fun d => ?_)
  · simp only [d, go_sem, Int.reduceNegSucc, Nat.reduceAdd, Nat.reduceSub, Nat.reduceMul, Nat.reduceEqDiff, Nat.reduceLeDiff, Nat.reduceLT, Nat.reduceBEq, Nat.reduceBNe, reduceIte, reduceCtorEq, Int.reduceToNat, Int.reduceAdd, Int.reduceSub, Int.reduceMul, Int.reduceNeg, Int.reduceLT, Int.reduceLE, Int.reduceEq, Int.reduceNe, posts, pcells]
    rw [inF, d]; rfl
  · simp only [d, go_sem, Int.reduceNegSucc, Nat.reduceAdd, Nat.reduceSub, Nat.reduceMul, Nat.reduceEqDiff, Nat.reduceLeDiff, Nat.reduceLT, Nat.reduceBEq, Nat.reduceBNe, reduceIte, reduceCtorEq, Int.reduceToNat, Int.reduceAdd, Int.reduceSub, Int.reduceMul, Int.reduceNeg, Int.reduceLT, Int.reduceLE, Int.reduceEq, Int.reduceNe, posts, pcells]
    rw [inF, d]; rfl
theorem take_snoc {a : List Pst} {i : Nat} {x : Pst} (h : a[i]? = some x) : a.take (i + 1) = a.take i ++ [x] := by
  rw [List.take_add_one, h]; rfl
set_option maxRecDepth 100000 in
set_option maxHeartbeats 1000000 in
theorem t_before (a : List Pst) (n : Nat) (h p : Int) (hn : n ≤ a.length) (hl : a.length ≤ 1000000) (hr : Rt (a.take n)) : Ctr G.P 36 [posts a, .int n, .int h, .int p] (· = .tup [.int (bef (a.take n) h p).1, .int (bef (a.take n) h p).2]) := by
  refine ctr_go good _ _ [.tmp 8, .tmp 9] Try.func36 rfl rfl (by decide +kernel) rfl ?_
  simp only [go_sem, Int.reduceNegSucc, Nat.reduceAdd, Nat.reduceSub, Nat.reduceMul, Nat.reduceEqDiff, Nat.reduceLeDiff, Nat.reduceLT, Nat.reduceBEq, Nat.reduceBNe, reduceIte, reduceCtorEq, Int.reduceToNat, Int.reduceAdd, Int.reduceSub, Int.reduceMul, Int.reduceNeg, Int.reduceLT, Int.reduceLE, Int.reduceEq, Int.reduceNe, posts, pcells]
  refine LoopP_of [0, 1, 2, 3, 10, 11, 12] [] (fun i : Nat => ⟨[(0, .im (.sl (a.map pcells))), (1, .im (.int n)), (2, .im (.int h)), (3, .im (.int p)), (10, .im (.int (bef (a.take i) h p).1)), (11, .im (.int (bef (a.take i) h p).2)), (12, .im (.int i))], [], []⟩)
    (fun i => i ≤ n) (fun i => n - i) 0 ?_ (Nat.zero_le _) ?_
  · simp only [Int.natCast_zero, List.take_zero, bef, List.foldl_nil, go_sem, Int.reduceNegSucc, Nat.reduceAdd, Nat.reduceSub, Nat.reduceMul, Nat.reduceEqDiff, Nat.reduceLeDiff, Nat.reduceLT, Nat.reduceBEq, Nat.reduceBNe, reduceIte, reduceCtorEq, Int.reduceToNat, Int.reduceAdd, Int.reduceSub, Int.reduceMul, Int.reduceNeg, Int.reduceLT, Int.reduceLE, Int.reduceEq, Int.reduceNe, posts, pcells]
  intro i hi
  by_cases hp : (i : Int) < n
  · have hd : decide ((i : Int) < n) = true := decide_eq_true hp
    obtain ⟨x, hx⟩ : ∃ x, a[i]? = some x := ⟨_, List.getElem?_eq_getElem (by omega)⟩
    have hw := i64_ok (n := (i : Int) + 1) (by omega)
    have hil : (i : Int) < a.length := by omega
    have hsn := take_snoc hx
    have hrt : Rt (a.take (i + 1)) := by
      have := hr.take (i + 1)
      rwa [List.take_take, Nat.min_eq_left (by omega)] at this
    have hb := bef_snoc (a.take i) x h p
    rw [← hsn] at hb
    obtain ⟨hrt0, hst⟩ := (rt_snoc _ _).1 (hsn ▸ hrt)
    have hr0 := (bef_rt _ hrt0 h p).1
    have hr1 := (bef_rt _ hrt h p).1
    rw [stepOk_iff, okP_iff] at hst
    have hws := i64_ok (n := (bef (a.take i) h p).1 + x.c) (by omega)
    have hf : x.h = h ∧ x.p = p → bef (a.take (i + 1)) h p = ((bef (a.take i) h p).1 + x.c, x.v) := fun e => by rw [hb, befStep, if_pos e]
    have hf' : ¬ (x.h = h ∧ x.p = p) → bef (a.take (i + 1)) h p = bef (a.take i) h p := fun e => by rw [hb, befStep, if_neg e]
    simp only [hd, hil, List.getElem?_map, hx, go_sem, Int.reduceNegSucc, Nat.reduceAdd, Nat.reduceSub, Nat.reduceMul, Nat.reduceEqDiff, Nat.reduceLeDiff, Nat.reduceLT, Nat.reduceBEq, Nat.reduceBNe, reduceIte, reduceCtorEq, Int.reduceToNat, Int.reduceAdd, Int.reduceSub, Int.reduceMul, Int.reduceNeg, Int.reduceLT, Int.reduceLE, Int.reduceEq, Int.reduceNe, posts, pcells]
    refine Two_dec (fun d1 d1' => ?_) (fun d1 d1' => ?_)
    · simp only [d1, go_sem, Int.reduceNegSucc, Nat.reduceAdd, Nat.reduceSub, Nat.reduceMul, Nat.reduceEqDiff, Nat.reduceLeDiff, Nat.reduceLT, Nat.reduceBEq, Nat.reduceBNe, reduceIte, reduceCtorEq, Int.reduceToNat, Int.reduceAdd, Int.reduceSub, Int.reduceMul, Int.reduceNeg, Int.reduceLT, Int.reduceLE, Int.reduceEq, Int.reduceNe, posts, pcells]
      refine Two_dec (fun d2 d2' => ?_) (fun d2 d2' => ?_)
      · have e := hf ⟨d1', d2'⟩
        simp only [d2, hws, go_sem, Int.reduceNegSucc, Nat.reduceAdd, Nat.reduceSub, Nat.reduceMul, Nat.reduceEqDiff, Nat.reduceLeDiff, Nat.reduceLT, Nat.reduceBEq, Nat.reduceBNe, reduceIte, reduceCtorEq, Int.reduceToNat, Int.reduceAdd, Int.reduceSub, Int.reduceMul, Int.reduceNeg, Int.reduceLT, Int.reduceLE, Int.reduceEq, Int.reduceNe, posts, pcells]
        refine RoundP_of (i + 1) ?_ (by omega) (by omega)
        simp only [hw, e, hws, Int.natCast_add, go_sem, Int.reduceNegSucc, Nat.reduceAdd, Nat.reduceSub, Nat.reduceMul, Nat.reduceEqDiff, Nat.reduceLeDiff, Nat.reduceLT, Nat.reduceBEq, Nat.reduceBNe, reduceIte, reduceCtorEq, Int.reduceToNat, Int.reduceAdd, Int.reduceSub, Int.reduceMul, Int.reduceNeg, Int.reduceLT, Int.reduceLE, Int.reduceEq, Int.reduceNe, posts, pcells]
      · have e := hf' fun e => d2' e.2
        simp only [d2, go_sem, Int.reduceNegSucc, Nat.reduceAdd, Nat.reduceSub, Nat.reduceMul, Nat.reduceEqDiff, Nat.reduceLeDiff, Nat.reduceLT, Nat.reduceBEq, Nat.reduceBNe, reduceIte, reduceCtorEq, Int.reduceToNat, Int.reduceAdd, Int.reduceSub, Int.reduceMul, Int.reduceNeg, Int.reduceLT, Int.reduceLE, Int.reduceEq, Int.reduceNe, posts, pcells]
        refine RoundP_of (i + 1) ?_ (by omega) (by omega)
        simp only [hw, e, Int.natCast_add, go_sem, Int.reduceNegSucc, Nat.reduceAdd, Nat.reduceSub, Nat.reduceMul, Nat.reduceEqDiff, Nat.reduceLeDiff, Nat.reduceLT, Nat.reduceBEq, Nat.reduceBNe, reduceIte, reduceCtorEq, Int.reduceToNat, Int.reduceAdd, Int.reduceSub, Int.reduceMul, Int.reduceNeg, Int.reduceLT, Int.reduceLE, Int.reduceEq, Int.reduceNe, posts, pcells]
    · have e := hf' fun e => d1' e.1
      simp only [d1, go_sem, Int.reduceNegSucc, Nat.reduceAdd, Nat.reduceSub, Nat.reduceMul, Nat.reduceEqDiff, Nat.reduceLeDiff, Nat.reduceLT, Nat.reduceBEq, Nat.reduceBNe, reduceIte, reduceCtorEq, Int.reduceToNat, Int.reduceAdd, Int.reduceSub, Int.reduceMul, Int.reduceNeg, Int.reduceLT, Int.reduceLE, Int.reduceEq, Int.reduceNe, posts, pcells]
      refine RoundP_of (i + 1) ?_ (by omega) (by omega)
      simp only [hw, e, Int.natCast_add, go_sem, Int.reduceNegSucc, Nat.reduceAdd, Nat.reduceSub, Nat.reduceMul, Nat.reduceEqDiff, Nat.reduceLeDiff, Nat.reduceLT, Nat.reduceBEq, Nat.reduceBNe, reduceIte, reduceCtorEq, Int.reduceToNat, Int.reduceAdd, Int.reduceSub, Int.reduceMul, Int.reduceNeg, Int.reduceLT, Int.reduceLE, Int.reduceEq, Int.reduceNe, posts, pcells]
  · have hd : decide ((i : Int) < n) = false := decide_eq_false hp
    have hin : i = n := by omega
    subst hin
    simp only [hd, go_sem, Int.reduceNegSucc, Nat.reduceAdd, Nat.reduceSub, Nat.reduceMul, Nat.reduceEqDiff, Nat.reduceLeDiff, Nat.reduceLT, Nat.reduceBEq, Nat.reduceBNe, reduceIte, reduceCtorEq, Int.reduceToNat, Int.reduceAdd, Int.reduceSub, Int.reduceMul, Int.reduceNeg, Int.reduceLT, Int.reduceLE, Int.reduceEq, Int.reduceNe, posts, pcells]
end Go.Proofs.Ytpnlfkaijdjhlab

namespace Go.Proofs.Ytpnlfkaijdjhlab
set_option linter.all false
open Go.Abs

theorem right_step {a : List Pst} {i : Nat} {x : Pst} (hx : a[i]? = some x) (h : stepOk (a.take i) x = false) : rightA a = false := by
  cases hr : rightA a with
  | false => rfl
  | true =>
    rw [rightA, Bool.and_eq_true] at hr
    have := Rt.take hr.2 (i + 1)
    rw [take_snoc hx, rt_snoc, h] at this
    cases this.2
theorem right_end {a : List Pst} {i : Nat} (hi : a.length ≤ i) (h : Rt (a.take i)) (hl : ¬ 500 < (a.length : Int)) : rightA a = true := by
  rw [List.take_of_length_le hi] at h
  rw [rightA, decide_eq_false hl, show rightL [] a = true from h]; rfl
def balR (a : List Pst) : IV := if rightA a = true then .tup [.mp (2, false) (balF a), .bool true] else .tup [.mp (0, false) [], .bool false]
set_option maxRecDepth 100000 in
set_option maxHeartbeats 1000000 in
theorem t_rright (a : List Pst) (hl : a.length ≤ 1000000) : Ctr G.P 16 [posts a] (· = .bool (rightA a)) := by
  by_cases h500 : 500 < (a.length : Int)
  · have hd : decide (500 < (a.length : Int)) = true := decide_eq_true h500
    have hr : rightA a = false := by rw [rightA, hd]; rfl
    rw [hr]
    refine ctr_go good _ _ [.tmp 2] Try.func16 rfl rfl (by decide +kernel) rfl ?_
    simp only [hd, go_sem, Int.reduceNegSucc, Nat.reduceAdd, Nat.reduceSub, Nat.reduceMul, Nat.reduceEqDiff, Nat.reduceLeDiff, Nat.reduceLT, Nat.reduceBEq, Nat.reduceBNe, reduceIte, reduceCtorEq, Int.reduceToNat, Int.reduceAdd, Int.reduceSub, Int.reduceMul, Int.reduceNeg, Int.reduceLT, Int.reduceLE, Int.reduceEq, Int.reduceNe, posts, pcells]
  have h5 : decide (500 < (a.length : Int)) = false := decide_eq_false h500
  refine ctr_go good _ _ [.tmp 2] Try.func16 rfl rfl (by decide +kernel) rfl ?_
  simp only [h5, go_sem, Int.reduceNegSucc, Nat.reduceAdd, Nat.reduceSub, Nat.reduceMul, Nat.reduceEqDiff, Nat.reduceLeDiff, Nat.reduceLT, Nat.reduceBEq, Nat.reduceBNe, reduceIte, reduceCtorEq, Int.reduceToNat, Int.reduceAdd, Int.reduceSub, Int.reduceMul, Int.reduceNeg, Int.reduceLT, Int.reduceLE, Int.reduceEq, Int.reduceNe, posts, pcells]
  refine LoopP_of [0, 3] [] (fun i : Nat => ⟨[(0, .im (.sl (a.map pcells))), (3, .im (.int i))], [], []⟩)
    (fun i => i ≤ a.length ∧ Rt (a.take i)) (fun i => a.length - i) 0 ?_ ⟨Nat.zero_le _, rt_nil⟩ ?_
  · simp only [Int.natCast_zero, go_sem, Int.reduceNegSucc, Nat.reduceAdd, Nat.reduceSub, Nat.reduceMul, Nat.reduceEqDiff, Nat.reduceLeDiff, Nat.reduceLT, Nat.reduceBEq, Nat.reduceBNe, reduceIte, reduceCtorEq, Int.reduceToNat, Int.reduceAdd, Int.reduceSub, Int.reduceMul, Int.reduceNeg, Int.reduceLT, Int.reduceLE, Int.reduceEq, Int.reduceNe, posts, pcells]
  intro i ⟨hi, hrt⟩
  by_cases hp : (i : Int) < a.length
  · have hd : decide ((i : Int) < a.length) = true := decide_eq_true hp
    obtain ⟨x, hx⟩ : ∃ x, a[i]? = some x := ⟨_, List.getElem?_eq_getElem (by omega)⟩
    have hw := i64_ok (n := (i : Int) + 1) (by omega)
    have hno := right_step hx
    have hsn := take_snoc hx
    have c1 := t_rin x.h 0 99
    have c2 := t_rin x.p 0 100000
    have c3 := t_rin x.v 0 100000
    have c4 := t_rin x.c (-1125899906842624) 1125899906842624
    have hb := t_before a i x.h x.p (by omega) hl hrt
    simp only [posts] at hb
    have hr0 := (bef_rt _ hrt x.h x.p).1
    simp only [hd, List.getElem?_map, hx, go_sem, Int.reduceNegSucc, Nat.reduceAdd, Nat.reduceSub, Nat.reduceMul, Nat.reduceEqDiff, Nat.reduceLeDiff, Nat.reduceLT, Nat.reduceBEq, Nat.reduceBNe, reduceIte, reduceCtorEq, Int.reduceToNat, Int.reduceAdd, Int.reduceSub, Int.reduceMul, Int.reduceNeg, Int.reduceLT, Int.reduceLE, Int.reduceEq, Int.reduceNe, posts, pcells]
    refine CallP_eq c1 (by decide) ?_
    simp only [go_sem, Int.reduceNegSucc, Nat.reduceAdd, Nat.reduceSub, Nat.reduceMul, Nat.reduceEqDiff, Nat.reduceLeDiff, Nat.reduceLT, Nat.reduceBEq, Nat.reduceBNe, reduceIte, reduceCtorEq, Int.reduceToNat, Int.reduceAdd, Int.reduceSub, Int.reduceMul, Int.reduceNeg, Int.reduceLT, Int.reduceLE, Int.reduceEq, Int.reduceNe, posts, pcells]
    refine Two_of (fun d1 => ?_) (fun d1 => ?_)
    rotate_left
    · rw [hno (by rw [stepOk, okP, d1]; rfl)]
      simp only [d1, go_sem, Int.reduceNegSucc, Nat.reduceAdd, Nat.reduceSub, Nat.reduceMul, Nat.reduceEqDiff, Nat.reduceLeDiff, Nat.reduceLT, Nat.reduceBEq, Nat.reduceBNe, reduceIte, reduceCtorEq, Int.reduceToNat, Int.reduceAdd, Int.reduceSub, Int.reduceMul, Int.reduceNeg, Int.reduceLT, Int.reduceLE, Int.reduceEq, Int.reduceNe, posts, pcells]
    simp only [d1, go_sem, Int.reduceNegSucc, Nat.reduceAdd, Nat.reduceSub, Nat.reduceMul, Nat.reduceEqDiff, Nat.reduceLeDiff, Nat.reduceLT, Nat.reduceBEq, Nat.reduceBNe, reduceIte, reduceCtorEq, Int.reduceToNat, Int.reduceAdd, Int.reduceSub, Int.reduceMul, Int.reduceNeg, Int.reduceLT, Int.reduceLE, Int.reduceEq, Int.reduceNe, posts, pcells]
    refine CallP_eq c2 (by decide) ?_
    simp only [d1, go_sem, Int.reduceNegSucc, Nat.reduceAdd, Nat.reduceSub, Nat.reduceMul, Nat.reduceEqDiff, Nat.reduceLeDiff, Nat.reduceLT, Nat.reduceBEq, Nat.reduceBNe, reduceIte, reduceCtorEq, Int.reduceToNat, Int.reduceAdd, Int.reduceSub, Int.reduceMul, Int.reduceNeg, Int.reduceLT, Int.reduceLE, Int.reduceEq, Int.reduceNe, posts, pcells]
    refine Two_of (fun d2 => ?_) (fun d2 => ?_)
    rotate_left
    · rw [hno (by rw [stepOk, okP, d1, d2]; rfl)]
      simp only [d1, d2, go_sem, Int.reduceNegSucc, Nat.reduceAdd, Nat.reduceSub, Nat.reduceMul, Nat.reduceEqDiff, Nat.reduceLeDiff, Nat.reduceLT, Nat.reduceBEq, Nat.reduceBNe, reduceIte, reduceCtorEq, Int.reduceToNat, Int.reduceAdd, Int.reduceSub, Int.reduceMul, Int.reduceNeg, Int.reduceLT, Int.reduceLE, Int.reduceEq, Int.reduceNe, posts, pcells]
    simp only [d1, d2, go_sem, Int.reduceNegSucc, Nat.reduceAdd, Nat.reduceSub, Nat.reduceMul, Nat.reduceEqDiff, Nat.reduceLeDiff, Nat.reduceLT, Nat.reduceBEq, Nat.reduceBNe, reduceIte, reduceCtorEq, Int.reduceToNat, Int.reduceAdd, Int.reduceSub, Int.reduceMul, Int.reduceNeg, Int.reduceLT, Int.reduceLE, Int.reduceEq, Int.reduceNe, posts, pcells]
    refine CallP_eq c3 (by decide) ?_
    simp only [d1, d2, go_sem, Int.reduceNegSucc, Nat.reduceAdd, Nat.reduceSub, Nat.reduceMul, Nat.reduceEqDiff, Nat.reduceLeDiff, Nat.reduceLT, Nat.reduceBEq, Nat.reduceBNe, reduceIte, reduceCtorEq, Int.reduceToNat, Int.reduceAdd, Int.reduceSub, Int.reduceMul, Int.reduceNeg, Int.reduceLT, Int.reduceLE, Int.reduceEq, Int.reduceNe, posts, pcells]
    refine Two_of (fun d3 => ?_) (fun d3 => ?_)
    rotate_left
    · rw [hno (by rw [stepOk, okP, d1, d2, d3]; rfl)]
      simp only [d1, d2, d3, go_sem, Int.reduceNegSucc, Nat.reduceAdd, Nat.reduceSub, Nat.reduceMul, Nat.reduceEqDiff, Nat.reduceLeDiff, Nat.reduceLT, Nat.reduceBEq, Nat.reduceBNe, reduceIte, reduceCtorEq, Int.reduceToNat, Int.reduceAdd, Int.reduceSub, Int.reduceMul, Int.reduceNeg, Int.reduceLT, Int.reduceLE, Int.reduceEq, Int.reduceNe, posts, pcells]
    simp only [d1, d2, d3, go_sem, Int.reduceNegSucc, Nat.reduceAdd, Nat.reduceSub, Nat.reduceMul, Nat.reduceEqDiff, Nat.reduceLeDiff, Nat.reduceLT, Nat.reduceBEq, Nat.reduceBNe, reduceIte, reduceCtorEq, Int.reduceToNat, Int.reduceAdd, Int.reduceSub, Int.reduceMul, Int.reduceNeg, Int.reduceLT, Int.reduceLE, Int.reduceEq, Int.reduceNe, posts, pcells]
    refine CallP_eq c4 (by decide) ?_
    simp only [d1, d2, d3, go_sem, Int.reduceNegSucc, Nat.reduceAdd, Nat.reduceSub, Nat.reduceMul, Nat.reduceEqDiff, Nat.reduceLeDiff, Nat.reduceLT, Nat.reduceBEq, Nat.reduceBNe, reduceIte, reduceCtorEq, Int.reduceToNat, Int.reduceAdd, Int.reduceSub, Int.reduceMul, Int.reduceNeg, Int.reduceLT, Int.reduceLE, Int.reduceEq, Int.reduceNe, posts, pcells]
    refine Two_of (fun d4 => ?_) (fun d4 => ?_)
    rotate_left
    · rw [hno (by rw [stepOk, okP, d1, d2, d3, d4]; rfl)]
      simp only [d1, d2, d3, d4, go_sem, Int.reduceNegSucc, Nat.reduceAdd, Nat.reduceSub, Nat.reduceMul, Nat.reduceEqDiff, Nat.reduceLeDiff, Nat.reduceLT, Nat.reduceBEq, Nat.reduceBNe, reduceIte, reduceCtorEq, Int.reduceToNat, Int.reduceAdd, Int.reduceSub, Int.reduceMul, Int.reduceNeg, Int.reduceLT, Int.reduceLE, Int.reduceEq, Int.reduceNe, posts, pcells]
    simp only [d1, d2, d3, d4, go_sem, Int.reduceNegSucc, Nat.reduceAdd, Nat.reduceSub, Nat.reduceMul, Nat.reduceEqDiff, Nat.reduceLeDiff, Nat.reduceLT, Nat.reduceBEq, Nat.reduceBNe, reduceIte, reduceCtorEq, Int.reduceToNat, Int.reduceAdd, Int.reduceSub, Int.reduceMul, Int.reduceNeg, Int.reduceLT, Int.reduceLE, Int.reduceEq, Int.reduceNe, posts, pcells]
    refine Two_of (fun d5 => ?_) (fun d5 => ?_)
    · rw [hno (by rw [stepOk, okP, d1, d2, d3, d4, d5]; rfl)]
      simp only [d1, d2, d3, d4, d5, go_sem, Int.reduceNegSucc, Nat.reduceAdd, Nat.reduceSub, Nat.reduceMul, Nat.reduceEqDiff, Nat.reduceLeDiff, Nat.reduceLT, Nat.reduceBEq, Nat.reduceBNe, reduceIte, reduceCtorEq, Int.reduceToNat, Int.reduceAdd, Int.reduceSub, Int.reduceMul, Int.reduceNeg, Int.reduceLT, Int.reduceLE, Int.reduceEq, Int.reduceNe, posts, pcells]
    simp only [d1, d2, d3, d4, d5, go_sem, Int.reduceNegSucc, Nat.reduceAdd, Nat.reduceSub, Nat.reduceMul, Nat.reduceEqDiff, Nat.reduceLeDiff, Nat.reduceLT, Nat.reduceBEq, Nat.reduceBNe, reduceIte, reduceCtorEq, Int.reduceToNat, Int.reduceAdd, Int.reduceSub, Int.reduceMul, Int.reduceNeg, Int.reduceLT, Int.reduceLE, Int.reduceEq, Int.reduceNe, posts, pcells]
    have hok : okP x = true := by rw [okP, d1, d2, d3, d4, d5]; rfl
    have hokx := okP_iff.1 hok
    have hws := i64_ok (n := (bef (a.take i) x.h x.p).1 + x.c) (by omega)
    have c5 := t_rin ((bef (a.take i) x.h x.p).1 + x.c) 0 1125899906842624
    refine CallP_eq hb (by decide) ?_
    simp only [d1, d2, d3, d4, d5, go_sem, Int.reduceNegSucc, Nat.reduceAdd, Nat.reduceSub, Nat.reduceMul, Nat.reduceEqDiff, Nat.reduceLeDiff, Nat.reduceLT, Nat.reduceBEq, Nat.reduceBNe, reduceIte, reduceCtorEq, Int.reduceToNat, Int.reduceAdd, Int.reduceSub, Int.reduceMul, Int.reduceNeg, Int.reduceLT, Int.reduceLE, Int.reduceEq, Int.reduceNe, posts, pcells]
    refine Two_dec (fun d6 d6' => ?_) (fun d6 d6' => ?_)
    · have d7 : decide ((bef (a.take i) x.h x.p).2 < x.v) = false := decide_eq_false (by omega)
      rw [hno (by rw [stepOk, hok, d7]; rfl)]
      simp only [d1, d2, d3, d4, d5, d6, go_sem, Int.reduceNegSucc, Nat.reduceAdd, Nat.reduceSub, Nat.reduceMul, Nat.reduceEqDiff, Nat.reduceLeDiff, Nat.reduceLT, Nat.reduceBEq, Nat.reduceBNe, reduceIte, reduceCtorEq, Int.reduceToNat, Int.reduceAdd, Int.reduceSub, Int.reduceMul, Int.reduceNeg, Int.reduceLT, Int.reduceLE, Int.reduceEq, Int.reduceNe, posts, pcells]
    simp only [d1, d2, d3, d4, d5, d6, hws, go_sem, Int.reduceNegSucc, Nat.reduceAdd, Nat.reduceSub, Nat.reduceMul, Nat.reduceEqDiff, Nat.reduceLeDiff, Nat.reduceLT, Nat.reduceBEq, Nat.reduceBNe, reduceIte, reduceCtorEq, Int.reduceToNat, Int.reduceAdd, Int.reduceSub, Int.reduceMul, Int.reduceNeg, Int.reduceLT, Int.reduceLE, Int.reduceEq, Int.reduceNe, posts, pcells]
    have d7 : decide ((bef (a.take i) x.h x.p).2 < x.v) = true := decide_eq_true (by omega)
    refine CallP_eq c5 (by decide) ?_
    simp only [d1, d2, d3, d4, d5, d6, go_sem, Int.reduceNegSucc, Nat.reduceAdd, Nat.reduceSub, Nat.reduceMul, Nat.reduceEqDiff, Nat.reduceLeDiff, Nat.reduceLT, Nat.reduceBEq, Nat.reduceBNe, reduceIte, reduceCtorEq, Int.reduceToNat, Int.reduceAdd, Int.reduceSub, Int.reduceMul, Int.reduceNeg, Int.reduceLT, Int.reduceLE, Int.reduceEq, Int.reduceNe, posts, pcells]
    refine Two_of (fun d8 => ?_) (fun d8 => ?_)
    rotate_left
    · rw [hno (by rw [stepOk, hok, d7, d8]; rfl)]
      simp only [d1, d2, d3, d4, d5, d6, d8, go_sem, Int.reduceNegSucc, Nat.reduceAdd, Nat.reduceSub, Nat.reduceMul, Nat.reduceEqDiff, Nat.reduceLeDiff, Nat.reduceLT, Nat.reduceBEq, Nat.reduceBNe, reduceIte, reduceCtorEq, Int.reduceToNat, Int.reduceAdd, Int.reduceSub, Int.reduceMul, Int.reduceNeg, Int.reduceLT, Int.reduceLE, Int.reduceEq, Int.reduceNe, posts, pcells]
    simp only [d1, d2, d3, d4, d5, d6, d8, go_sem, Int.reduceNegSucc, Nat.reduceAdd, Nat.reduceSub, Nat.reduceMul, Nat.reduceEqDiff, Nat.reduceLeDiff, Nat.reduceLT, Nat.reduceBEq, Nat.reduceBNe, reduceIte, reduceCtorEq, Int.reduceToNat, Int.reduceAdd, Int.reduceSub, Int.reduceMul, Int.reduceNeg, Int.reduceLT, Int.reduceLE, Int.reduceEq, Int.reduceNe, posts, pcells]
    refine RoundP_of (i + 1) ?_ (by omega) ⟨by omega, ?_⟩
    · simp only [hw, Int.natCast_add, go_sem, Int.reduceNegSucc, Nat.reduceAdd, Nat.reduceSub, Nat.reduceMul, Nat.reduceEqDiff, Nat.reduceLeDiff, Nat.reduceLT, Nat.reduceBEq, Nat.reduceBNe, reduceIte, reduceCtorEq, Int.reduceToNat, Int.reduceAdd, Int.reduceSub, Int.reduceMul, Int.reduceNeg, Int.reduceLT, Int.reduceLE, Int.reduceEq, Int.reduceNe, posts, pcells]
    · rw [hsn, rt_snoc]
      exact ⟨hrt, by rw [stepOk, hok, d7, d8]; rfl⟩
  · have hd : decide ((i : Int) < a.length) = false := decide_eq_false hp
    rw [right_end (by omega) hrt h500]
    simp only [hd, go_sem, Int.reduceNegSucc, Nat.reduceAdd, Nat.reduceSub, Nat.reduceMul, Nat.reduceEqDiff, Nat.reduceLeDiff, Nat.reduceLT, Nat.reduceBEq, Nat.reduceBNe, reduceIte, reduceCtorEq, Int.reduceToNat, Int.reduceAdd, Int.reduceSub, Int.reduceMul, Int.reduceNeg, Int.reduceLT, Int.reduceLE, Int.reduceEq, Int.reduceNe, posts, pcells]
set_option maxRecDepth 100000 in
set_option maxHeartbeats 2000000 in
theorem t_balances (a : List Pst) (hl : a.length ≤ 1000000) : Ctr G.P 32 [posts a] (· = balR a) := by
  by_cases h500 : 500 < (a.length : Int)
  · have hd : decide (500 < (a.length : Int)) = true := decide_eq_true h500
    have hr : rightA a = false := by rw [rightA, hd]; rfl
    rw [balR, hr]
    refine ctr_go good _ _ [.tmp 2, .tmp 3] Try.func32 rfl rfl (by decide +kernel) rfl ?_
    simp only [hd, go_sem, Int.reduceNegSucc, Nat.reduceAdd, Nat.reduceSub, Nat.reduceMul, Nat.reduceEqDiff, Nat.reduceLeDiff, Nat.reduceLT, Nat.reduceBEq, Nat.reduceBNe, reduceIte, reduceCtorEq, Int.reduceToNat, Int.reduceAdd, Int.reduceSub, Int.reduceMul, Int.reduceNeg, Int.reduceLT, Int.reduceLE, Int.reduceEq, Int.reduceNe, posts, pcells]
  have h5 : decide (500 < (a.length : Int)) = false := decide_eq_false h500
  refine ctr_go good _ _ [.tmp 2, .tmp 3] Try.func32 rfl rfl (by decide +kernel) rfl ?_
  simp only [h5, go_sem, Int.reduceNegSucc, Nat.reduceAdd, Nat.reduceSub, Nat.reduceMul, Nat.reduceEqDiff, Nat.reduceLeDiff, Nat.reduceLT, Nat.reduceBEq, Nat.reduceBNe, reduceIte, reduceCtorEq, Int.reduceToNat, Int.reduceAdd, Int.reduceSub, Int.reduceMul, Int.reduceNeg, Int.reduceLT, Int.reduceLE, Int.reduceEq, Int.reduceNe, posts, pcells]
  refine LoopP_of [4, 15, 16, 17] [14] (fun i : Nat => ⟨[(4, .mpo 14 (2, false) (balF (a.take i))), (15, .im (.sl (a.map pcells))), (16, .im (.int a.length)), (17, .im (.int i))], [], [(14, 0, 0)]⟩)
    (fun i => i ≤ a.length ∧ Rt (a.take i)) (fun i => a.length - i) 0 ?_ ⟨Nat.zero_le _, rt_nil⟩ ?_
  · simp only [Int.natCast_zero, List.take_zero, balF, List.foldl_nil, go_sem, Int.reduceNegSucc, Nat.reduceAdd, Nat.reduceSub, Nat.reduceMul, Nat.reduceEqDiff, Nat.reduceLeDiff, Nat.reduceLT, Nat.reduceBEq, Nat.reduceBNe, reduceIte, reduceCtorEq, Int.reduceToNat, Int.reduceAdd, Int.reduceSub, Int.reduceMul, Int.reduceNeg, Int.reduceLT, Int.reduceLE, Int.reduceEq, Int.reduceNe, posts, pcells]
  intro i ⟨hi, hrt⟩
  by_cases hp : (i : Int) < a.length
  · have hd : decide ((i : Int) < a.length) = true := decide_eq_true hp
    obtain ⟨x, hx⟩ : ∃ x, a[i]? = some x := ⟨_, List.getElem?_eq_getElem (by omega)⟩
    have hw := i64_ok (n := (i : Int) + 1) (by omega)
    have hno : stepOk (a.take i) x = false → balR a = .tup [.mp (0, false) [], .bool false] := fun h => by rw [balR, right_step hx h]; rfl
    have hsn := take_snoc hx
    have c1 := t_pin x.h 0 99
    have c2 := t_pin x.p 0 100000
    have c3 := t_pin x.v 0 100000
    have c4 := t_pin x.c (-1125899906842624) 1125899906842624
    have hbr := bef_rt _ hrt x.h x.p
    have hk := bal_get (a.take i) x.h x.p
    have hbal : balF (a.take (i + 1)) = mput (balF (a.take i)) [x.h, x.p] [((mget (balF (a.take i)) [x.h, x.p]).getD [0, 0]).headD 0 + x.c, x.v] := by
      rw [hsn, balF_snoc]; rfl
    simp only [hd, List.getElem?_map, hx, go_sem, Int.reduceNegSucc, Nat.reduceAdd, Nat.reduceSub, Nat.reduceMul, Nat.reduceEqDiff, Nat.reduceLeDiff, Nat.reduceLT, Nat.reduceBEq, Nat.reduceBNe, reduceIte, reduceCtorEq, Int.reduceToNat, Int.reduceAdd, Int.reduceSub, Int.reduceMul, Int.reduceNeg, Int.reduceLT, Int.reduceLE, Int.reduceEq, Int.reduceNe, posts, pcells]
    refine CallP_eq c1 (by decide) ?_
    simp only [go_sem, Int.reduceNegSucc, Nat.reduceAdd, Nat.reduceSub, Nat.reduceMul, Nat.reduceEqDiff, Nat.reduceLeDiff, Nat.reduceLT, Nat.reduceBEq, Nat.reduceBNe, reduceIte, reduceCtorEq, Int.reduceToNat, Int.reduceAdd, Int.reduceSub, Int.reduceMul, Int.reduceNeg, Int.reduceLT, Int.reduceLE, Int.reduceEq, Int.reduceNe, posts, pcells]
    refine Two_of (fun d1 => ?_) (fun d1 => ?_)
    rotate_left
    · rw [hno (by rw [stepOk, okP, d1]; rfl)]
      simp only [d1, go_sem, Int.reduceNegSucc, Nat.reduceAdd, Nat.reduceSub, Nat.reduceMul, Nat.reduceEqDiff, Nat.reduceLeDiff, Nat.reduceLT, Nat.reduceBEq, Nat.reduceBNe, reduceIte, reduceCtorEq, Int.reduceToNat, Int.reduceAdd, Int.reduceSub, Int.reduceMul, Int.reduceNeg, Int.reduceLT, Int.reduceLE, Int.reduceEq, Int.reduceNe, posts, pcells]
    simp only [d1, go_sem, Int.reduceNegSucc, Nat.reduceAdd, Nat.reduceSub, Nat.reduceMul, Nat.reduceEqDiff, Nat.reduceLeDiff, Nat.reduceLT, Nat.reduceBEq, Nat.reduceBNe, reduceIte, reduceCtorEq, Int.reduceToNat, Int.reduceAdd, Int.reduceSub, Int.reduceMul, Int.reduceNeg, Int.reduceLT, Int.reduceLE, Int.reduceEq, Int.reduceNe, posts, pcells]
    refine CallP_eq c2 (by decide) ?_
    simp only [d1, go_sem, Int.reduceNegSucc, Nat.reduceAdd, Nat.reduceSub, Nat.reduceMul, Nat.reduceEqDiff, Nat.reduceLeDiff, Nat.reduceLT, Nat.reduceBEq, Nat.reduceBNe, reduceIte, reduceCtorEq, Int.reduceToNat, Int.reduceAdd, Int.reduceSub, Int.reduceMul, Int.reduceNeg, Int.reduceLT, Int.reduceLE, Int.reduceEq, Int.reduceNe, posts, pcells]
    refine Two_of (fun d2 => ?_) (fun d2 => ?_)
    rotate_left
    · rw [hno (by rw [stepOk, okP, d1, d2]; rfl)]
      simp only [d1, d2, go_sem, Int.reduceNegSucc, Nat.reduceAdd, Nat.reduceSub, Nat.reduceMul, Nat.reduceEqDiff, Nat.reduceLeDiff, Nat.reduceLT, Nat.reduceBEq, Nat.reduceBNe, reduceIte, reduceCtorEq, Int.reduceToNat, Int.reduceAdd, Int.reduceSub, Int.reduceMul, Int.reduceNeg, Int.reduceLT, Int.reduceLE, Int.reduceEq, Int.reduceNe, posts, pcells]
    simp only [d1, d2, go_sem, Int.reduceNegSucc, Nat.reduceAdd, Nat.reduceSub, Nat.reduceMul, Nat.reduceEqDiff, Nat.reduceLeDiff, Nat.reduceLT, Nat.reduceBEq, Nat.reduceBNe, reduceIte, reduceCtorEq, Int.reduceToNat, Int.reduceAdd, Int.reduceSub, Int.reduceMul, Int.reduceNeg, Int.reduceLT, Int.reduceLE, Int.reduceEq, Int.reduceNe, posts, pcells]
    refine CallP_eq c3 (by decide) ?_
    simp only [d1, d2, go_sem, Int.reduceNegSucc, Nat.reduceAdd, Nat.reduceSub, Nat.reduceMul, Nat.reduceEqDiff, Nat.reduceLeDiff, Nat.reduceLT, Nat.reduceBEq, Nat.reduceBNe, reduceIte, reduceCtorEq, Int.reduceToNat, Int.reduceAdd, Int.reduceSub, Int.reduceMul, Int.reduceNeg, Int.reduceLT, Int.reduceLE, Int.reduceEq, Int.reduceNe, posts, pcells]
    refine Two_of (fun d3 => ?_) (fun d3 => ?_)
    rotate_left
    · rw [hno (by rw [stepOk, okP, d1, d2, d3]; rfl)]
      simp only [d1, d2, d3, go_sem, Int.reduceNegSucc, Nat.reduceAdd, Nat.reduceSub, Nat.reduceMul, Nat.reduceEqDiff, Nat.reduceLeDiff, Nat.reduceLT, Nat.reduceBEq, Nat.reduceBNe, reduceIte, reduceCtorEq, Int.reduceToNat, Int.reduceAdd, Int.reduceSub, Int.reduceMul, Int.reduceNeg, Int.reduceLT, Int.reduceLE, Int.reduceEq, Int.reduceNe, posts, pcells]
    simp only [d1, d2, d3, go_sem, Int.reduceNegSucc, Nat.reduceAdd, Nat.reduceSub, Nat.reduceMul, Nat.reduceEqDiff, Nat.reduceLeDiff, Nat.reduceLT, Nat.reduceBEq, Nat.reduceBNe, reduceIte, reduceCtorEq, Int.reduceToNat, Int.reduceAdd, Int.reduceSub, Int.reduceMul, Int.reduceNeg, Int.reduceLT, Int.reduceLE, Int.reduceEq, Int.reduceNe, posts, pcells]
    refine CallP_eq c4 (by decide) ?_
    simp only [d1, d2, d3, go_sem, Int.reduceNegSucc, Nat.reduceAdd, Nat.reduceSub, Nat.reduceMul, Nat.reduceEqDiff, Nat.reduceLeDiff, Nat.reduceLT, Nat.reduceBEq, Nat.reduceBNe, reduceIte, reduceCtorEq, Int.reduceToNat, Int.reduceAdd, Int.reduceSub, Int.reduceMul, Int.reduceNeg, Int.reduceLT, Int.reduceLE, Int.reduceEq, Int.reduceNe, posts, pcells]
    refine Two_of (fun d4 => ?_) (fun d4 => ?_)
    rotate_left
    · rw [hno (by rw [stepOk, okP, d1, d2, d3, d4]; rfl)]
      simp only [d1, d2, d3, d4, go_sem, Int.reduceNegSucc, Nat.reduceAdd, Nat.reduceSub, Nat.reduceMul, Nat.reduceEqDiff, Nat.reduceLeDiff, Nat.reduceLT, Nat.reduceBEq, Nat.reduceBNe, reduceIte, reduceCtorEq, Int.reduceToNat, Int.reduceAdd, Int.reduceSub, Int.reduceMul, Int.reduceNeg, Int.reduceLT, Int.reduceLE, Int.reduceEq, Int.reduceNe, posts, pcells]
    simp only [d1, d2, d3, d4, go_sem, Int.reduceNegSucc, Nat.reduceAdd, Nat.reduceSub, Nat.reduceMul, Nat.reduceEqDiff, Nat.reduceLeDiff, Nat.reduceLT, Nat.reduceBEq, Nat.reduceBNe, reduceIte, reduceCtorEq, Int.reduceToNat, Int.reduceAdd, Int.reduceSub, Int.reduceMul, Int.reduceNeg, Int.reduceLT, Int.reduceLE, Int.reduceEq, Int.reduceNe, posts, pcells]
    refine Two_of (fun d5 => ?_) (fun d5 => ?_)
    · rw [hno (by rw [stepOk, okP, d1, d2, d3, d4, d5]; rfl)]
      simp only [d1, d2, d3, d4, d5, go_sem, Int.reduceNegSucc, Nat.reduceAdd, Nat.reduceSub, Nat.reduceMul, Nat.reduceEqDiff, Nat.reduceLeDiff, Nat.reduceLT, Nat.reduceBEq, Nat.reduceBNe, reduceIte, reduceCtorEq, Int.reduceToNat, Int.reduceAdd, Int.reduceSub, Int.reduceMul, Int.reduceNeg, Int.reduceLT, Int.reduceLE, Int.reduceEq, Int.reduceNe, posts, pcells]
    have hok : okP x = true := by rw [okP, d1, d2, d3, d4, d5]; rfl
    have hokx := okP_iff.1 hok
    have hws := i64_ok (n := (bef (a.take i) x.h x.p).1 + x.c) (by omega)
    have c5 := t_pin ((bef (a.take i) x.h x.p).1 + x.c) 0 1125899906842624
    by_cases hh : has (a.take i) x.h x.p = true
    · rw [if_pos hh] at hk
      rw [hk] at hbal
      simp only [Option.getD_some, List.headD_cons] at hbal
      simp only [d1, d2, d3, d4, d5, hk, go_sem, Int.reduceNegSucc, Nat.reduceAdd, Nat.reduceSub, Nat.reduceMul, Nat.reduceEqDiff, Nat.reduceLeDiff, Nat.reduceLT, Nat.reduceBEq, Nat.reduceBNe, reduceIte, reduceCtorEq, Int.reduceToNat, Int.reduceAdd, Int.reduceSub, Int.reduceMul, Int.reduceNeg, Int.reduceLT, Int.reduceLE, Int.reduceEq, Int.reduceNe, posts, pcells]
      refine Two_dec (fun d6 d6' => ?_) (fun d6 d6' => ?_)
      · have d7 : decide ((bef (a.take i) x.h x.p).2 < x.v) = false := decide_eq_false (by omega)
        rw [hno (by rw [stepOk, hok, d7]; rfl)]
        simp only [d1, d2, d3, d4, d5, d6, hws, go_sem, Int.reduceNegSucc, Nat.reduceAdd, Nat.reduceSub, Nat.reduceMul, Nat.reduceEqDiff, Nat.reduceLeDiff, Nat.reduceLT, Nat.reduceBEq, Nat.reduceBNe, reduceIte, reduceCtorEq, Int.reduceToNat, Int.reduceAdd, Int.reduceSub, Int.reduceMul, Int.reduceNeg, Int.reduceLT, Int.reduceLE, Int.reduceEq, Int.reduceNe, posts, pcells]
      have d7 : decide ((bef (a.take i) x.h x.p).2 < x.v) = true := decide_eq_true (by omega)
      simp only [d1, d2, d3, d4, d5, d6, hws, go_sem, Int.reduceNegSucc, Nat.reduceAdd, Nat.reduceSub, Nat.reduceMul, Nat.reduceEqDiff, Nat.reduceLeDiff, Nat.reduceLT, Nat.reduceBEq, Nat.reduceBNe, reduceIte, reduceCtorEq, Int.reduceToNat, Int.reduceAdd, Int.reduceSub, Int.reduceMul, Int.reduceNeg, Int.reduceLT, Int.reduceLE, Int.reduceEq, Int.reduceNe, posts, pcells]
      refine CallP_eq c5 (by decide) ?_
      simp only [d1, d2, d3, d4, d5, d6, go_sem, Int.reduceNegSucc, Nat.reduceAdd, Nat.reduceSub, Nat.reduceMul, Nat.reduceEqDiff, Nat.reduceLeDiff, Nat.reduceLT, Nat.reduceBEq, Nat.reduceBNe, reduceIte, reduceCtorEq, Int.reduceToNat, Int.reduceAdd, Int.reduceSub, Int.reduceMul, Int.reduceNeg, Int.reduceLT, Int.reduceLE, Int.reduceEq, Int.reduceNe, posts, pcells]
      refine Two_of (fun d8 => ?_) (fun d8 => ?_)
      rotate_left
      · rw [hno (by rw [stepOk, hok, d7, d8]; rfl)]
        simp only [d1, d2, d3, d4, d5, d6, d8, go_sem, Int.reduceNegSucc, Nat.reduceAdd, Nat.reduceSub, Nat.reduceMul, Nat.reduceEqDiff, Nat.reduceLeDiff, Nat.reduceLT, Nat.reduceBEq, Nat.reduceBNe, reduceIte, reduceCtorEq, Int.reduceToNat, Int.reduceAdd, Int.reduceSub, Int.reduceMul, Int.reduceNeg, Int.reduceLT, Int.reduceLE, Int.reduceEq, Int.reduceNe, posts, pcells]
      simp only [d1, d2, d3, d4, d5, d6, d8, go_sem, Int.reduceNegSucc, Nat.reduceAdd, Nat.reduceSub, Nat.reduceMul, Nat.reduceEqDiff, Nat.reduceLeDiff, Nat.reduceLT, Nat.reduceBEq, Nat.reduceBNe, reduceIte, reduceCtorEq, Int.reduceToNat, Int.reduceAdd, Int.reduceSub, Int.reduceMul, Int.reduceNeg, Int.reduceLT, Int.reduceLE, Int.reduceEq, Int.reduceNe, posts, pcells]
      refine RoundP_of (i + 1) ?_ (by omega) ⟨by omega, ?_⟩
      · simp only [hw, hws, hbal, Int.natCast_add, go_sem, Int.reduceNegSucc, Nat.reduceAdd, Nat.reduceSub, Nat.reduceMul, Nat.reduceEqDiff, Nat.reduceLeDiff, Nat.reduceLT, Nat.reduceBEq, Nat.reduceBNe, reduceIte, reduceCtorEq, Int.reduceToNat, Int.reduceAdd, Int.reduceSub, Int.reduceMul, Int.reduceNeg, Int.reduceLT, Int.reduceLE, Int.reduceEq, Int.reduceNe, posts, pcells]
      · rw [hsn, rt_snoc]
        exact ⟨hrt, by rw [stepOk, hok, d7, d8]; rfl⟩
    · rw [if_neg hh] at hk
      have he := hbr.2.2.1 (by simpa using hh)
      rw [hk] at hbal
      simp only [Option.getD_none, List.headD_cons] at hbal
      have hws := i64_ok (n := 0 + x.c) (by omega)
      have c5 := t_pin (0 + x.c) 0 1125899906842624
      have d7 : decide ((bef (a.take i) x.h x.p).2 < x.v) = true := decide_eq_true (by rw [he]; show -1 < x.v; omega)
      simp only [d1, d2, d3, d4, d5, hk, hws, go_sem, Int.reduceNegSucc, Nat.reduceAdd, Nat.reduceSub, Nat.reduceMul, Nat.reduceEqDiff, Nat.reduceLeDiff, Nat.reduceLT, Nat.reduceBEq, Nat.reduceBNe, reduceIte, reduceCtorEq, Int.reduceToNat, Int.reduceAdd, Int.reduceSub, Int.reduceMul, Int.reduceNeg, Int.reduceLT, Int.reduceLE, Int.reduceEq, Int.reduceNe, posts, pcells]
      refine CallP_eq c5 (by decide) ?_
      simp only [d1, d2, d3, d4, d5, go_sem, Int.reduceNegSucc, Nat.reduceAdd, Nat.reduceSub, Nat.reduceMul, Nat.reduceEqDiff, Nat.reduceLeDiff, Nat.reduceLT, Nat.reduceBEq, Nat.reduceBNe, reduceIte, reduceCtorEq, Int.reduceToNat, Int.reduceAdd, Int.reduceSub, Int.reduceMul, Int.reduceNeg, Int.reduceLT, Int.reduceLE, Int.reduceEq, Int.reduceNe, posts, pcells]
      refine Two_of (fun d8 => ?_) (fun d8 => ?_)
      rotate_left
      · rw [hno (by rw [stepOk, hok, d7, he]; exact d8)]
        simp only [d1, d2, d3, d4, d5, d8, go_sem, Int.reduceNegSucc, Nat.reduceAdd, Nat.reduceSub, Nat.reduceMul, Nat.reduceEqDiff, Nat.reduceLeDiff, Nat.reduceLT, Nat.reduceBEq, Nat.reduceBNe, reduceIte, reduceCtorEq, Int.reduceToNat, Int.reduceAdd, Int.reduceSub, Int.reduceMul, Int.reduceNeg, Int.reduceLT, Int.reduceLE, Int.reduceEq, Int.reduceNe, posts, pcells]
      simp only [d1, d2, d3, d4, d5, d8, go_sem, Int.reduceNegSucc, Nat.reduceAdd, Nat.reduceSub, Nat.reduceMul, Nat.reduceEqDiff, Nat.reduceLeDiff, Nat.reduceLT, Nat.reduceBEq, Nat.reduceBNe, reduceIte, reduceCtorEq, Int.reduceToNat, Int.reduceAdd, Int.reduceSub, Int.reduceMul, Int.reduceNeg, Int.reduceLT, Int.reduceLE, Int.reduceEq, Int.reduceNe, posts, pcells]
      refine RoundP_of (i + 1) ?_ (by omega) ⟨by omega, ?_⟩
      · simp only [hw, hws, hbal, Int.natCast_add, go_sem, Int.reduceNegSucc, Nat.reduceAdd, Nat.reduceSub, Nat.reduceMul, Nat.reduceEqDiff, Nat.reduceLeDiff, Nat.reduceLT, Nat.reduceBEq, Nat.reduceBNe, reduceIte, reduceCtorEq, Int.reduceToNat, Int.reduceAdd, Int.reduceSub, Int.reduceMul, Int.reduceNeg, Int.reduceLT, Int.reduceLE, Int.reduceEq, Int.reduceNe, posts, pcells]
      · rw [hsn, rt_snoc]
        exact ⟨hrt, by rw [stepOk, hok, d7, he]; exact d8⟩
  · have hd : decide ((i : Int) < a.length) = false := decide_eq_false hp
    have hb : balR a = .tup [.mp (2, false) (balF a), .bool true] := by rw [balR, right_end (by omega) hrt h500]; rfl
    rw [hb, List.take_of_length_le (by omega)]
    simp only [hd, go_sem, Int.reduceNegSucc, Nat.reduceAdd, Nat.reduceSub, Nat.reduceMul, Nat.reduceEqDiff, Nat.reduceLeDiff, Nat.reduceLT, Nat.reduceBEq, Nat.reduceBNe, reduceIte, reduceCtorEq, Int.reduceToNat, Int.reduceAdd, Int.reduceSub, Int.reduceMul, Int.reduceNeg, Int.reduceLT, Int.reduceLE, Int.reduceEq, Int.reduceNe, posts, pcells]
end Go.Proofs.Ytpnlfkaijdjhlab

namespace Go.Proofs.Ytpnlfkaijdjhlab
set_option linter.all false
open Go.Abs

theorem balR_t {a : List Pst} (h : rightA a = true) : balR a = .tup [.mp (2, false) (balF a), .bool true] := by rw [balR, if_pos h]
theorem balR_f {a : List Pst} (h : rightA a = false) : balR a = .tup [.mp (0, false) [], .bool false] := by rw [balR, h]; rfl
theorem rt_of {a : List Pst} (h : rightA a = true) : Rt a ∧ a.length ≤ 500 := by
  rw [rightA, Bool.and_eq_true, Bool.not_eq_true', decide_eq_false_iff_not] at h
  exact ⟨h.2, by omega⟩
theorem pcells_len (a : List Pst) : ∀ c ∈ a.map pcells, c.length = 4 := fun c hc => by
  obtain ⟨x, _, rfl⟩ := List.mem_map.1 hc
  rfl
set_option maxRecDepth 100000 in
theorem t_pclone (a : List Pst) (hl : a.length ≤ 1000000) : Ctr G.P 34 [posts a] (· = posts a) := by
  refine ctr_go good _ _ [.tmp 2] Try.func34 rfl rfl (by decide +kernel) rfl ?_
  simp only [go_sem, Int.reduceNegSucc, Nat.reduceAdd, Nat.reduceSub, Nat.reduceMul, Nat.reduceEqDiff, Nat.reduceLeDiff, Nat.reduceLT, Nat.reduceBEq, Nat.reduceBNe, reduceIte, reduceCtorEq, Int.reduceToNat, Int.reduceAdd, Int.reduceSub, Int.reduceMul, Int.reduceNeg, Int.reduceLT, Int.reduceLE, Int.reduceEq, Int.reduceNe, posts, pcells]
  refine NilP_of (fun h => ?_) ?_
  · have : a = [] := List.map_eq_nil_iff.1 h
    subst this
    simp only [List.map_nil, go_sem, Int.reduceNegSucc, Nat.reduceAdd, Nat.reduceSub, Nat.reduceMul, Nat.reduceEqDiff, Nat.reduceLeDiff, Nat.reduceLT, Nat.reduceBEq, Nat.reduceBNe, reduceIte, reduceCtorEq, Int.reduceToNat, Int.reduceAdd, Int.reduceSub, Int.reduceMul, Int.reduceNeg, Int.reduceLT, Int.reduceLE, Int.reduceEq, Int.reduceNe, posts, pcells]
  · simp only [go_sem, Int.reduceNegSucc, Nat.reduceAdd, Nat.reduceSub, Nat.reduceMul, Nat.reduceEqDiff, Nat.reduceLeDiff, Nat.reduceLT, Nat.reduceBEq, Nat.reduceBNe, reduceIte, reduceCtorEq, Int.reduceToNat, Int.reduceAdd, Int.reduceSub, Int.reduceMul, Int.reduceNeg, Int.reduceLT, Int.reduceLE, Int.reduceEq, Int.reduceNe, posts, pcells]
    exact ⟨by simp, pcells_len a, by first | omega | (simp; omega)⟩
set_option maxRecDepth 100000 in
theorem t_bright (a : List Pst) (hl : a.length ≤ 1000000) : Ctr G.P 15 [posts a] (· = .bool (rightA a)) := by
  have hb := t_balances a hl
  by_cases h : rightA a = true
  · rw [balR_t h] at hb
    rw [h]
    refine ctr_go good _ _ [.tmp 2] Try.func15 rfl rfl (by decide +kernel) rfl ?_
    simp only [go_sem, Int.reduceNegSucc, Nat.reduceAdd, Nat.reduceSub, Nat.reduceMul, Nat.reduceEqDiff, Nat.reduceLeDiff, Nat.reduceLT, Nat.reduceBEq, Nat.reduceBNe, reduceIte, reduceCtorEq, Int.reduceToNat, Int.reduceAdd, Int.reduceSub, Int.reduceMul, Int.reduceNeg, Int.reduceLT, Int.reduceLE, Int.reduceEq, Int.reduceNe, posts, pcells]
    refine CallP_eq hb (by decide) ?_
    simp only [go_sem, Int.reduceNegSucc, Nat.reduceAdd, Nat.reduceSub, Nat.reduceMul, Nat.reduceEqDiff, Nat.reduceLeDiff, Nat.reduceLT, Nat.reduceBEq, Nat.reduceBNe, reduceIte, reduceCtorEq, Int.reduceToNat, Int.reduceAdd, Int.reduceSub, Int.reduceMul, Int.reduceNeg, Int.reduceLT, Int.reduceLE, Int.reduceEq, Int.reduceNe, posts, pcells]
  · have h : rightA a = false := by simpa using h
    rw [balR_f h] at hb
    rw [h]
    refine ctr_go good _ _ [.tmp 2] Try.func15 rfl rfl (by decide +kernel) rfl ?_
    simp only [go_sem, Int.reduceNegSucc, Nat.reduceAdd, Nat.reduceSub, Nat.reduceMul, Nat.reduceEqDiff, Nat.reduceLeDiff, Nat.reduceLT, Nat.reduceBEq, Nat.reduceBNe, reduceIte, reduceCtorEq, Int.reduceToNat, Int.reduceAdd, Int.reduceSub, Int.reduceMul, Int.reduceNeg, Int.reduceLT, Int.reduceLE, Int.reduceEq, Int.reduceNe, posts, pcells]
    refine CallP_eq hb (by decide) ?_
    simp only [go_sem, Int.reduceNegSucc, Nat.reduceAdd, Nat.reduceSub, Nat.reduceMul, Nat.reduceEqDiff, Nat.reduceLeDiff, Nat.reduceLT, Nat.reduceBEq, Nat.reduceBNe, reduceIte, reduceCtorEq, Int.reduceToNat, Int.reduceAdd, Int.reduceSub, Int.reduceMul, Int.reduceNeg, Int.reduceLT, Int.reduceLE, Int.reduceEq, Int.reduceNe, posts, pcells]
set_option maxRecDepth 100000 in
theorem t_balance (a : List Pst) (h p : Int) (hl : a.length ≤ 1000000) : Ctr G.P 17 [posts a, .int h, .int p] (· = .int (balanceF a h p)) := by
  have hb := t_balances a hl
  by_cases hr : rightA a = true
  · rw [balR_t hr] at hb
    rw [balanceF, if_pos hr]
    have hk := bal_get a h p
    by_cases hh : has a h p = true
    · rw [if_pos hh] at hk
      refine ctr_go good _ _ [.tmp 6] Try.func17 rfl rfl (by decide +kernel) rfl ?_
      simp only [go_sem, Int.reduceNegSucc, Nat.reduceAdd, Nat.reduceSub, Nat.reduceMul, Nat.reduceEqDiff, Nat.reduceLeDiff, Nat.reduceLT, Nat.reduceBEq, Nat.reduceBNe, reduceIte, reduceCtorEq, Int.reduceToNat, Int.reduceAdd, Int.reduceSub, Int.reduceMul, Int.reduceNeg, Int.reduceLT, Int.reduceLE, Int.reduceEq, Int.reduceNe, posts, pcells]
      refine CallP_eq hb (by decide) ?_
      simp only [hk, go_sem, Int.reduceNegSucc, Nat.reduceAdd, Nat.reduceSub, Nat.reduceMul, Nat.reduceEqDiff, Nat.reduceLeDiff, Nat.reduceLT, Nat.reduceBEq, Nat.reduceBNe, reduceIte, reduceCtorEq, Int.reduceToNat, Int.reduceAdd, Int.reduceSub, Int.reduceMul, Int.reduceNeg, Int.reduceLT, Int.reduceLE, Int.reduceEq, Int.reduceNe, posts, pcells]
    · rw [if_neg hh] at hk
      have he := (bef_rt a (rt_of hr).1 h p).2.2.1 (by simpa using hh)
      rw [he]
      refine ctr_go good _ _ [.tmp 6] Try.func17 rfl rfl (by decide +kernel) rfl ?_
      simp only [go_sem, Int.reduceNegSucc, Nat.reduceAdd, Nat.reduceSub, Nat.reduceMul, Nat.reduceEqDiff, Nat.reduceLeDiff, Nat.reduceLT, Nat.reduceBEq, Nat.reduceBNe, reduceIte, reduceCtorEq, Int.reduceToNat, Int.reduceAdd, Int.reduceSub, Int.reduceMul, Int.reduceNeg, Int.reduceLT, Int.reduceLE, Int.reduceEq, Int.reduceNe, posts, pcells]
      refine CallP_eq hb (by decide) ?_
      simp only [hk, go_sem, Int.reduceNegSucc, Nat.reduceAdd, Nat.reduceSub, Nat.reduceMul, Nat.reduceEqDiff, Nat.reduceLeDiff, Nat.reduceLT, Nat.reduceBEq, Nat.reduceBNe, reduceIte, reduceCtorEq, Int.reduceToNat, Int.reduceAdd, Int.reduceSub, Int.reduceMul, Int.reduceNeg, Int.reduceLT, Int.reduceLE, Int.reduceEq, Int.reduceNe, posts, pcells]
  · have hr : rightA a = false := by simpa using hr
    rw [balR_f hr] at hb
    have hk : mget [] [h, p] = none := rfl
    rw [balanceF, if_neg (by rw [hr]; decide)]
    refine ctr_go good _ _ [.tmp 6] Try.func17 rfl rfl (by decide +kernel) rfl ?_
    simp only [go_sem, Int.reduceNegSucc, Nat.reduceAdd, Nat.reduceSub, Nat.reduceMul, Nat.reduceEqDiff, Nat.reduceLeDiff, Nat.reduceLT, Nat.reduceBEq, Nat.reduceBNe, reduceIte, reduceCtorEq, Int.reduceToNat, Int.reduceAdd, Int.reduceSub, Int.reduceMul, Int.reduceNeg, Int.reduceLT, Int.reduceLE, Int.reduceEq, Int.reduceNe, posts, pcells]
    refine CallP_eq hb (by decide) ?_
    simp only [hk, go_sem, Int.reduceNegSucc, Nat.reduceAdd, Nat.reduceSub, Nat.reduceMul, Nat.reduceEqDiff, Nat.reduceLeDiff, Nat.reduceLT, Nat.reduceBEq, Nat.reduceBNe, reduceIte, reduceCtorEq, Int.reduceToNat, Int.reduceAdd, Int.reduceSub, Int.reduceMul, Int.reduceNeg, Int.reduceLT, Int.reduceLE, Int.reduceEq, Int.reduceNe, posts, pcells]
set_option maxRecDepth 100000 in
theorem t_rbalance (a : List Pst) (h p : Int) (hl : a.length ≤ 1000000) : Ctr G.P 18 [posts a, .int h, .int p] (· = .int (balanceF a h p)) := by
  have hb := t_rright a hl
  by_cases hr : rightA a = true
  · rw [hr] at hb
    have ht := t_before a a.length h p (Nat.le_refl _) hl (by rw [List.take_length]; exact (rt_of hr).1)
    rw [List.take_length] at ht
    simp only [posts] at ht
    rw [balanceF, if_pos hr]
    refine ctr_go good _ _ [.tmp 6] Try.func18 rfl rfl (by decide +kernel) rfl ?_
    simp only [go_sem, Int.reduceNegSucc, Nat.reduceAdd, Nat.reduceSub, Nat.reduceMul, Nat.reduceEqDiff, Nat.reduceLeDiff, Nat.reduceLT, Nat.reduceBEq, Nat.reduceBNe, reduceIte, reduceCtorEq, Int.reduceToNat, Int.reduceAdd, Int.reduceSub, Int.reduceMul, Int.reduceNeg, Int.reduceLT, Int.reduceLE, Int.reduceEq, Int.reduceNe, posts, pcells]
    refine CallP_eq hb (by decide) ?_
    simp only [go_sem, Int.reduceNegSucc, Nat.reduceAdd, Nat.reduceSub, Nat.reduceMul, Nat.reduceEqDiff, Nat.reduceLeDiff, Nat.reduceLT, Nat.reduceBEq, Nat.reduceBNe, reduceIte, reduceCtorEq, Int.reduceToNat, Int.reduceAdd, Int.reduceSub, Int.reduceMul, Int.reduceNeg, Int.reduceLT, Int.reduceLE, Int.reduceEq, Int.reduceNe, posts, pcells]
    refine CallP_eq ht (by decide) ?_
    simp only [go_sem, Int.reduceNegSucc, Nat.reduceAdd, Nat.reduceSub, Nat.reduceMul, Nat.reduceEqDiff, Nat.reduceLeDiff, Nat.reduceLT, Nat.reduceBEq, Nat.reduceBNe, reduceIte, reduceCtorEq, Int.reduceToNat, Int.reduceAdd, Int.reduceSub, Int.reduceMul, Int.reduceNeg, Int.reduceLT, Int.reduceLE, Int.reduceEq, Int.reduceNe, posts, pcells]
  · have hr : rightA a = false := by simpa using hr
    rw [hr] at hb
    rw [balanceF, if_neg (by rw [hr]; decide)]
    refine ctr_go good _ _ [.tmp 6] Try.func18 rfl rfl (by decide +kernel) rfl ?_
    simp only [go_sem, Int.reduceNegSucc, Nat.reduceAdd, Nat.reduceSub, Nat.reduceMul, Nat.reduceEqDiff, Nat.reduceLeDiff, Nat.reduceLT, Nat.reduceBEq, Nat.reduceBNe, reduceIte, reduceCtorEq, Int.reduceToNat, Int.reduceAdd, Int.reduceSub, Int.reduceMul, Int.reduceNeg, Int.reduceLT, Int.reduceLE, Int.reduceEq, Int.reduceNe, posts, pcells]
    refine CallP_eq hb (by decide) ?_
    simp only [go_sem, Int.reduceNegSucc, Nat.reduceAdd, Nat.reduceSub, Nat.reduceMul, Nat.reduceEqDiff, Nat.reduceLeDiff, Nat.reduceLT, Nat.reduceBEq, Nat.reduceBNe, reduceIte, reduceCtorEq, Int.reduceToNat, Int.reduceAdd, Int.reduceSub, Int.reduceMul, Int.reduceNeg, Int.reduceLT, Int.reduceLE, Int.reduceEq, Int.reduceNe, posts, pcells]
end Go.Proofs.Ytpnlfkaijdjhlab

namespace Go.Proofs.Ytpnlfkaijdjhlab
set_option linter.all false
open Go.Abs

theorem post_arg {a : List Pst} {h p v c : Int} (hb : (rightA a && (inF h 0 99 && (inF p 0 100000 && inF v 0 100000))) = false) : postF a h p v c = ([], 1) := by rw [postF, if_pos hb]
theorem post_range {a : List Pst} {h p v c : Int} (hb : ¬ (rightA a && (inF h 0 99 && (inF p 0 100000 && inF v 0 100000))) = false) (hc : inF c 0 1125899906842624 = false) : postF a h p v c = ([], 3) := by rw [postF, if_neg hb, if_pos hc]
theorem post_ok {a : List Pst} {h p v c : Int} (hb : ¬ (rightA a && (inF h 0 99 && (inF p 0 100000 && inF v 0 100000))) = false) (hc : ¬ inF c 0 1125899906842624 = false) :
    postF a h p v c = if (bef a h p).1 = c then (a, 0) else if v ≤ (bef a h p).2 then ([], 5) else if 500 ≤ (a.length : Int) then ([], 6) else (a ++ [⟨h, p, c - (bef a h p).1, v⟩], 0) := by rw [postF, if_neg hb, if_neg hc]
set_option maxRecDepth 100000 in
set_option maxHeartbeats 1000000 in
theorem t_rpost (a : List Pst) (h p v c : Int) (hl : a.length ≤ 1000000) : Ctr G.P 11 [posts a, .int h, .int p, .int v, .int c] (· = .tup [posts (postF a h p v c).1, .int (postF a h p v c).2]) := by
  have hb := t_rright a hl
  have c1 := t_rin h 0 99
  have c2 := t_rin p 0 100000
  have c3 := t_rin v 0 100000
  have c4 := t_rin c 0 1125899906842624
  by_cases hr : rightA a = true
  case neg =>
    have hr : rightA a = false := by simpa using hr
    rw [hr] at hb
    rw [post_arg (by rw [hr]; rfl)]
    refine ctr_go good _ _ [.tmp 10, .tmp 11] Try.func11 rfl rfl (by decide +kernel) rfl ?_
    simp only [go_sem, Int.reduceNegSucc, Nat.reduceAdd, Nat.reduceSub, Nat.reduceMul, Nat.reduceEqDiff, Nat.reduceLeDiff, Nat.reduceLT, Nat.reduceBEq, Nat.reduceBNe, reduceIte, reduceCtorEq, Int.reduceToNat, Int.reduceAdd, Int.reduceSub, Int.reduceMul, Int.reduceNeg, Int.reduceLT, Int.reduceLE, Int.reduceEq, Int.reduceNe, posts, pcells]
    refine CallP_eq hb (by decide) ?_
    simp only [List.map_nil, go_sem, Int.reduceNegSucc, Nat.reduceAdd, Nat.reduceSub, Nat.reduceMul, Nat.reduceEqDiff, Nat.reduceLeDiff, Nat.reduceLT, Nat.reduceBEq, Nat.reduceBNe, reduceIte, reduceCtorEq, Int.reduceToNat, Int.reduceAdd, Int.reduceSub, Int.reduceMul, Int.reduceNeg, Int.reduceLT, Int.reduceLE, Int.reduceEq, Int.reduceNe, posts, pcells]
  case pos =>
  rw [hr] at hb
  have ht := t_before a a.length h p (Nat.le_refl _) hl (by rw [List.take_length]; exact (rt_of hr).1)
  rw [List.take_length] at ht
  simp only [posts] at ht
  have hbr := (bef_rt a (rt_of hr).1 h p).1
  refine ctr_go good _ _ [.tmp 10, .tmp 11] Try.func11 rfl rfl (by decide +kernel) rfl ?_
  simp only [go_sem, Int.reduceNegSucc, Nat.reduceAdd, Nat.reduceSub, Nat.reduceMul, Nat.reduceEqDiff, Nat.reduceLeDiff, Nat.reduceLT, Nat.reduceBEq, Nat.reduceBNe, reduceIte, reduceCtorEq, Int.reduceToNat, Int.reduceAdd, Int.reduceSub, Int.reduceMul, Int.reduceNeg, Int.reduceLT, Int.reduceLE, Int.reduceEq, Int.reduceNe, posts, pcells]
  refine CallP_eq hb (by decide) ?_
  simp only [go_sem, Int.reduceNegSucc, Nat.reduceAdd, Nat.reduceSub, Nat.reduceMul, Nat.reduceEqDiff, Nat.reduceLeDiff, Nat.reduceLT, Nat.reduceBEq, Nat.reduceBNe, reduceIte, reduceCtorEq, Int.reduceToNat, Int.reduceAdd, Int.reduceSub, Int.reduceMul, Int.reduceNeg, Int.reduceLT, Int.reduceLE, Int.reduceEq, Int.reduceNe, posts, pcells]
  refine CallP_eq c1 (by decide) ?_
  simp only [go_sem, Int.reduceNegSucc, Nat.reduceAdd, Nat.reduceSub, Nat.reduceMul, Nat.reduceEqDiff, Nat.reduceLeDiff, Nat.reduceLT, Nat.reduceBEq, Nat.reduceBNe, reduceIte, reduceCtorEq, Int.reduceToNat, Int.reduceAdd, Int.reduceSub, Int.reduceMul, Int.reduceNeg, Int.reduceLT, Int.reduceLE, Int.reduceEq, Int.reduceNe, posts, pcells]
  refine Two_of (fun d1 => ?_) (fun d1 => ?_)
  rotate_left
  · rw [post_arg (by rw [hr, d1]; rfl)]
    simp only [d1, List.map_nil, go_sem, Int.reduceNegSucc, Nat.reduceAdd, Nat.reduceSub, Nat.reduceMul, Nat.reduceEqDiff, Nat.reduceLeDiff, Nat.reduceLT, Nat.reduceBEq, Nat.reduceBNe, reduceIte, reduceCtorEq, Int.reduceToNat, Int.reduceAdd, Int.reduceSub, Int.reduceMul, Int.reduceNeg, Int.reduceLT, Int.reduceLE, Int.reduceEq, Int.reduceNe, posts, pcells]
  simp only [d1, go_sem, Int.reduceNegSucc, Nat.reduceAdd, Nat.reduceSub, Nat.reduceMul, Nat.reduceEqDiff, Nat.reduceLeDiff, Nat.reduceLT, Nat.reduceBEq, Nat.reduceBNe, reduceIte, reduceCtorEq, Int.reduceToNat, Int.reduceAdd, Int.reduceSub, Int.reduceMul, Int.reduceNeg, Int.reduceLT, Int.reduceLE, Int.reduceEq, Int.reduceNe, posts, pcells]
  refine CallP_eq c2 (by decide) ?_
  simp only [d1, go_sem, Int.reduceNegSucc, Nat.reduceAdd, Nat.reduceSub, Nat.reduceMul, Nat.reduceEqDiff, Nat.reduceLeDiff, Nat.reduceLT, Nat.reduceBEq, Nat.reduceBNe, reduceIte, reduceCtorEq, Int.reduceToNat, Int.reduceAdd, Int.reduceSub, Int.reduceMul, Int.reduceNeg, Int.reduceLT, Int.reduceLE, Int.reduceEq, Int.reduceNe, posts, pcells]
  refine Two_of (fun d2 => ?_) (fun d2 => ?_)
  rotate_left
  · rw [post_arg (by rw [hr, d1, d2]; rfl)]
    simp only [d1, d2, List.map_nil, go_sem, Int.reduceNegSucc, Nat.reduceAdd, Nat.reduceSub, Nat.reduceMul, Nat.reduceEqDiff, Nat.reduceLeDiff, Nat.reduceLT, Nat.reduceBEq, Nat.reduceBNe, reduceIte, reduceCtorEq, Int.reduceToNat, Int.reduceAdd, Int.reduceSub, Int.reduceMul, Int.reduceNeg, Int.reduceLT, Int.reduceLE, Int.reduceEq, Int.reduceNe, posts, pcells]
  simp only [d1, d2, go_sem, Int.reduceNegSucc, Nat.reduceAdd, Nat.reduceSub, Nat.reduceMul, Nat.reduceEqDiff, Nat.reduceLeDiff, Nat.reduceLT, Nat.reduceBEq, Nat.reduceBNe, reduceIte, reduceCtorEq, Int.reduceToNat, Int.reduceAdd, Int.reduceSub, Int.reduceMul, Int.reduceNeg, Int.reduceLT, Int.reduceLE, Int.reduceEq, Int.reduceNe, posts, pcells]
  refine CallP_eq c3 (by decide) ?_
  simp only [d1, d2, go_sem, Int.reduceNegSucc, Nat.reduceAdd, Nat.reduceSub, Nat.reduceMul, Nat.reduceEqDiff, Nat.reduceLeDiff, Nat.reduceLT, Nat.reduceBEq, Nat.reduceBNe, reduceIte, reduceCtorEq, Int.reduceToNat, Int.reduceAdd, Int.reduceSub, Int.reduceMul, Int.reduceNeg, Int.reduceLT, Int.reduceLE, Int.reduceEq, Int.reduceNe, posts, pcells]
  refine Two_of (fun d3 => ?_) (fun d3 => ?_)
  rotate_left
  · rw [post_arg (by rw [hr, d1, d2, d3]; rfl)]
    simp only [d1, d2, d3, List.map_nil, go_sem, Int.reduceNegSucc, Nat.reduceAdd, Nat.reduceSub, Nat.reduceMul, Nat.reduceEqDiff, Nat.reduceLeDiff, Nat.reduceLT, Nat.reduceBEq, Nat.reduceBNe, reduceIte, reduceCtorEq, Int.reduceToNat, Int.reduceAdd, Int.reduceSub, Int.reduceMul, Int.reduceNeg, Int.reduceLT, Int.reduceLE, Int.reduceEq, Int.reduceNe, posts, pcells]
  simp only [d1, d2, d3, go_sem, Int.reduceNegSucc, Nat.reduceAdd, Nat.reduceSub, Nat.reduceMul, Nat.reduceEqDiff, Nat.reduceLeDiff, Nat.reduceLT, Nat.reduceBEq, Nat.reduceBNe, reduceIte, reduceCtorEq, Int.reduceToNat, Int.reduceAdd, Int.reduceSub, Int.reduceMul, Int.reduceNeg, Int.reduceLT, Int.reduceLE, Int.reduceEq, Int.reduceNe, posts, pcells]
  have hg : ¬ (rightA a && (inF h 0 99 && (inF p 0 100000 && inF v 0 100000))) = false := by rw [hr, d1, d2, d3]; decide
  refine CallP_eq c4 (by decide) ?_
  simp only [d1, d2, d3, go_sem, Int.reduceNegSucc, Nat.reduceAdd, Nat.reduceSub, Nat.reduceMul, Nat.reduceEqDiff, Nat.reduceLeDiff, Nat.reduceLT, Nat.reduceBEq, Nat.reduceBNe, reduceIte, reduceCtorEq, Int.reduceToNat, Int.reduceAdd, Int.reduceSub, Int.reduceMul, Int.reduceNeg, Int.reduceLT, Int.reduceLE, Int.reduceEq, Int.reduceNe, posts, pcells]
  refine Two_of (fun d4 => ?_) (fun d4 => ?_)
  rotate_left
  · rw [post_range hg d4]
    simp only [d1, d2, d3, d4, List.map_nil, go_sem, Int.reduceNegSucc, Nat.reduceAdd, Nat.reduceSub, Nat.reduceMul, Nat.reduceEqDiff, Nat.reduceLeDiff, Nat.reduceLT, Nat.reduceBEq, Nat.reduceBNe, reduceIte, reduceCtorEq, Int.reduceToNat, Int.reduceAdd, Int.reduceSub, Int.reduceMul, Int.reduceNeg, Int.reduceLT, Int.reduceLE, Int.reduceEq, Int.reduceNe, posts, pcells]
  rw [post_ok hg (by rw [d4]; decide)]
  have hcc := inF_iff.1 d4
  have hws := i64_ok (n := c - (bef a h p).1) (by omega)
  simp only [d1, d2, d3, d4, go_sem, Int.reduceNegSucc, Nat.reduceAdd, Nat.reduceSub, Nat.reduceMul, Nat.reduceEqDiff, Nat.reduceLeDiff, Nat.reduceLT, Nat.reduceBEq, Nat.reduceBNe, reduceIte, reduceCtorEq, Int.reduceToNat, Int.reduceAdd, Int.reduceSub, Int.reduceMul, Int.reduceNeg, Int.reduceLT, Int.reduceLE, Int.reduceEq, Int.reduceNe, posts, pcells]
  refine CallP_eq ht (by decide) ?_
  simp only [d1, d2, d3, d4, go_sem, Int.reduceNegSucc, Nat.reduceAdd, Nat.reduceSub, Nat.reduceMul, Nat.reduceEqDiff, Nat.reduceLeDiff, Nat.reduceLT, Nat.reduceBEq, Nat.reduceBNe, reduceIte, reduceCtorEq, Int.reduceToNat, Int.reduceAdd, Int.reduceSub, Int.reduceMul, Int.reduceNeg, Int.reduceLT, Int.reduceLE, Int.reduceEq, Int.reduceNe, posts, pcells]
  refine ⟨by simp, pcells_len a, by first | omega | (simp; omega), ?_⟩
  refine Two_dec (fun d5 d5' => ?_) (fun d5 d5' => ?_)
  · rw [if_pos d5']
    simp only [d5, go_sem, Int.reduceNegSucc, Nat.reduceAdd, Nat.reduceSub, Nat.reduceMul, Nat.reduceEqDiff, Nat.reduceLeDiff, Nat.reduceLT, Nat.reduceBEq, Nat.reduceBNe, reduceIte, reduceCtorEq, Int.reduceToNat, Int.reduceAdd, Int.reduceSub, Int.reduceMul, Int.reduceNeg, Int.reduceLT, Int.reduceLE, Int.reduceEq, Int.reduceNe, posts, pcells]
  rw [if_neg d5']
  simp only [d5, go_sem, Int.reduceNegSucc, Nat.reduceAdd, Nat.reduceSub, Nat.reduceMul, Nat.reduceEqDiff, Nat.reduceLeDiff, Nat.reduceLT, Nat.reduceBEq, Nat.reduceBNe, reduceIte, reduceCtorEq, Int.reduceToNat, Int.reduceAdd, Int.reduceSub, Int.reduceMul, Int.reduceNeg, Int.reduceLT, Int.reduceLE, Int.reduceEq, Int.reduceNe, posts, pcells]
  refine Two_dec (fun d6 d6' => ?_) (fun d6 d6' => ?_)
  · rw [if_pos d6']
    simp only [d6, List.map_nil, go_sem, Int.reduceNegSucc, Nat.reduceAdd, Nat.reduceSub, Nat.reduceMul, Nat.reduceEqDiff, Nat.reduceLeDiff, Nat.reduceLT, Nat.reduceBEq, Nat.reduceBNe, reduceIte, reduceCtorEq, Int.reduceToNat, Int.reduceAdd, Int.reduceSub, Int.reduceMul, Int.reduceNeg, Int.reduceLT, Int.reduceLE, Int.reduceEq, Int.reduceNe, posts, pcells]
  rw [if_neg d6']
  simp only [d6, go_sem, Int.reduceNegSucc, Nat.reduceAdd, Nat.reduceSub, Nat.reduceMul, Nat.reduceEqDiff, Nat.reduceLeDiff, Nat.reduceLT, Nat.reduceBEq, Nat.reduceBNe, reduceIte, reduceCtorEq, Int.reduceToNat, Int.reduceAdd, Int.reduceSub, Int.reduceMul, Int.reduceNeg, Int.reduceLT, Int.reduceLE, Int.reduceEq, Int.reduceNe, posts, pcells]
  refine Two_dec (fun d7 d7' => ?_) (fun d7 d7' => ?_)
  · rw [if_pos d7']
    simp only [d7, List.map_nil, go_sem, Int.reduceNegSucc, Nat.reduceAdd, Nat.reduceSub, Nat.reduceMul, Nat.reduceEqDiff, Nat.reduceLeDiff, Nat.reduceLT, Nat.reduceBEq, Nat.reduceBNe, reduceIte, reduceCtorEq, Int.reduceToNat, Int.reduceAdd, Int.reduceSub, Int.reduceMul, Int.reduceNeg, Int.reduceLT, Int.reduceLE, Int.reduceEq, Int.reduceNe, posts, pcells]
  rw [if_neg d7']
  simp only [d7, hws, List.map_append, List.map_cons, List.map_nil, go_sem, Int.reduceNegSucc, Nat.reduceAdd, Nat.reduceSub, Nat.reduceMul, Nat.reduceEqDiff, Nat.reduceLeDiff, Nat.reduceLT, Nat.reduceBEq, Nat.reduceBNe, reduceIte, reduceCtorEq, Int.reduceToNat, Int.reduceAdd, Int.reduceSub, Int.reduceMul, Int.reduceNeg, Int.reduceLT, Int.reduceLE, Int.reduceEq, Int.reduceNe, posts, pcells]
  refine ⟨pcells_len a, ?_⟩
  exact ⟨by simp, by omega⟩
end Go.Proofs.Ytpnlfkaijdjhlab

namespace Go.Proofs.Ytpnlfkaijdjhlab
set_option linter.all false
open Go.Abs

set_option maxRecDepth 100000 in
theorem t_pclonev (a : List Pst) (hl : a.length ≤ 1000000) : CtrV G.P 34 [posts a] 39 4 (a.map pcells) := by
  refine ctrv_go good _ _ [.tmp 2] Try.func34 rfl rfl (by decide +kernel) rfl ?_
  simp only [go_sem, Int.reduceNegSucc, Nat.reduceAdd, Nat.reduceSub, Nat.reduceMul, Nat.reduceEqDiff, Nat.reduceLeDiff, Nat.reduceLT, Nat.reduceBEq, Nat.reduceBNe, reduceIte, reduceCtorEq, Int.reduceToNat, Int.reduceAdd, Int.reduceSub, Int.reduceMul, Int.reduceNeg, Int.reduceLT, Int.reduceLE, Int.reduceEq, Int.reduceNe, posts, pcells]
  refine NilP_of (fun h => ?_) ?_
  · have : a = [] := List.map_eq_nil_iff.1 h
    subst this
    simp only [List.map_nil, go_sem, Int.reduceNegSucc, Nat.reduceAdd, Nat.reduceSub, Nat.reduceMul, Nat.reduceEqDiff, Nat.reduceLeDiff, Nat.reduceLT, Nat.reduceBEq, Nat.reduceBNe, reduceIte, reduceCtorEq, Int.reduceToNat, Int.reduceAdd, Int.reduceSub, Int.reduceMul, Int.reduceNeg, Int.reduceLT, Int.reduceLE, Int.reduceEq, Int.reduceNe, posts, pcells]
  · simp only [go_sem, Int.reduceNegSucc, Nat.reduceAdd, Nat.reduceSub, Nat.reduceMul, Nat.reduceEqDiff, Nat.reduceLeDiff, Nat.reduceLT, Nat.reduceBEq, Nat.reduceBNe, reduceIte, reduceCtorEq, Int.reduceToNat, Int.reduceAdd, Int.reduceSub, Int.reduceMul, Int.reduceNeg, Int.reduceLT, Int.reduceLE, Int.reduceEq, Int.reduceNe, posts, pcells]
    exact ⟨by simp, pcells_len a, by first | omega | (simp; omega)⟩
end Go.Proofs.Ytpnlfkaijdjhlab
