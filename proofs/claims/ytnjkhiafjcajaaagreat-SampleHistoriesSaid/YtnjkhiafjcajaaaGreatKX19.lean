/- A part of the proof: what functions of the program do, and the layer under it. No further condition. -/
import Derived.Test.YtnjkhiafjcajaaaGreatKX18
namespace Go.Proofs.YtnjkhiafjcajaaaGreat
set_option linter.all false
open Go.Abs

def certF (e : Evid) (c : Cert) : Bool := decide (0 ≤ c.fr) && decide (c.fr ≤ c.until') && decide (c.until' ≤ 100000) && idx c.scale e.scales && btw c.grams 0 1099511627776 && btw c.perMille 0 1000 && btw c.drift 0 10000000
def recallF (e : Evid) (r : Recall) : Bool := idx r.scale e.scales && btw r.since 0 100000
def purF (e : Evid) (p : Purity) : Bool := idx p.move e.moves.length && idx p.mat e.mats && !decide (p.least < 0) && !decide (p.most < p.least) && !decide (1000 < p.most)
def saidF (e : Evid) : Bool := e.certs.all (certF e) && e.recalls.all (recallF e) && e.purs.all (purF e)
theorem at_nat {α : Type} {l : List α} {i : Nat} (h : (i : Int) < l.length) : ∃ x, l[i]? = some x := ⟨_, List.getElem?_eq_getElem (by omega)⟩
theorem lt_dec {a b : Int} (h : decide (a < b) = true) : a < b := of_decide_eq_true h
set_option maxRecDepth 100000 in
set_option maxHeartbeats 2000000 in
theorem c49 (e : Evid) (h5 : e.certs.length ≤ 1000) (h6 : e.recalls.length ≤ 1000) (h7 : e.purs.length ≤ 1000) : Ctr G.P 47 [e.iv] (· = .bool (saidF e)) := by
  refine ctr_go good _ _ [.tmp 2] Tryz.func47 rfl rfl (by decide +kernel) rfl ?_
  unfold Evid.iv Evid.c
  simp only [go_sem, Evid.iv, Evid.c, Place.c, Move.c, Cert.c, Recall.c, Purity.c, Sample.c, Recipe.c, ints, ic]
  refine LoopP_of [1, 11, 12, 13] [1] (fun i : Nat => ⟨[(1, .loc 1 8 0 0), (11, .im (.sl (e.certs.map Cert.c))), (12, .im (.int e.certs.length)), (13, .im (.int i))], [(1, 8, [e.c])], []⟩)
    (fun i => i ≤ e.certs.length ∧ (e.certs.take i).all (certF e) = true) (fun i => e.certs.length - i) 0 ?_ ⟨Nat.zero_le _, rfl⟩ ?_
  · simp only [Evid.c, Int.natCast_zero, go_sem, Evid.iv, Evid.c, Place.c, Move.c, Cert.c, Recall.c, Purity.c, Sample.c, Recipe.c, ints, ic]
  · intro i ⟨hi, ha⟩
    by_cases hp : (i : Int) < e.certs.length
    · have hd : decide ((i : Int) < e.certs.length) = true := decide_eq_true hp
      obtain ⟨x, hx⟩ := at_nat hp
      have h1 := i64_ok (n := (i : Int) + 1) (by omega)
      have hat := all_take_succ (f := certF e) hx
      have hn : certF e x = false → saidF e = false := fun h => by simp [saidF, all_not hx h]
      simp only [hd, List.getElem?_map, hx, Cert.c, Evid.c, go_sem, Evid.iv, Evid.c, Place.c, Move.c, Cert.c, Recall.c, Purity.c, Sample.c, Recipe.c, ints, ic]
      repeat' (first | (refine Two_of (fun hd => ?_) (fun hd => ?_) <;> simp only [*, go_sem, Evid.iv, Evid.c, Place.c, Move.c, Cert.c, Recall.c, Purity.c, Sample.c, Recipe.c, ints, ic]) | (refine CallP_eq (c67 _ _) (by first | decide | assumption) ?_; simp only [*, go_sem, Evid.iv, Evid.c, Place.c, Move.c, Cert.c, Recall.c, Purity.c, Sample.c, Recipe.c, ints, ic]) | (refine CallP_eq (c68 _ _ _) (by first | decide | assumption) ?_; simp only [*, go_sem, Evid.iv, Evid.c, Place.c, Move.c, Cert.c, Recall.c, Purity.c, Sample.c, Recipe.c, ints, ic]) | (refine CallD_eq (c67 _ _) (by decide) ?_; simp only [*, go_sem, Evid.iv, Evid.c, Place.c, Move.c, Cert.c, Recall.c, Purity.c, Sample.c, Recipe.c, ints, ic]) | (refine CallD_eq (c68 _ _ _) (by decide) ?_; simp only [*, go_sem, Evid.iv, Evid.c, Place.c, Move.c, Cert.c, Recall.c, Purity.c, Sample.c, Recipe.c, ints, ic]))
      all_goals first
        | (refine RoundP_of (i + 1) ?_ ?_ ⟨?_, ?_⟩
           · simp only [h1, Evid.c, Int.natCast_add, go_sem, Evid.iv, Evid.c, Place.c, Move.c, Cert.c, Recall.c, Purity.c, Sample.c, Recipe.c, ints, ic]
           · omega
           · omega
           · rw [hat, ha, Bool.true_and]; clear hn hat ha h1; simp_all [certF]
           done)
        | (rw [hn (by clear hn hat ha h1; simp_all [certF] <;> (intros; omega))]; done)
    · have hd : decide ((i : Int) < e.certs.length) = false := decide_eq_false hp
      rw [List.take_of_length_le (by omega)] at ha
      simp only [hd, Evid.c, go_sem, Evid.iv, Evid.c, Place.c, Move.c, Cert.c, Recall.c, Purity.c, Sample.c, Recipe.c, ints, ic]
      clear hd hp hi
      refine LoopP_of [1, 62, 63, 64] [1] (fun i : Nat => ⟨[(1, .loc 1 8 0 0), (62, .im (.sl (e.recalls.map Recall.c))), (63, .im (.int e.recalls.length)), (64, .im (.int i))], [(1, 8, [e.c])], []⟩)
        (fun i => i ≤ e.recalls.length ∧ (e.recalls.take i).all (recallF e) = true) (fun i => e.recalls.length - i) 0 ?_ ⟨Nat.zero_le _, rfl⟩ ?_
      · simp only [Evid.c, Int.natCast_zero, go_sem, Evid.iv, Evid.c, Place.c, Move.c, Cert.c, Recall.c, Purity.c, Sample.c, Recipe.c, ints, ic]
      · intro i ⟨hi, hb⟩
        by_cases hp : (i : Int) < e.recalls.length
        · have hd : decide ((i : Int) < e.recalls.length) = true := decide_eq_true hp
          obtain ⟨x, hx⟩ := at_nat hp
          have h1 := i64_ok (n := (i : Int) + 1) (by omega)
          have hat := all_take_succ (f := recallF e) hx
          have hn : recallF e x = false → saidF e = false := fun h => by simp [saidF, all_not hx h]
          simp only [hd, List.getElem?_map, hx, Recall.c, Evid.c, go_sem, Evid.iv, Evid.c, Place.c, Move.c, Cert.c, Recall.c, Purity.c, Sample.c, Recipe.c, ints, ic]
          repeat' (first | (refine Two_of (fun hd => ?_) (fun hd => ?_) <;> simp only [*, go_sem, Evid.iv, Evid.c, Place.c, Move.c, Cert.c, Recall.c, Purity.c, Sample.c, Recipe.c, ints, ic]) | (refine CallP_eq (c67 _ _) (by first | decide | assumption) ?_; simp only [*, go_sem, Evid.iv, Evid.c, Place.c, Move.c, Cert.c, Recall.c, Purity.c, Sample.c, Recipe.c, ints, ic]) | (refine CallP_eq (c68 _ _ _) (by first | decide | assumption) ?_; simp only [*, go_sem, Evid.iv, Evid.c, Place.c, Move.c, Cert.c, Recall.c, Purity.c, Sample.c, Recipe.c, ints, ic]) | (refine CallD_eq (c67 _ _) (by decide) ?_; simp only [*, go_sem, Evid.iv, Evid.c, Place.c, Move.c, Cert.c, Recall.c, Purity.c, Sample.c, Recipe.c, ints, ic]) | (refine CallD_eq (c68 _ _ _) (by decide) ?_; simp only [*, go_sem, Evid.iv, Evid.c, Place.c, Move.c, Cert.c, Recall.c, Purity.c, Sample.c, Recipe.c, ints, ic]))
          all_goals first
            | (refine RoundP_of (i + 1) ?_ ?_ ⟨?_, ?_⟩
               · simp only [h1, Evid.c, Int.natCast_add, go_sem, Evid.iv, Evid.c, Place.c, Move.c, Cert.c, Recall.c, Purity.c, Sample.c, Recipe.c, ints, ic]
               · omega
               · omega
               · rw [hat, hb, Bool.true_and]; clear hn hat hb h1; simp_all [recallF]
               done)
            | (rw [hn (by clear hn hat hb h1; simp_all [recallF])]; done)
        · have hd : decide ((i : Int) < e.recalls.length) = false := decide_eq_false hp
          rw [List.take_of_length_le (by omega)] at hb
          simp only [hd, Evid.c, go_sem, Evid.iv, Evid.c, Place.c, Move.c, Cert.c, Recall.c, Purity.c, Sample.c, Recipe.c, ints, ic]
          clear hd hp hi
          refine LoopP_of [1, 82, 83, 84] [1] (fun i : Nat => ⟨[(1, .loc 1 8 0 0), (82, .im (.sl (e.purs.map Purity.c))), (83, .im (.int e.purs.length)), (84, .im (.int i))], [(1, 8, [e.c])], []⟩)
            (fun i => i ≤ e.purs.length ∧ (e.purs.take i).all (purF e) = true) (fun i => e.purs.length - i) 0 ?_ ⟨Nat.zero_le _, rfl⟩ ?_
          · simp only [Evid.c, Int.natCast_zero, go_sem, Evid.iv, Evid.c, Place.c, Move.c, Cert.c, Recall.c, Purity.c, Sample.c, Recipe.c, ints, ic]
          · intro i ⟨hi, hc⟩
            by_cases hp : (i : Int) < e.purs.length
            · have hd : decide ((i : Int) < e.purs.length) = true := decide_eq_true hp
              obtain ⟨x, hx⟩ := at_nat hp
              have h1 := i64_ok (n := (i : Int) + 1) (by omega)
              have hat := all_take_succ (f := purF e) hx
              have hn : purF e x = false → saidF e = false := fun h => by simp [saidF, all_not hx h]
              simp only [hd, List.getElem?_map, hx, Purity.c, Evid.c, go_sem, Evid.iv, Evid.c, Place.c, Move.c, Cert.c, Recall.c, Purity.c, Sample.c, Recipe.c, ints, ic]
              repeat' (first | (refine Two_of (fun hd => ?_) (fun hd => ?_) <;> simp only [*, go_sem, Evid.iv, Evid.c, Place.c, Move.c, Cert.c, Recall.c, Purity.c, Sample.c, Recipe.c, ints, ic]) | (refine CallP_eq (c67 _ _) (by first | decide | assumption) ?_; simp only [*, go_sem, Evid.iv, Evid.c, Place.c, Move.c, Cert.c, Recall.c, Purity.c, Sample.c, Recipe.c, ints, ic]) | (refine CallP_eq (c68 _ _ _) (by first | decide | assumption) ?_; simp only [*, go_sem, Evid.iv, Evid.c, Place.c, Move.c, Cert.c, Recall.c, Purity.c, Sample.c, Recipe.c, ints, ic]) | (refine CallD_eq (c67 _ _) (by decide) ?_; simp only [*, go_sem, Evid.iv, Evid.c, Place.c, Move.c, Cert.c, Recall.c, Purity.c, Sample.c, Recipe.c, ints, ic]) | (refine CallD_eq (c68 _ _ _) (by decide) ?_; simp only [*, go_sem, Evid.iv, Evid.c, Place.c, Move.c, Cert.c, Recall.c, Purity.c, Sample.c, Recipe.c, ints, ic]))
              all_goals first
                | (refine RoundP_of (i + 1) ?_ ?_ ⟨?_, ?_⟩
                   · simp only [h1, Evid.c, Int.natCast_add, go_sem, Evid.iv, Evid.c, Place.c, Move.c, Cert.c, Recall.c, Purity.c, Sample.c, Recipe.c, ints, ic]
                   · omega
                   · omega
                   · rw [hat, hc, Bool.true_and]; clear hn hat hc h1; simp_all [purF]
                   done)
                | (rw [hn (by clear hn hat hc h1; simp_all [purF])]; done)
            · have hd : decide ((i : Int) < e.purs.length) = false := decide_eq_false hp
              rw [List.take_of_length_le (by omega)] at hc
              simp only [hd, go_sem, Evid.iv, Evid.c, Place.c, Move.c, Cert.c, Recall.c, Purity.c, Sample.c, Recipe.c, ints, ic]
              simp [saidF, ha, hb, hc]
end Go.Proofs.YtnjkhiafjcajaaaGreat

namespace Go.Proofs.YtnjkhiafjcajaaaGreat
set_option linter.all false
open Go.Abs

def movesErr (e : Evid) : Int → List Move → Int
  | _, [] => 0
  | last, m :: r => if decide (m.day < last) = true then 17 else if decide (100000 < m.day) = true then 17 else if moveF e m = false then 1 else movesErr e m.day r
def checkF (e : Evid) : Int :=
  if (pairs e).all fitP = false then 6 else if decide (e.mats < 1) = true then 1 else if decide (e.houses < 0) = true then 1 else if decide (e.scales < 0) = true then 1 else if e.places.all (placeF e) = false then 1 else
  if movesErr e 0 e.moves ≠ 0 then movesErr e 0 e.moves else if saidF e = true then 0 else 1
theorem drop_cons {α : Type} {l : List α} {i : Nat} {x : α} (h : l[i]? = some x) : l.drop i = x :: l.drop (i + 1) := by
  obtain ⟨hi, rfl⟩ := List.getElem?_eq_some_iff.1 h
  exact List.drop_eq_getElem_cons hi
theorem fit_len {e : Evid} (h : (pairs e).all fitP = true) : e.places.length ≤ 100 ∧ e.moves.length ≤ 200 ∧ e.certs.length ≤ 100 ∧ e.recalls.length ≤ 30 ∧ e.purs.length ≤ 200 ∧ e.mats ≤ 6 ∧ e.houses ≤ 100 ∧ e.scales ≤ 30 := by
  simp [pairs, fitP] at h
  omega
theorem c21 (e : Evid) : Ctr G.P 11 [e.iv] (· = .int (checkF e)) := by
  have h46 := c46 e
  rcases hf : (pairs e).all fitP with _ | _
  · have hc : checkF e = 6 := by simp [checkF, hf]
    rw [hf] at h46
    refine ctr_go good _ _ [.tmp 2] Tryz.func11 rfl rfl (by decide +kernel) rfl ?_
    unfold Evid.iv Evid.c
    rw [hc]
    simp only [go_sem, Evid.iv, Evid.c, Place.c, Move.c, Cert.c, Recall.c, Purity.c, Sample.c, Recipe.c, ints, ic]
    refine CallP_eq h46 (by decide) ?_
    simp only [go_sem, Evid.iv, Evid.c, Place.c, Move.c, Cert.c, Recall.c, Purity.c, Sample.c, Recipe.c, ints, ic]
  · obtain ⟨l1, l2, l3, l4, l5, _, _, _⟩ := fit_len hf
    have h47 := c47 e (by omega)
    have h49 := c49 e (by omega) (by omega) (by omega)
    rw [hf] at h46
    have hc : checkF e = if decide (e.mats < 1) = true then 1 else if decide (e.houses < 0) = true then 1 else if decide (e.scales < 0) = true then 1 else if e.places.all (placeF e) = false then 1 else
      if movesErr e 0 e.moves ≠ 0 then movesErr e 0 e.moves else if saidF e = true then 0 else 1 := by simp [checkF, hf]
    clear hf
    refine ctr_go good _ _ [.tmp 2] Tryz.func11 rfl rfl (by decide +kernel) rfl ?_
    rw [hc]
    clear hc
    generalize hpl : e.places.all (placeF e) = pl at *
    generalize hsd : saidF e = sd at *
    unfold Evid.iv Evid.c
    simp only [go_sem, Evid.iv, Evid.c, Place.c, Move.c, Cert.c, Recall.c, Purity.c, Sample.c, Recipe.c, ints, ic]
    refine CallP_eq h46 (by decide) ?_
    simp only [go_sem, Evid.iv, Evid.c, Place.c, Move.c, Cert.c, Recall.c, Purity.c, Sample.c, Recipe.c, ints, ic]
    repeat' (first | (refine Two_of (fun hd => ?_) (fun hd => ?_) <;> simp only [*, go_sem, Evid.iv, Evid.c, Place.c, Move.c, Cert.c, Recall.c, Purity.c, Sample.c, Recipe.c, ints, ic]) | (refine CallP_eq (h47) (by first | decide | assumption) ?_; simp only [*, go_sem, Evid.iv, Evid.c, Place.c, Move.c, Cert.c, Recall.c, Purity.c, Sample.c, Recipe.c, ints, ic]) | (refine CallD_eq (h47) (by decide) ?_; simp only [*, go_sem, Evid.iv, Evid.c, Place.c, Move.c, Cert.c, Recall.c, Purity.c, Sample.c, Recipe.c, ints, ic]))
    rename_i k1 k2 k3 k4
    clear h47 h46
    refine LoopP_of [1, 3, 29, 30, 31] [1] (fun g : Nat × Int => ⟨[(1, .loc 1 8 0 0), (3, .im (.int g.2)), (29, .im (.sl (e.moves.map Move.c))), (30, .im (.int e.moves.length)), (31, .im (.int g.1))], [(1, 8, [e.c])], []⟩)
      (fun g => g.1 ≤ e.moves.length ∧ movesErr e 0 e.moves = movesErr e g.2 (e.moves.drop g.1)) (fun g => e.moves.length - g.1) (0, 0) ?_ ⟨Nat.zero_le _, rfl⟩ ?_
    · simp only [Evid.c, Int.natCast_zero, go_sem, Evid.iv, Evid.c, Place.c, Move.c, Cert.c, Recall.c, Purity.c, Sample.c, Recipe.c, ints, ic]
    · intro ⟨i, last⟩ ⟨hi, ha⟩
      dsimp only at hi ha
      by_cases hp : (i : Int) < e.moves.length
      · have hd : decide ((i : Int) < e.moves.length) = true := decide_eq_true hp
        obtain ⟨x, hx⟩ := at_nat hp
        have h1 := i64_ok (n := (i : Int) + 1) (by omega)
        rw [drop_cons hx, movesErr] at ha
        simp only [hd, List.getElem?_map, hx, Move.c, Evid.c, go_sem, Evid.iv, Evid.c, Place.c, Move.c, Cert.c, Recall.c, Purity.c, Sample.c, Recipe.c, ints, ic]
        repeat' (first | (refine Two_of (fun hd => ?_) (fun hd => ?_) <;> simp only [*, go_sem, Evid.iv, Evid.c, Place.c, Move.c, Cert.c, Recall.c, Purity.c, Sample.c, Recipe.c, ints, ic]) | (refine CallP_eq (c48 e x) (by first | decide | assumption) ?_; simp only [*, go_sem, Evid.iv, Evid.c, Place.c, Move.c, Cert.c, Recall.c, Purity.c, Sample.c, Recipe.c, ints, ic]) | (refine CallD_eq (c48 e x) (by decide) ?_; simp only [*, go_sem, Evid.iv, Evid.c, Place.c, Move.c, Cert.c, Recall.c, Purity.c, Sample.c, Recipe.c, ints, ic]))
        refine RoundP_of (i + 1, x.day) ?_ ?_ ⟨?_, ?_⟩
        · simp only [h1, Evid.c, Int.natCast_add, go_sem, Evid.iv, Evid.c, Place.c, Move.c, Cert.c, Recall.c, Purity.c, Sample.c, Recipe.c, ints, ic]
        · show e.moves.length - (i + 1) < e.moves.length - i; omega
        · show i + 1 ≤ e.moves.length; omega
        · rw [ha]; simp only [*, Bool.false_eq_true, Bool.true_eq_false, if_false]
      · have hd : decide ((i : Int) < e.moves.length) = false := decide_eq_false hp
        have hi' : e.moves.drop i = [] := List.drop_of_length_le (by omega)
        rw [hi', movesErr] at ha
        simp only [hd, Evid.c, go_sem, Evid.iv, Evid.c, Place.c, Move.c, Cert.c, Recall.c, Purity.c, Sample.c, Recipe.c, ints, ic]
        refine CallP_eq h49 (by decide) ?_
        simp only [*, go_sem, Evid.iv, Evid.c, Place.c, Move.c, Cert.c, Recall.c, Purity.c, Sample.c, Recipe.c, ints, ic]
        repeat' (first | (refine Two_of (fun hd => ?_) (fun hd => ?_) <;> simp only [*, go_sem, Evid.iv, Evid.c, Place.c, Move.c, Cert.c, Recall.c, Purity.c, Sample.c, Recipe.c, ints, ic]) | (refine CallP_eq (h49) (by first | decide | assumption) ?_; simp only [*, go_sem, Evid.iv, Evid.c, Place.c, Move.c, Cert.c, Recall.c, Purity.c, Sample.c, Recipe.c, ints, ic]) | (refine CallD_eq (h49) (by decide) ?_; simp only [*, go_sem, Evid.iv, Evid.c, Place.c, Move.c, Cert.c, Recall.c, Purity.c, Sample.c, Recipe.c, ints, ic]))
end Go.Proofs.YtnjkhiafjcajaaaGreat

namespace Go.Proofs.YtnjkhiafjcajaaaGreat
set_option linter.all false
open Go.Abs

def movesG (is : Move → Bool) (upto : Int) : Nat → List Move → List Int
  | _, [] => []
  | i, m :: r => if (decide ((i : Int) < upto) && is m) = true then (i : Int) :: movesG is upto (i + 1) r else movesG is upto (i + 1) r
def movesF (e : Evid) (upto : Int) (is : Move → Bool) : List Int := if checkF e = 0 then movesG is upto 0 e.moves else []
theorem check_len {e : Evid} (h : checkF e = 0) : e.places.length ≤ 100 ∧ e.moves.length ≤ 200 ∧ e.certs.length ≤ 100 ∧ e.recalls.length ≤ 30 ∧ e.purs.length ≤ 200 ∧ e.mats ≤ 6 ∧ e.houses ≤ 100 ∧ e.scales ≤ 30 := by
  refine fit_len ?_
  by_cases hf : (pairs e).all fitP = true
  · exact hf
  · simp only [Bool.not_eq_true] at hf
    unfold checkF at h
    rw [if_pos hf] at h
    cases h
end Go.Proofs.YtnjkhiafjcajaaaGreat

namespace Go.Proofs.YtnjkhiafjcajaaaGreat
set_option linter.all false
open Go.Abs
def intoF (e : Evid) (place upto : Int) : List Int := movesF e upto fun m => decide (m.to = place)
end Go.Proofs.YtnjkhiafjcajaaaGreat

namespace Go.Proofs.YtnjkhiafjcajaaaGreat
set_option linter.all false
open Go.Abs

def purs (l : List Purity) : IV := .sl (l.map Purity.c)
theorem take_eq_succ {α : Type} [DecidableEq α] {a b : List α} {i : Nat} {x y : α} (ha : a[i]? = some x) (hb : b[i]? = some y) (h : a.take i = b.take i) (hxy : x = y) : a.take (i + 1) = b.take (i + 1) := by
  rw [take_succ ha, take_succ hb, h, hxy]
theorem purEq (x y : Purity) : (decide (x.move = y.move) && (decide (x.mat = y.mat) && (decide (x.least = y.least) && decide (x.most = y.most)))) = decide (x = y) := by
  cases x; cases y; simp
theorem c14 (a b : List Purity) (hl : a.length ≤ 100000) : Ctr G.P 42 [purs a, purs b] (· = .bool (decide (a = b))) := by
  rcases Decidable.em (a.length = b.length) with hlen | hlen
  · refine ctr_go good _ _ [.tmp 4] Tryz.func42 rfl rfl (by decide +kernel) rfl ?_
    unfold purs
    simp only [hlen, go_sem, Evid.iv, Evid.c, Place.c, Move.c, Cert.c, Recall.c, Purity.c, Sample.c, Recipe.c, ints, ic]
    refine LoopP_of [0, 1, 5] [] (fun i : Nat => ⟨[(0, .im (.sl (a.map Purity.c))), (1, .im (.sl (b.map Purity.c))), (5, .im (.int i))], [], []⟩)
      (fun i => i ≤ a.length ∧ a.take i = b.take i) (fun i => a.length - i) 0 ?_ ⟨Nat.zero_le _, by simp⟩ ?_
    · simp only [Int.natCast_zero, go_sem, Evid.iv, Evid.c, Place.c, Move.c, Cert.c, Recall.c, Purity.c, Sample.c, Recipe.c, ints, ic]
    · intro i ⟨hi, ha⟩
      by_cases hp : (i : Int) < a.length
      · have hd : decide ((i : Int) < a.length) = true := decide_eq_true hp
        obtain ⟨x, hx⟩ := at_nat hp
        obtain ⟨y, hy⟩ : ∃ y, b[i]? = some y := ⟨_, List.getElem?_eq_getElem (by omega)⟩
        have h1 := i64_ok (n := (i : Int) + 1) (by omega)
        simp only [hd, hx, hy, go_sem, Evid.iv, Evid.c, Place.c, Move.c, Cert.c, Recall.c, Purity.c, Sample.c, Recipe.c, ints, ic]
        refine DrawP_of 9 (by decide +kernel) ?_
        simp only [List.getElem?_map, hx, hy, Purity.c, go_sem, Evid.iv, Evid.c, Place.c, Move.c, Cert.c, Recall.c, Purity.c, Sample.c, Recipe.c, ints, ic]
        rw [purEq]
        refine Two_dec (fun he hxy => ?_) (fun he hxy => ?_)
        · simp only [he, purEq, go_sem, Evid.iv, Evid.c, Place.c, Move.c, Cert.c, Recall.c, Purity.c, Sample.c, Recipe.c, ints, ic]
          refine RoundP_of (i + 1) ?_ (by omega) ⟨by omega, take_eq_succ hx hy ha hxy⟩
          simp only [h1, Int.natCast_add, go_sem, Evid.iv, Evid.c, Place.c, Move.c, Cert.c, Recall.c, Purity.c, Sample.c, Recipe.c, ints, ic]
        · have hne : a ≠ b := fun h => hxy (by subst h; rw [hx] at hy; exact Option.some.inj hy)
          simp only [he, purEq, hne, go_sem, Evid.iv, Evid.c, Place.c, Move.c, Cert.c, Recall.c, Purity.c, Sample.c, Recipe.c, ints, ic]
      · have hd : decide ((i : Int) < a.length) = false := decide_eq_false hp
        rw [List.take_of_length_le (by omega), List.take_of_length_le (by omega)] at ha
        simp only [hd, go_sem, Evid.iv, Evid.c, Place.c, Move.c, Cert.c, Recall.c, Purity.c, Sample.c, Recipe.c, ints, ic]
        simp [ha]
  · have hne : a ≠ b := fun h => hlen (by rw [h])
    have hi : ¬ (a.length : Int) = b.length := by omega
    refine ctr_go good _ _ [.tmp 4] Tryz.func42 rfl rfl (by decide +kernel) rfl ?_
    unfold purs
    simp only [hi, hne, go_sem, Evid.iv, Evid.c, Place.c, Move.c, Cert.c, Recall.c, Purity.c, Sample.c, Recipe.c, ints, ic]
end Go.Proofs.YtnjkhiafjcajaaaGreat

namespace Go.Proofs.YtnjkhiafjcajaaaGreat
set_option linter.all false
open Go.Abs

theorem any_take_succ {α : Type} {l : List α} {f : α → Bool} {i : Nat} {x : α} (h : l[i]? = some x) : (l.take (i + 1)).any f = ((l.take i).any f || f x) := by
  rw [take_succ h, List.any_append]; simp
theorem any_at {α : Type} {l : List α} {f : α → Bool} {i : Nat} {x : α} (h : l[i]? = some x) (hf : f x = true) : l.any f = true :=
  List.any_eq_true.2 ⟨x, List.mem_of_getElem? h, hf⟩
theorem c52 (l : List Int) (hl : l.length ≤ 100000) (p : Int → Bool) (g : Nat) (caps : List IV) (hg : 3 ≤ g ∧ g < G.fns) (hc : ∀ n : Int, Ctr G.P g (.int n :: caps) (· = .bool (p n))) :
    Ctr G.P 147 [ints l, .clo g caps] (fun r => ∃ k : Int, r = .int k ∧ decide (0 ≤ k) = l.any p) := by
  refine ctr_go good _ _ [.tmp 4] Tryz.func147 rfl rfl (by decide +kernel) rfl ?_
  unfold ints
  simp only [go_sem, Evid.iv, Evid.c, Place.c, Move.c, Cert.c, Recall.c, Purity.c, Sample.c, Recipe.c, ints, ic]
  refine LoopP_of [0, 1, 7, 8] [] (fun i : Nat => ⟨[(0, .im (.sl (l.map ic))), (1, .im (.clo g caps)), (7, .im (.int l.length)), (8, .im (.int i))], [], []⟩)
    (fun i => i ≤ l.length ∧ (l.take i).any p = false) (fun i => l.length - i) 0 ?_ ⟨Nat.zero_le _, rfl⟩ ?_
  · simp only [Int.natCast_zero, go_sem, Evid.iv, Evid.c, Place.c, Move.c, Cert.c, Recall.c, Purity.c, Sample.c, Recipe.c, ints, ic]
  · intro i ⟨hi, ha⟩
    by_cases hp : (i : Int) < l.length
    · have hd : decide ((i : Int) < l.length) = true := decide_eq_true hp
      obtain ⟨x, hx⟩ := at_nat hp
      have h1 := i64_ok (n := (i : Int) + 1) (by omega)
      simp only [hd, List.getElem?_map, hx, ic, go_sem, Evid.iv, Evid.c, Place.c, Move.c, Cert.c, Recall.c, Purity.c, Sample.c, Recipe.c, ints, ic]
      refine CallP_eq (hc x) hg ?_
      simp only [go_sem, Evid.iv, Evid.c, Place.c, Move.c, Cert.c, Recall.c, Purity.c, Sample.c, Recipe.c, ints, ic]
      refine Two_of (fun he => ?_) (fun he => ?_)
      · simp only [he, go_sem, Evid.iv, Evid.c, Place.c, Move.c, Cert.c, Recall.c, Purity.c, Sample.c, Recipe.c, ints, ic]
        exact ⟨i, rfl, by rw [any_at hx he]; simp⟩
      · simp only [he, go_sem, Evid.iv, Evid.c, Place.c, Move.c, Cert.c, Recall.c, Purity.c, Sample.c, Recipe.c, ints, ic]
        refine RoundP_of (i + 1) ?_ (by omega) ⟨by omega, by rw [any_take_succ hx, ha, he]; rfl⟩
        simp only [h1, Int.natCast_add, go_sem, Evid.iv, Evid.c, Place.c, Move.c, Cert.c, Recall.c, Purity.c, Sample.c, Recipe.c, ints, ic]
    · have hd : decide ((i : Int) < l.length) = false := decide_eq_false hp
      rw [List.take_of_length_le (by omega)] at ha
      simp only [hd, go_sem, Evid.iv, Evid.c, Place.c, Move.c, Cert.c, Recall.c, Purity.c, Sample.c, Recipe.c, ints, ic]
      exact ⟨-1, rfl, by rw [ha]; rfl⟩
theorem c26 (l : List Int) (hl : l.length ≤ 100000) (p : Int → Bool) (g : Nat) (caps : List IV) (hg : 3 ≤ g ∧ g < G.fns) (hc : ∀ n : Int, Ctr G.P g (.int n :: caps) (· = .bool (p n))) :
    Ctr G.P 100 [ints l, .clo g caps] (· = .bool (l.any p)) := by
  have h := c52 l hl p g caps hg hc
  refine ctr_go good _ _ [.tmp 4] Tryz.func100 rfl rfl (by decide +kernel) rfl ?_
  simp only [go_sem, Evid.iv, Evid.c, Place.c, Move.c, Cert.c, Recall.c, Purity.c, Sample.c, Recipe.c, ints, ic]
  refine CallP_of h (by decide) ?_
  rintro r ⟨k, rfl, hk⟩
  rw [← hk]
  simp only [go_sem, Evid.iv, Evid.c, Place.c, Move.c, Cert.c, Recall.c, Purity.c, Sample.c, Recipe.c, ints, ic]
end Go.Proofs.YtnjkhiafjcajaaaGreat

namespace Go.Proofs.YtnjkhiafjcajaaaGreat
set_option linter.all false
open Go.Abs

theorem h_within (n m : Int) : Ctr G.P 113 [.int n, .int m] (· = .bool (btw n 0 m)) := by
  unfold btw
  refine ctr_go good _ _ [.tmp 4] Tryz.func113 rfl rfl (by decide +kernel) rfl ?_
  simp only [go_sem, Cert.c, Recall.c, ints, ic, big, frac]
  repeat' (refine Two_dec (fun hd hp => ?_) (fun hd hp => ?_) <;> simp only [hd, go_sem, Cert.c, Recall.c, ints, ic, big, frac])
def certDays (c : Cert) : Bool := decide (0 ≤ c.fr) && decide (c.fr ≤ c.until') && decide (c.until' ≤ 100000)
def certRight (c : Cert) : Bool := certDays c && btw c.scale 0 29 && btw c.grams 0 1099511627776 && btw c.perMille 0 1000 && btw c.drift 0 10000000
theorem h_right (c : Cert) : Ctr G.P 159 [.agg c.c] (· = .bool (certRight c)) := by
  have a1 := h_within c.scale 29
  have a2 := h_within c.grams 1099511627776
  have a3 := h_within c.perMille 1000
  have a4 := h_within c.drift 10000000
  generalize hb1 : btw c.scale 0 29 = b1 at *
  generalize hb2 : btw c.grams 0 1099511627776 = b2 at *
  generalize hb3 : btw c.perMille 0 1000 = b3 at *
  generalize hb4 : btw c.drift 0 10000000 = b4 at *
  generalize hd1 : decide (0 ≤ c.fr) = d1
  generalize hd2 : decide (c.fr ≤ c.until') = d2
  generalize hd3 : decide (c.until' ≤ 100000) = d3
  have hr : certRight c = (d1 && d2 && d3 && b1 && b2 && b3 && b4) := by simp only [certRight, certDays, hb1, hb2, hb3, hb4, hd1, hd2, hd3]
  rw [hr]
  refine ctr_go good _ _ [.tmp 2] Tryz.func159 rfl rfl (by decide +kernel) rfl ?_
  unfold Cert.c
  simp only [hd1, hd2, hd3, go_sem, Cert.c, Recall.c, ints, ic, big, frac]
  repeat' (first | (refine Two_of (fun hd => ?_) (fun hd => ?_) <;> simp only [*, hd1, hd2, hd3, go_sem, Cert.c, Recall.c, ints, ic, big, frac]) | (refine CallP_eq (a1) (by first | decide | assumption) ?_; simp only [*, hd1, hd2, hd3, go_sem, Cert.c, Recall.c, ints, ic, big, frac]) | (refine CallP_eq (a2) (by first | decide | assumption) ?_; simp only [*, hd1, hd2, hd3, go_sem, Cert.c, Recall.c, ints, ic, big, frac]) | (refine CallP_eq (a3) (by first | decide | assumption) ?_; simp only [*, hd1, hd2, hd3, go_sem, Cert.c, Recall.c, ints, ic, big, frac]) | (refine CallP_eq (a4) (by first | decide | assumption) ?_; simp only [*, hd1, hd2, hd3, go_sem, Cert.c, Recall.c, ints, ic, big, frac]) | (refine CallD_eq (a1) (by decide) ?_; simp only [*, hd1, hd2, hd3, go_sem, Cert.c, Recall.c, ints, ic, big, frac]) | (refine CallD_eq (a2) (by decide) ?_; simp only [*, hd1, hd2, hd3, go_sem, Cert.c, Recall.c, ints, ic, big, frac]) | (refine CallD_eq (a3) (by decide) ?_; simp only [*, hd1, hd2, hd3, go_sem, Cert.c, Recall.c, ints, ic, big, frac]) | (refine CallD_eq (a4) (by decide) ?_; simp only [*, hd1, hd2, hd3, go_sem, Cert.c, Recall.c, ints, ic, big, frac]))
  all_goals simp_all
def coversF (c : Cert) (day : Int) : Bool := certRight c && decide (c.fr ≤ day) && decide (day ≤ c.until')
theorem h_covers (c : Cert) (day : Int) : Ctr G.P 110 [.agg c.c, .int day] (· = .bool (coversF c day)) := by
  have a1 := h_right c
  generalize hb1 : certRight c = b1 at *
  generalize hd1 : decide (c.fr ≤ day) = d1
  generalize hd2 : decide (day ≤ c.until') = d2
  have hr : coversF c day = (b1 && d1 && d2) := by simp only [coversF, hb1, hd1, hd2]
  rw [hr]
  refine ctr_go good _ _ [.tmp 4] Tryz.func110 rfl rfl (by decide +kernel) rfl ?_
  unfold Cert.c at a1 ⊢
  simp only [hd1, hd2, go_sem, Cert.c, Recall.c, ints, ic, big, frac]
  repeat' (first | (refine Two_of (fun hd => ?_) (fun hd => ?_) <;> simp only [*, hd1, hd2, go_sem, Cert.c, Recall.c, ints, ic, big, frac]) | (refine CallP_eq (a1) (by first | decide | assumption) ?_; simp only [*, hd1, hd2, go_sem, Cert.c, Recall.c, ints, ic, big, frac]) | (refine CallD_eq (a1) (by decide) ?_; simp only [*, hd1, hd2, go_sem, Cert.c, Recall.c, ints, ic, big, frac]))
  all_goals simp_all
def pickF (l : List Cert) (sc day : Int) (b : Nat × Bool) (c : Cert) : Bool :=
  decide (c.scale = sc) && coversF c day && (!b.2 || decide ((l[b.1]?.elim 0 Cert.fr) ≤ c.fr))
def findGo (l : List Cert) (sc day : Int) : Nat → Nat × Bool
  | 0 => (0, false)
  | i + 1 => if (l[i]?.elim false (pickF l sc day (findGo l sc day i))) = true then (i, true) else findGo l sc day i
theorem findGo_spec (l : List Cert) (sc day : Int) (i : Nat) : (findGo l sc day i).2 = true → (findGo l sc day i).1 < i ∧ ∃ c, l[(findGo l sc day i).1]? = some c ∧ coversF c day = true := by
  induction i with
  | zero => intro h; cases h
  | succ i ih =>
    rw [findGo]
    split
    · rename_i h
      intro _
      refine ⟨by dsimp only; omega, ?_⟩
      dsimp only
      rcases hx : l[i]? with _ | c
      · rw [hx] at h; cases h
      · rw [hx] at h
        refine ⟨c, rfl, ?_⟩
        simp only [Option.elim, pickF, Bool.and_eq_true] at h
        exact h.1.2
    · intro h
      obtain ⟨h1, h2⟩ := ih h
      exact ⟨by omega, h2⟩
theorem findGo_succ {l : List Cert} {sc day : Int} {i : Nat} {c : Cert} (h : l[i]? = some c) : findGo l sc day (i + 1) = if pickF l sc day (findGo l sc day i) c = true then (i, true) else findGo l sc day i := by
  rw [findGo, h]; rfl
def findF (l : List Cert) (sc day : Int) : Nat × Bool := findGo l sc day l.length
set_option maxRecDepth 100000 in
set_option maxHeartbeats 1000000 in
theorem h_find (l : List Cert) (sc day : Int) (hl : l.length ≤ 100000) : Ctr G.P 71 [.sl (l.map Cert.c), .int sc, .int day] (· = .tup [.int (findF l sc day).1, .bool (findF l sc day).2]) := by
  unfold findF
  refine ctr_go good _ _ [.tmp 6, .tmp 7] Tryz.func71 rfl rfl (by decide +kernel) rfl ?_
  simp only [go_sem, Cert.c, Recall.c, ints, ic, big, frac]
  refine LoopP_of [0, 1, 2, 8, 9, 12, 13, 14] [] (fun i : Nat => ⟨[(0, .im (.sl (l.map Cert.c))), (1, .im (.int sc)), (2, .im (.int day)), (8, .im (.int (findGo l sc day i).1)), (9, .im (.bool (findGo l sc day i).2)), (12, .im (.sl (l.map Cert.c))), (13, .im (.int l.length)), (14, .im (.int i))], [], []⟩)
    (fun i => i ≤ l.length) (fun i => l.length - i) 0 ?_ (Nat.zero_le _) ?_
  · simp only [findGo, Int.natCast_zero, go_sem, Cert.c, Recall.c, ints, ic, big, frac]
  · intro i hi
    by_cases hp : (i : Int) < l.length
    · have hd : decide ((i : Int) < l.length) = true := decide_eq_true hp
      obtain ⟨x, hx⟩ := at_nat hp
      have h1 := i64_ok (n := (i : Int) + 1) (by omega)
      have hc := h_covers x day
      have hsp := findGo_spec l sc day i
      rcases hbf : findGo l sc day i with ⟨b, f⟩
      rw [hbf] at hsp
      dsimp only at hsp ⊢
      simp only [Cert.c] at hc
      rcases hs : decide (x.scale = sc) with _ | _
      · simp only [hd, List.getElem?_map, hx, go_sem, Cert.c, Recall.c, ints, ic, big, frac]
        refine DrawP_of 23 (by decide +kernel) ?_
        simp only [hs, List.getElem?_map, hx, go_sem, Cert.c, Recall.c, ints, ic, big, frac]
        refine RoundP_of (i + 1) ?_ (by omega) (by omega)
        rw [findGo_succ hx, if_neg (by simp [pickF, *]), hbf]
        simp only [h1, Int.natCast_add, go_sem, Cert.c, Recall.c, ints, ic, big, frac]
      · rcases hv : coversF x day with _ | _
        · rw [hv] at hc
          simp only [hd, List.getElem?_map, hx, go_sem, Cert.c, Recall.c, ints, ic, big, frac]
          refine DrawP_of 23 (by decide +kernel) ?_
          simp only [hs, List.getElem?_map, hx, go_sem, Cert.c, Recall.c, ints, ic, big, frac]
          refine CallD_eq hc (by decide) ?_
          simp only [go_sem, Cert.c, Recall.c, ints, ic, big, frac]
          refine RoundP_of (i + 1) ?_ (by omega) (by omega)
          rw [findGo_succ hx, if_neg (by simp [pickF, *]), hbf]
          simp only [h1, Int.natCast_add, go_sem, Cert.c, Recall.c, ints, ic, big, frac]
        · rw [hv] at hc
          rcases f with _ | _
          · simp only [hd, List.getElem?_map, hx, go_sem, Cert.c, Recall.c, ints, ic, big, frac]
            refine DrawP_of 23 (by decide +kernel) ?_
            simp only [hs, List.getElem?_map, hx, go_sem, Cert.c, Recall.c, ints, ic, big, frac]
            refine CallD_eq hc (by decide) ?_
            simp only [go_sem, Cert.c, Recall.c, ints, ic, big, frac]
            refine RoundP_of (i + 1) ?_ (by omega) (by omega)
            rw [findGo_succ hx, if_pos (by simp [pickF, *])]
            simp only [h1, Int.natCast_add, go_sem, Cert.c, Recall.c, ints, ic, big, frac]
          · obtain ⟨_, y, hy, _⟩ := hsp rfl
            have hg : l[b]?.elim 0 Cert.fr = y.fr := by rw [hy]; rfl
            rcases hk : decide (y.fr ≤ x.fr) with _ | _
            · simp only [hd, List.getElem?_map, hx, go_sem, Cert.c, Recall.c, ints, ic, big, frac]
              refine DrawP_of 23 (by decide +kernel) ?_
              simp only [hs, List.getElem?_map, hx, hy, hk, go_sem, Cert.c, Recall.c, ints, ic, big, frac]
              refine CallD_eq hc (by decide) ?_
              simp only [hs, List.getElem?_map, hx, hy, hk, go_sem, Cert.c, Recall.c, ints, ic, big, frac]
              refine RoundP_of (i + 1) ?_ (by omega) (by omega)
              rw [findGo_succ hx, if_neg (by simp [pickF, *]), hbf]
              simp only [h1, Int.natCast_add, go_sem, Cert.c, Recall.c, ints, ic, big, frac]
            · simp only [hd, List.getElem?_map, hx, go_sem, Cert.c, Recall.c, ints, ic, big, frac]
              refine DrawP_of 23 (by decide +kernel) ?_
              simp only [hs, List.getElem?_map, hx, hy, hk, go_sem, Cert.c, Recall.c, ints, ic, big, frac]
              refine CallD_eq hc (by decide) ?_
              simp only [hs, List.getElem?_map, hx, hy, hk, go_sem, Cert.c, Recall.c, ints, ic, big, frac]
              refine RoundP_of (i + 1) ?_ (by omega) (by omega)
              rw [findGo_succ hx, if_pos (by simp [pickF, *])]
              simp only [h1, Int.natCast_add, go_sem, Cert.c, Recall.c, ints, ic, big, frac]
    · have hd : decide ((i : Int) < l.length) = false := decide_eq_false hp
      have : i = l.length := by omega
      subst this
      simp only [hd, go_sem, Cert.c, Recall.c, ints, ic, big, frac]
def recF (sc day : Int) (x : Recall) : Bool := decide (x.scale = sc) && decide (x.since ≤ day)
theorem h_rec1 (x : Recall) (sc day : Int) : Ctr G.P 112 [.agg x.c, .ip [.int sc] 0, .ip [.int day] 0] (· = .bool (recF sc day x)) := by
  unfold recF
  refine ctr_go good _ _ [.tmp 4] Tryz.func112 rfl rfl (by decide +kernel) rfl ?_
  unfold Recall.c
  simp only [go_sem, Cert.c, Recall.c, ints, ic, big, frac]
  repeat' (refine Two_dec (fun hd hp => ?_) (fun hd hp => ?_) <;> simp only [hd, go_sem, Cert.c, Recall.c, ints, ic, big, frac])
theorem h_irec (l : List Recall) (hl : l.length ≤ 100000) (p : Recall → Bool) (g : Nat) (caps : List IV) (hg : 3 ≤ g ∧ g < G.fns) (hc : ∀ x : Recall, Ctr G.P g (.agg x.c :: caps) (· = .bool (p x))) :
    Ctr G.P 160 [.sl (l.map Recall.c), .clo g caps] (fun r => ∃ k : Int, r = .int k ∧ decide (0 ≤ k) = l.any p) := by
  refine ctr_go good _ _ [.tmp 4] Tryz.func160 rfl rfl (by decide +kernel) rfl ?_
  simp only [go_sem, Cert.c, Recall.c, ints, ic, big, frac]
  refine LoopP_of [0, 1, 7, 8] [] (fun i : Nat => ⟨[(0, .im (.sl (l.map Recall.c))), (1, .im (.clo g caps)), (7, .im (.int l.length)), (8, .im (.int i))], [], []⟩)
    (fun i => i ≤ l.length ∧ (l.take i).any p = false) (fun i => l.length - i) 0 ?_ ⟨Nat.zero_le _, rfl⟩ ?_
  · simp only [Int.natCast_zero, go_sem, Cert.c, Recall.c, ints, ic, big, frac]
  · intro i ⟨hi, ha⟩
    by_cases hp : (i : Int) < l.length
    · have hd : decide ((i : Int) < l.length) = true := decide_eq_true hp
      obtain ⟨x, hx⟩ := at_nat hp
      have h1 := i64_ok (n := (i : Int) + 1) (by omega)
      have hcx := hc x
      simp only [Recall.c] at hcx
      simp only [hd, List.getElem?_map, hx, go_sem, Cert.c, Recall.c, ints, ic, big, frac]
      refine CallP_eq hcx hg ?_
      simp only [go_sem, Cert.c, Recall.c, ints, ic, big, frac]
      refine Two_of (fun he => ?_) (fun he => ?_)
      · simp only [he, go_sem, Cert.c, Recall.c, ints, ic, big, frac]
        exact ⟨i, rfl, by rw [any_at hx he]; simp⟩
      · simp only [he, go_sem, Cert.c, Recall.c, ints, ic, big, frac]
        refine RoundP_of (i + 1) ?_ (by omega) ⟨by omega, by rw [any_take_succ hx, ha, he]; rfl⟩
        simp only [h1, Int.natCast_add, go_sem, Cert.c, Recall.c, ints, ic, big, frac]
    · have hd : decide ((i : Int) < l.length) = false := decide_eq_false hp
      rw [List.take_of_length_le (by omega)] at ha
      simp only [hd, go_sem, Cert.c, Recall.c, ints, ic, big, frac]
      exact ⟨-1, rfl, by rw [ha]; rfl⟩
theorem h_crec (l : List Recall) (hl : l.length ≤ 100000) (p : Recall → Bool) (g : Nat) (caps : List IV) (hg : 3 ≤ g ∧ g < G.fns) (hc : ∀ x : Recall, Ctr G.P g (.agg x.c :: caps) (· = .bool (p x))) :
    Ctr G.P 111 [.sl (l.map Recall.c), .clo g caps] (· = .bool (l.any p)) := by
  have h := h_irec l hl p g caps hg hc
  refine ctr_go good _ _ [.tmp 4] Tryz.func111 rfl rfl (by decide +kernel) rfl ?_
  simp only [go_sem, Cert.c, Recall.c, ints, ic, big, frac]
  refine CallP_of h (by decide) ?_
  rintro r ⟨k, rfl, hk⟩
  rw [← hk]
  simp only [go_sem, Cert.c, Recall.c, ints, ic, big, frac]
theorem h_recalled (l : List Recall) (sc day : Int) (hl : l.length ≤ 100000) : Ctr G.P 72 [.sl (l.map Recall.c), .int sc, .int day] (· = .bool (l.any (recF sc day))) := by
  have h := h_crec l hl (recF sc day) 112 [.ip [.int sc] 0, .ip [.int day] 0] (by decide) (fun x => h_rec1 x sc day)
  refine ctr_go good _ _ [.tmp 6] Tryz.func72 rfl rfl (by decide +kernel) rfl ?_
  simp only [go_sem, Cert.c, Recall.c, ints, ic, big, frac]
  refine CallP_eq h (by decide) ?_
  simp only [go_sem, Cert.c, Recall.c, ints, ic, big, frac]
end Go.Proofs.YtnjkhiafjcajaaaGreat

namespace Go.Proofs.YtnjkhiafjcajaaaGreat
set_option linter.all false
open Go.Abs

def zf : IV := .agg [.int 0, .sl [], .int 0, .sl []]
def errF (c : Cert) (rd day : Int) : Rat := Rat.divInt (c.perMille * rd) 1000 + ((c.grams + c.drift * (day - c.fr) : Int) : Rat)
theorem FL_err {c : Cert} {rd day : Int} (h : coversF c day = true) (hr : 0 ≤ rd ∧ rd ≤ 1099511627776) :
    FL 9 (errF c rd day) ∧ FL 4 (Rat.divInt (c.perMille * rd) 1000) ∧ FL 4 ((c.grams + c.drift * (day - c.fr) : Int) : Rat) ∧ (0 ≤ c.perMille * rd ∧ c.perMille * rd ≤ 1099511627776000) ∧ (0 ≤ c.drift * (day - c.fr) ∧ c.drift * (day - c.fr) ≤ 1000000000000) ∧
    (0 ≤ c.grams ∧ c.grams ≤ 1099511627776) ∧ (0 ≤ day - c.fr ∧ day - c.fr ≤ 100000) := by
  simp only [coversF, certRight, certDays, Bool.and_eq_true, decide_eq_true_eq, btw_iff] at h
  obtain ⟨⟨⟨⟨⟨⟨⟨⟨a1, a2⟩, a3⟩, _⟩, g1, g2⟩, p1, p2⟩, d1, d2⟩, f1⟩, u1⟩ := h
  have m1 : 0 ≤ c.perMille * rd := Int.mul_nonneg p1 hr.1
  have m2 : c.perMille * rd ≤ 1000 * 1099511627776 := Int.mul_le_mul p2 hr.2 hr.1 (by omega)
  have n1 : 0 ≤ c.drift * (day - c.fr) := Int.mul_nonneg d1 (by omega)
  have n2 : c.drift * (day - c.fr) ≤ 10000000 * 100000 := Int.mul_le_mul d2 (by omega) (by omega) (by omega)
  have k1 : FL 4 (Rat.divInt (c.perMille * rd) 1000) := FL_divInt (by omega) (len_int (by omega)) (len_int (by omega))
  have k2 : FL 4 ((c.grams + c.drift * (day - c.fr) : Int) : Rat) := FL_small (by omega)
  exact ⟨FL_add k1 k2, k1, k2, by omega, by omega, by omega, by omega⟩
def errIV (c : Cert) (rd day : Int) : IV := if (coversF c day && btw rd 0 1099511627776) = true then .tup [frac (errF c rd day), .bool true] else .tup [zf, .bool false]
set_option maxRecDepth 100000 in
set_option maxHeartbeats 1000000 in
theorem h_error (c : Cert) (rd day : Int) : Ctr G.P 73 [.agg c.c, .int rd, .int day] (· = errIV c rd day) := by
  have hc := h_covers c day
  have hw := h_within rd 1099511627776
  unfold errIV
  rcases hv : coversF c day with _ | _
  · rw [hv] at hc
    rw [Bool.false_and, if_neg Bool.false_ne_true]
    unfold zf
    simp only [Cert.c] at hc ⊢
    refine ctr_go good _ _ [.cell 6 57, .tmp 7] Tryz.func73 rfl rfl (by decide +kernel) rfl ?_
    simp only [go_sem, Cert.c, Recall.c, ints, ic, big, frac]
    refine CallP_eq hc (by decide) ?_
    simp only [go_sem, Cert.c, Recall.c, ints, ic, big, frac]
  · rw [hv] at hc
    rw [Bool.true_and]
    rcases hb : btw rd 0 1099511627776 with _ | _
    · rw [hb] at hw
      rw [if_neg Bool.false_ne_true]
      unfold zf
      simp only [Cert.c] at hc ⊢
      refine ctr_go good _ _ [.cell 6 57, .tmp 7] Tryz.func73 rfl rfl (by decide +kernel) rfl ?_
      simp only [go_sem, Cert.c, Recall.c, ints, ic, big, frac]
      refine CallP_eq hc (by decide) ?_
      simp only [go_sem, Cert.c, Recall.c, ints, ic, big, frac]
      refine CallP_eq hw (by decide) ?_
      simp only [go_sem, Cert.c, Recall.c, ints, ic, big, frac]
    · rw [hb] at hw
      rw [if_pos rfl]
      obtain ⟨k0, k1, k2, m1, m2, m3, m4⟩ := FL_err hv (btw_iff.1 hb)
      have ho := t_poff (c.perMille * rd) 1000 (by omega) (by omega) (by omega)
      have hi := t_pintf (c.grams + c.drift * (day - c.fr)) (by omega)
      have hs := f_add (k1.mono (by omega : 4 ≤ 19000)) (k2.mono (by omega : 4 ≤ 19000))
      have w1 := i64_ok (n := c.perMille * rd) (by omega)
      have w2 := i64_ok (n := day - c.fr) (by omega)
      have w3 := i64_ok (n := c.drift * (day - c.fr)) (by omega)
      have w4 := i64_ok (n := c.grams + c.drift * (day - c.fr)) (by omega)
      unfold errF
      generalize Rat.divInt (c.perMille * rd) 1000 = r1 at *
      generalize ((c.grams + c.drift * (day - c.fr) : Int) : Rat) = r2 at *
      generalize r1 + r2 = r3 at *
      simp only [Cert.c, big, frac, ints] at hc ho hi hs ⊢
      refine ctr_go good _ _ [.cell 6 57, .tmp 7] Tryz.func73 rfl rfl (by decide +kernel) rfl ?_
      simp only [go_sem, Cert.c, Recall.c, ints, ic, big, frac]
      refine CallP_eq hc (by decide) ?_
      simp only [go_sem, Cert.c, Recall.c, ints, ic, big, frac]
      refine CallP_eq hw (by decide) ?_
      simp only [w1, go_sem, Cert.c, Recall.c, ints, ic, big, frac]
      refine CallP_eq ho (by decide) ?_
      simp only [go_sem, Cert.c, Recall.c, ints, ic, big, frac]
      refine DrawS_of (by decide +kernel) ?_
      simp only [w2, w3, w4, go_sem, Cert.c, Recall.c, ints, ic, big, frac]
      refine CallD_eq hi (by decide) ?_
      simp only [go_sem, Cert.c, Recall.c, ints, ic, big, frac]
      refine CallD_eq hs (by decide) ?_
      simp only [go_sem, Cert.c, Recall.c, ints, ic, big, frac]
/-- The interval of a reading, if there is one. -/
def ivlF (cs : List Cert) (rs : List Recall) (sc rd day : Int) : Option (Rat × Rat) :=
  if (findF cs sc day).2 = false then none
  else if rs.any (recF sc day) = true then none
  else match cs[(findF cs sc day).1]? with
    | none => none
    | some c => if (coversF c day && btw rd 0 1099511627776) = true then
        some (if (rd : Rat) - errF c rd day < ((0 : Int) : Rat) then ((0 : Int) : Rat) else (rd : Rat) - errF c rd day, (rd : Rat) + errF c rd day) else none
def ivlIV (r : Option (Rat × Rat)) : IV := match r with
  | none => .tup [zf, zf, .bool false]
  | some (a, b) => .tup [frac a, frac b, .bool true]
theorem FL_ivl {cs : List Cert} {rs : List Recall} {sc rd day : Int} {a b : Rat} (h : ivlF cs rs sc rd day = some (a, b)) : FL 14 a ∧ FL 14 b := by
  unfold ivlF at h
  split at h
  · cases h
  split at h
  · cases h
  split at h
  · cases h
  rename_i c _
  split at h
  · rename_i hv
    rw [Bool.and_eq_true] at hv
    have hb := btw_iff.1 hv.2
    obtain ⟨k0, _⟩ := FL_err hv.1 hb
    have k4 : FL 4 (rd : Rat) := FL_small (by omega)
    injection h with h
    injection h with h1 h2
    subst h1 h2
    refine ⟨?_, (FL_add k4 k0).mono (by omega)⟩
    split
    · exact (FL_small (by omega)).mono (by omega)
    · exact (FL_sub k4 k0).mono (by omega)
  · cases h
set_option maxRecDepth 100000 in
set_option maxHeartbeats 2000000 in
theorem h_ivl (cs : List Cert) (rs : List Recall) (sc rd day : Int) (l1 : cs.length ≤ 100000) (l2 : rs.length ≤ 100000) :
    Ctr G.P 20 [.sl (cs.map Cert.c), .sl (rs.map Recall.c), .int sc, .int rd, .int day] (· = ivlIV (ivlF cs rs sc rd day)) := by
  have hf := h_find cs sc day l1
  have hr := h_recalled rs sc day l2
  have hsp := findGo_spec cs sc day cs.length
  unfold ivlF
  rw [show findGo cs sc day cs.length = findF cs sc day from rfl] at hsp
  generalize findF cs sc day = bf at *
  obtain ⟨b, f⟩ := bf
  dsimp only at hf hsp ⊢
  rcases f with _ | _
  · rw [if_pos rfl]
    unfold ivlIV zf
    refine ctr_go good _ _ [.cell 10 57, .cell 11 57, .tmp 12] Tryz.func20 rfl rfl (by decide +kernel) rfl ?_
    simp only [go_sem, Cert.c, Recall.c, ints, ic, big, frac]
    refine CallP_eq hf (by decide) ?_
    simp only [go_sem, Cert.c, Recall.c, ints, ic, big, frac]
  rw [if_neg (by decide)]
  rcases ha : rs.any (recF sc day) with _ | _
  · rw [ha] at hr
    rw [if_neg (by decide)]
    obtain ⟨_, c, hx, _⟩ := hsp rfl
    rw [hx]
    dsimp only
    have he := h_error c rd day
    unfold errIV at he
    rcases hv : (coversF c day && btw rd 0 1099511627776) with _ | _
    · rw [hv, if_neg Bool.false_ne_true] at he
      rw [if_neg Bool.false_ne_true]
      unfold ivlIV
      unfold zf at he ⊢
      simp only [Cert.c] at he
      refine ctr_go good _ _ [.cell 10 57, .cell 11 57, .tmp 12] Tryz.func20 rfl rfl (by decide +kernel) rfl ?_
      simp only [go_sem, Cert.c, Recall.c, ints, ic, big, frac]
      refine CallP_eq hf (by decide) ?_
      simp only [go_sem, Cert.c, Recall.c, ints, ic, big, frac]
      refine CallP_eq hr (by decide) ?_
      simp only [List.getElem?_map, hx, go_sem, Cert.c, Recall.c, ints, ic, big, frac]
      refine CallP_eq he (by decide) ?_
      simp only [go_sem, Cert.c, Recall.c, ints, ic, big, frac]
    · rw [hv, if_pos rfl] at he
      rw [if_pos rfl]
      unfold ivlIV
      rw [Bool.and_eq_true] at hv
      have hb := btw_iff.1 hv.2
      obtain ⟨k0, _⟩ := FL_err hv.1 hb
      have k4 : FL 4 (rd : Rat) := FL_small (by omega)
      have o1 := t_pintf rd (by omega)
      have o2 := t_pintf 0 (by omega)
      have z4 : FL 4 ((0 : Int) : Rat) := FL_small (by omega)
      generalize errF c rd day = e at *
      have s1 := f_sub (k4.mono (by omega : 4 ≤ 19000)) (k0.mono (by omega : 9 ≤ 19000))
      have s2 := f_add (k4.mono (by omega : 4 ≤ 19000)) (k0.mono (by omega : 9 ≤ 19000))
      have s3 := f_max ((FL_sub k4 k0).mono (by omega : 14 ≤ 19000)) (z4.mono (by omega : 4 ≤ 19000))
      generalize hzz : ((0 : Int) : Rat) = zz at *
      generalize (rd : Rat) = rr at *
      generalize rr - e = lo at *
      generalize rr + e = hi at *
      dsimp only
      generalize (if lo < zz then zz else lo) = mx at *
      simp only [Cert.c, big, frac, ints] at he o1 o2 s1 s2 s3 ⊢
      refine ctr_go good _ _ [.cell 10 57, .cell 11 57, .tmp 12] Tryz.func20 rfl rfl (by decide +kernel) rfl ?_
      simp only [go_sem, Cert.c, Recall.c, ints, ic, big, frac]
      refine CallP_eq hf (by decide) ?_
      simp only [go_sem, Cert.c, Recall.c, ints, ic, big, frac]
      refine CallP_eq hr (by decide) ?_
      simp only [List.getElem?_map, hx, go_sem, Cert.c, Recall.c, ints, ic, big, frac]
      refine CallP_eq he (by decide) ?_
      simp only [go_sem, Cert.c, Recall.c, ints, ic, big, frac]
      refine CallP_eq o1 (by decide) ?_
      simp only [go_sem, Cert.c, Recall.c, ints, ic, big, frac]
      refine CallP_eq s1 (by decide) ?_
      simp only [go_sem, Cert.c, Recall.c, ints, ic, big, frac]
      refine CallP_eq s2 (by decide) ?_
      simp only [go_sem, Cert.c, Recall.c, ints, ic, big, frac]
      refine DrawS_of (by decide +kernel) ?_
      simp only [go_sem, Cert.c, Recall.c, ints, ic, big, frac]
      refine CallD_eq o2 (by decide) ?_
      simp only [go_sem, Cert.c, Recall.c, ints, ic, big, frac]
      refine CallD_eq s3 (by decide) ?_
      simp only [go_sem, Cert.c, Recall.c, ints, ic, big, frac]
      refine DrawE_of ?_
      refine AnyP_two 0 1 (by decide +kernel) rfl rfl ?_ ?_
      · simp only [go_sem, Cert.c, Recall.c, ints, ic, big, frac]
        refine AnyP_two 1 2 (by decide +kernel) rfl rfl ?_ ?_
        · simp only [go_sem, Cert.c, Recall.c, ints, ic, big, frac]
          refine AnyP_one 2 (by decide +kernel) rfl ?_
          simp only [go_sem, Cert.c, Recall.c, ints, ic, big, frac]
          refine AnyP_one 3 (by decide +kernel) rfl ?_
          simp only [go_sem, Cert.c, Recall.c, ints, ic, big, frac]
          refine AnyP_one 4 (by decide +kernel) rfl ?_
          simp only [go_sem, Cert.c, Recall.c, ints, ic, big, frac]
          refine AnyP_nil (by decide +kernel) ?_
          simp only [go_sem, Cert.c, Recall.c, ints, ic, big, frac]
        · simp only [go_sem, Cert.c, Recall.c, ints, ic, big, frac]
          refine AnyP_one 1 (by decide +kernel) rfl ?_
          simp only [go_sem, Cert.c, Recall.c, ints, ic, big, frac]
          refine AnyP_one 3 (by decide +kernel) rfl ?_
          simp only [go_sem, Cert.c, Recall.c, ints, ic, big, frac]
          refine AnyP_one 4 (by decide +kernel) rfl ?_
          simp only [go_sem, Cert.c, Recall.c, ints, ic, big, frac]
          refine AnyP_nil (by decide +kernel) ?_
          simp only [go_sem, Cert.c, Recall.c, ints, ic, big, frac]
      · simp only [go_sem, Cert.c, Recall.c, ints, ic, big, frac]
        refine AnyP_one 0 (by decide +kernel) rfl ?_
        simp only [go_sem, Cert.c, Recall.c, ints, ic, big, frac]
        refine AnyP_one 2 (by decide +kernel) rfl ?_
        simp only [go_sem, Cert.c, Recall.c, ints, ic, big, frac]
        refine AnyP_one 3 (by decide +kernel) rfl ?_
        simp only [go_sem, Cert.c, Recall.c, ints, ic, big, frac]
        refine AnyP_one 4 (by decide +kernel) rfl ?_
        simp only [go_sem, Cert.c, Recall.c, ints, ic, big, frac]
        refine AnyP_nil (by decide +kernel) ?_
        simp only [go_sem, Cert.c, Recall.c, ints, ic, big, frac]
  · rw [ha] at hr
    rw [if_pos rfl]
    unfold ivlIV zf
    refine ctr_go good _ _ [.cell 10 57, .cell 11 57, .tmp 12] Tryz.func20 rfl rfl (by decide +kernel) rfl ?_
    simp only [go_sem, Cert.c, Recall.c, ints, ic, big, frac]
    refine CallP_eq hf (by decide) ?_
    simp only [go_sem, Cert.c, Recall.c, ints, ic, big, frac]
    refine CallP_eq hr (by decide) ?_
    simp only [go_sem, Cert.c, Recall.c, ints, ic, big, frac]
end Go.Proofs.YtnjkhiafjcajaaaGreat

namespace Go.Proofs.YtnjkhiafjcajaaaGreat
set_option linter.all false
open Go.Abs

def fc (r : Rat) : List IV := [.int r.num.sign, .sl ((dig r.num.natAbs).map ic), .int (r.den : Int).sign, .sl ((dig (r.den : Int).natAbs).map ic)]
def fcs (l : List Rat) : IV := .sl (l.map fc)
def negF (r : Rat) : Bool := decide (r.num.sign < 0)
set_option maxRecDepth 100000 in
theorem h_negative (l : List Rat) (hl : l.length ≤ 100000) (hf : ∀ r ∈ l, FL 19000 r) : Ctr G.P 57 [fcs l] (· = .bool (l.any negF)) := by
  unfold fcs
  refine ctr_go good _ _ [.tmp 2] Tryz.func57 rfl rfl (by decide +kernel) rfl ?_
  simp only [go_sem, Evid.iv, Evid.c, Move.c, Cert.c, Recall.c, Purity.c, ints, ic, big, frac, fc]
  refine LoopP_of [5, 6, 7] [] (fun i : Nat => ⟨[(5, .im (.sl (l.map fc))), (6, .im (.int l.length)), (7, .im (.int i))], [], []⟩)
    (fun i => i ≤ l.length ∧ (l.take i).any negF = false) (fun i => l.length - i) 0 ?_ ⟨Nat.zero_le _, rfl⟩ ?_
  · simp only [Int.natCast_zero, go_sem, Evid.iv, Evid.c, Move.c, Cert.c, Recall.c, Purity.c, ints, ic, big, frac, fc]
  · intro i ⟨hi, ha⟩
    by_cases hp : (i : Int) < l.length
    · have hd : decide ((i : Int) < l.length) = true := decide_eq_true hp
      obtain ⟨x, hx⟩ := at_nat hp
      have h1 := i64_ok (n := (i : Int) + 1) (by omega)
      have hs := f_sign (hf x (List.mem_of_getElem? hx))
      have hat := any_take_succ (f := negF) hx
      simp only [frac, ints] at hs
      rcases hn : negF x with _ | _
      · have hn' : decide (x.num.sign < 0) = false := hn
        simp only [hd, List.getElem?_map, hx, go_sem, Evid.iv, Evid.c, Move.c, Cert.c, Recall.c, Purity.c, ints, ic, big, frac, fc]
        refine CallP_eq hs (by decide) ?_
        simp only [hn', go_sem, Evid.iv, Evid.c, Move.c, Cert.c, Recall.c, Purity.c, ints, ic, big, frac, fc]
        refine RoundP_of (i + 1) ?_ (by omega) ⟨by omega, by rw [hat, ha, hn]; rfl⟩
        simp only [h1, Int.natCast_add, go_sem, Evid.iv, Evid.c, Move.c, Cert.c, Recall.c, Purity.c, ints, ic, big, frac, fc]
      · have hn' : decide (x.num.sign < 0) = true := hn
        rw [any_at hx hn]
        simp only [hd, List.getElem?_map, hx, go_sem, Evid.iv, Evid.c, Move.c, Cert.c, Recall.c, Purity.c, ints, ic, big, frac, fc]
        refine CallP_eq hs (by decide) ?_
        simp only [hn', go_sem, Evid.iv, Evid.c, Move.c, Cert.c, Recall.c, Purity.c, ints, ic, big, frac, fc]
    · have hd : decide ((i : Int) < l.length) = false := decide_eq_false hp
      rw [List.take_of_length_le (by omega)] at ha
      rw [ha]
      simp only [hd, go_sem, Evid.iv, Evid.c, Move.c, Cert.c, Recall.c, Purity.c, ints, ic, big, frac, fc]
def sumF (l : List Rat) : Rat := l.foldl (· + ·) ((0 : Int) : Rat)
theorem sumF_take {l : List Rat} {i : Nat} {x : Rat} (h : l[i]? = some x) : sumF (l.take (i + 1)) = sumF (l.take i) + x := by
  rw [take_succ h, sumF, List.foldl_append]; rfl
theorem FL_fold {k : Nat} : ∀ (l : List Rat) (a : Rat) (m : Nat), (∀ r ∈ l, FL k r) → FL m a → FL (m + l.length * (k + 1)) (l.foldl (· + ·) a)
  | [], a, m, _, ha => ha.mono (by omega)
  | x :: r, a, m, h, ha => by
    have := FL_fold r (a + x) (m + k + 1) (fun y hy => h y (by simp [hy])) (FL_add ha (h x (by simp)))
    refine this.mono ?_
    rw [List.length_cons, Nat.add_mul]
    omega
theorem FL_sumF {k : Nat} {l : List Rat} (h : ∀ r ∈ l, FL k r) : FL (4 + l.length * (k + 1)) (sumF l) := FL_fold l _ 4 h (FL_small (by omega))
set_option maxRecDepth 100000 in
theorem h_sum (l : List Rat) (hl : l.length ≤ 100) (hf : ∀ r ∈ l, FL 100 r) : Ctr G.P 59 [fcs l] (· = frac (sumF l)) := by
  have o1 := t_pintf 0 (by omega)
  have hz : ((0 : Int) : Rat) = sumF (l.take 0) := by rw [List.take_zero]; rfl
  rw [hz] at o1
  unfold fcs
  simp only [frac, ints] at o1 ⊢
  refine ctr_go good _ _ [.cell 2 57] Tryz.func59 rfl rfl (by decide +kernel) rfl ?_
  simp only [go_sem, Evid.iv, Evid.c, Move.c, Cert.c, Recall.c, Purity.c, ints, ic, big, frac, fc]
  refine CallP_eq o1 (by decide) ?_
  simp only [go_sem, Evid.iv, Evid.c, Move.c, Cert.c, Recall.c, Purity.c, ints, ic, big, frac, fc]
  refine LoopP_of [2, 3, 7, 8, 9] [2, 3] (fun i : Nat => ⟨[(2, .loc 2 4 0 0), (3, .loc 3 4 0 0), (7, .im (.sl (l.map fc))), (8, .im (.int l.length)), (9, .im (.int i))], [(3, 4, [fc (sumF (l.take i))]), (2, 4, [[.int 0, .sl [], .int 0, .sl []]])], []⟩)
    (fun i => i ≤ l.length) (fun i => l.length - i) 0 ?_ (Nat.zero_le _) ?_
  · simp only [Int.natCast_zero, go_sem, Evid.iv, Evid.c, Move.c, Cert.c, Recall.c, Purity.c, ints, ic, big, frac, fc]
  · intro i hi
    by_cases hp : (i : Int) < l.length
    · have hd : decide ((i : Int) < l.length) = true := decide_eq_true hp
      obtain ⟨x, hx⟩ := at_nat hp
      have h1 := i64_ok (n := (i : Int) + 1) (by omega)
      have hk : FL 19000 (sumF (l.take i)) := by
        refine (FL_sumF (k := 100) fun r hr => hf r (List.mem_of_mem_take hr)).mono ?_
        rw [List.length_take]
        have : min i l.length * 101 ≤ 100 * 101 := Nat.mul_le_mul (by omega) (Nat.le_refl _)
        omega
      have hs := f_add hk ((hf x (List.mem_of_getElem? hx)).mono (by omega : 100 ≤ 19000))
      rw [← sumF_take hx] at hs
      simp only [frac, ints] at hs
      simp only [hd, List.getElem?_map, hx, go_sem, Evid.iv, Evid.c, Move.c, Cert.c, Recall.c, Purity.c, ints, ic, big, frac, fc]
      refine CallP_eq hs (by decide) ?_
      simp only [go_sem, Evid.iv, Evid.c, Move.c, Cert.c, Recall.c, Purity.c, ints, ic, big, frac, fc]
      refine RoundP_of (i + 1) ?_ (by omega) (by omega)
      simp only [h1, Int.natCast_add, go_sem, Evid.iv, Evid.c, Move.c, Cert.c, Recall.c, Purity.c, ints, ic, big, frac, fc]
    · have hd : decide ((i : Int) < l.length) = false := decide_eq_false hp
      rw [List.take_of_length_le (by omega)]
      simp only [hd, go_sem, Evid.iv, Evid.c, Move.c, Cert.c, Recall.c, Purity.c, ints, ic, big, frac, fc]
end Go.Proofs.YtnjkhiafjcajaaaGreat

namespace Go.Proofs.YtnjkhiafjcajaaaGreat
set_option linter.all false
open Go.Abs

def weighedF (e : Evid) (x : Move) (mass : Rat) : Bool := decide (x.scale = -1) || match ivlF e.certs e.recalls x.scale x.reading x.day with
  | none => true
  | some (lo, hi) => decide (cmpR lo mass ≤ 0) && decide (cmpR mass hi ≤ 0)
set_option maxRecDepth 100000 in
set_option maxHeartbeats 1000000 in
theorem h_weighed (e : Evid) (x : Move) (mass : Rat) (hm : FL 19000 mass) (l1 : e.certs.length ≤ 100000) (l2 : e.recalls.length ≤ 100000) :
    Ctr G.P 60 [e.iv, .agg x.c, frac mass] (· = .bool (weighedF e x mass)) := by
  rcases hs : decide (x.scale = -1) with _ | _
  · have hi := h_ivl e.certs e.recalls x.scale x.reading x.day l1 l2
    rcases hv : ivlF e.certs e.recalls x.scale x.reading x.day with _ | ⟨lo, hi'⟩
    · rw [hv] at hi
      have hr : weighedF e x mass = true := by simp [weighedF, hv]
      rw [hr]
      simp only [ivlIV, zf] at hi
      refine ctr_go good _ _ [.tmp 6] Tryz.func60 rfl rfl (by decide +kernel) rfl ?_
      unfold Evid.iv Evid.c Move.c
      simp only [hs, go_sem, Evid.iv, Evid.c, Move.c, Cert.c, Recall.c, Purity.c, ints, ic, big, frac, fc]
      refine CallP_eq hi (by decide) ?_
      simp only [go_sem, Evid.iv, Evid.c, Move.c, Cert.c, Recall.c, Purity.c, ints, ic, big, frac, fc]
    · rw [hv] at hi
      obtain ⟨k1, k2⟩ := FL_ivl hv
      have c1 := f_cmp (k1.mono (by omega : 14 ≤ 19000)) hm
      have c2 := f_cmp hm (k2.mono (by omega : 14 ≤ 19000))
      have hr : weighedF e x mass = (decide (cmpR lo mass ≤ 0) && decide (cmpR mass hi' ≤ 0)) := by simp only [weighedF, hv, hs, Bool.false_or]
      rw [hr]
      generalize cmpR lo mass = m1 at *
      generalize cmpR mass hi' = m2 at *
      simp only [ivlIV, frac, ints] at hi c1 c2 ⊢
      rcases d1 : decide (m1 ≤ 0) with _ | _
      · refine ctr_go good _ _ [.tmp 6] Tryz.func60 rfl rfl (by decide +kernel) rfl ?_
        unfold Evid.iv Evid.c Move.c
        simp only [hs, go_sem, Evid.iv, Evid.c, Move.c, Cert.c, Recall.c, Purity.c, ints, ic, big, frac, fc]
        refine CallP_eq hi (by decide) ?_
        simp only [go_sem, Evid.iv, Evid.c, Move.c, Cert.c, Recall.c, Purity.c, ints, ic, big, frac, fc]
        refine CallP_eq c1 (by decide) ?_
        simp only [d1, go_sem, Evid.iv, Evid.c, Move.c, Cert.c, Recall.c, Purity.c, ints, ic, big, frac, fc]
      · refine ctr_go good _ _ [.tmp 6] Tryz.func60 rfl rfl (by decide +kernel) rfl ?_
        unfold Evid.iv Evid.c Move.c
        simp only [hs, go_sem, Evid.iv, Evid.c, Move.c, Cert.c, Recall.c, Purity.c, ints, ic, big, frac, fc]
        refine CallP_eq hi (by decide) ?_
        simp only [go_sem, Evid.iv, Evid.c, Move.c, Cert.c, Recall.c, Purity.c, ints, ic, big, frac, fc]
        refine CallP_eq c1 (by decide) ?_
        simp only [d1, go_sem, Evid.iv, Evid.c, Move.c, Cert.c, Recall.c, Purity.c, ints, ic, big, frac, fc]
        refine CallP_eq c2 (by decide) ?_
        simp only [d1, go_sem, Evid.iv, Evid.c, Move.c, Cert.c, Recall.c, Purity.c, ints, ic, big, frac, fc]
  · have hr : weighedF e x mass = true := by simp only [weighedF, hs, Bool.true_or]
    rw [hr]
    refine ctr_go good _ _ [.tmp 6] Tryz.func60 rfl rfl (by decide +kernel) rfl ?_
    unfold Evid.iv Evid.c Move.c
    simp only [hs, go_sem, Evid.iv, Evid.c, Move.c, Cert.c, Recall.c, Purity.c, ints, ic, big, frac, fc]
/-- Whether a list of masses keeps a purity, if the material is there. -/
def keepF (l : List Rat) (mass : Rat) (p : Purity) : Bool := match l[p.mat.toNat]? with
  | none => true
  | some f => !(decide (cmpR (((1000 : Int) : Rat) * f) ((p.least : Rat) * mass) < 0) || decide (0 < cmpR (((1000 : Int) : Rat) * f) ((p.most : Rat) * mass)))
def pureP (move : Int) (l : List Rat) (mass : Rat) (p : Purity) : Bool := !decide (p.move = move) || keepF l mass p
def pureF (e : Evid) (move : Int) (l : List Rat) (mass : Rat) : Bool := e.purs.all (pureP move l mass)
set_option maxRecDepth 100000 in
set_option maxHeartbeats 2000000 in
theorem h_pure (e : Evid) (move : Int) (l : List Rat) (mass : Rat) (hl : e.purs.length ≤ 100000) (hm : FL 9000 mass) (hf : ∀ r ∈ l, FL 9000 r)
    (hp : ∀ p ∈ e.purs, (0 ≤ p.mat ∧ p.mat < l.length) ∧ (-9223372036854775808 ≤ p.least ∧ p.least ≤ 9223372036854775807) ∧ (-9223372036854775808 ≤ p.most ∧ p.most ≤ 9223372036854775807)) :
    Ctr G.P 61 [e.iv, .int move, fcs l, frac mass] (· = .bool (pureF e move l mass)) := by
  unfold fcs pureF
  have hmc : frac mass = .agg (fc mass) := rfl
  rw [hmc]
  refine ctr_go good _ _ [.tmp 8] Tryz.func61 rfl rfl (by decide +kernel) rfl ?_
  unfold Evid.iv Evid.c
  simp only [go_sem, Evid.iv, Evid.c, Move.c, Cert.c, Recall.c, Purity.c, ints, ic, big, frac, fc]
  refine LoopP_of [1, 2, 4, 7, 18, 19, 20] [4, 7] (fun i : Nat => ⟨[(1, .im (.int move)), (2, .im (.sl (l.map fc))), (4, .loc 4 8 0 0), (7, .loc 7 4 0 0), (18, .im (.sl (e.purs.map Purity.c))), (19, .im (.int e.purs.length)), (20, .im (.int i))], [(7, 4, [fc mass]), (4, 8, [e.c])], []⟩)
    (fun i => i ≤ e.purs.length ∧ (e.purs.take i).all (pureP move l mass) = true) (fun i => e.purs.length - i) 0 ?_ ⟨Nat.zero_le _, rfl⟩ ?_
  · simp only [Int.natCast_zero, go_sem, Evid.iv, Evid.c, Move.c, Cert.c, Recall.c, Purity.c, ints, ic, big, frac, fc]
  · intro i ⟨hi, ha⟩
    by_cases hpl : (i : Int) < e.purs.length
    · have hd : decide ((i : Int) < e.purs.length) = true := decide_eq_true hpl
      obtain ⟨x, hx⟩ := at_nat hpl
      have h1 := i64_ok (n := (i : Int) + 1) (by omega)
      have hat := all_take_succ (f := pureP move l mass) hx
      rcases dm : decide (x.move = move) with _ | _
      · have hpp : pureP move l mass x = true := by simp only [pureP, dm, Bool.not_false, Bool.true_or]
        simp only [hd, List.getElem?_map, hx, dm, go_sem, Evid.iv, Evid.c, Move.c, Cert.c, Recall.c, Purity.c, ints, ic, big, frac, fc]
        refine RoundP_of (i + 1) ?_ (by omega) ⟨by omega, by rw [hat, ha, hpp]; rfl⟩
        simp only [h1, Int.natCast_add, go_sem, Evid.iv, Evid.c, Move.c, Cert.c, Recall.c, Purity.c, ints, ic, big, frac, fc]
      · obtain ⟨⟨hm1, hm2⟩, hb1, hb2⟩ := hp x (List.mem_of_getElem? hx)
        obtain ⟨f, hf'⟩ : ∃ f, l[x.mat.toNat]? = some f := ⟨_, List.getElem?_eq_getElem (by omega)⟩
        have kf := hf f (List.mem_of_getElem? hf')
        have k0 : FL 4 ((1000 : Int) : Rat) := FL_small (by omega)
        have k1 : FL 4 (x.least : Rat) := FL_small hb1
        have k2 : FL 4 (x.most : Rat) := FL_small hb2
        have i1 := t_pintf 1000 (by omega)
        have i2 := t_pintf x.least hb1
        have i3 := t_pintf x.most hb2
        have m1 := f_mul (k0.mono (by omega : 4 ≤ 19000)) (kf.mono (by omega : 9000 ≤ 19000))
        have m2 := f_mul (k1.mono (by omega : 4 ≤ 19000)) (hm.mono (by omega : 9000 ≤ 19000))
        have m3 := f_mul (k2.mono (by omega : 4 ≤ 19000)) (hm.mono (by omega : 9000 ≤ 19000))
        have c1 := f_cmp ((FL_mul k0 kf).mono (by omega : 9004 ≤ 19000)) ((FL_mul k1 hm).mono (by omega : 9004 ≤ 19000))
        have c2 := f_cmp ((FL_mul k0 kf).mono (by omega : 9004 ≤ 19000)) ((FL_mul k2 hm).mono (by omega : 9004 ≤ 19000))
        have hpp : pureP move l mass x = !(decide (cmpR (((1000 : Int) : Rat) * f) ((x.least : Rat) * mass) < 0) || decide (0 < cmpR (((1000 : Int) : Rat) * f) ((x.most : Rat) * mass))) := by
          simp only [pureP, dm, keepF, hf', Bool.not_true, Bool.false_or]
        have hf := hf'
        generalize ((1000 : Int) : Rat) = q0 at *
        generalize (x.least : Rat) = q1 at *
        generalize (x.most : Rat) = q2 at *
        generalize q0 * f = p0 at *
        generalize q1 * mass = p1 at *
        generalize q2 * mass = p2 at *
        generalize cmpR p0 p1 = s1 at *
        generalize cmpR p0 p2 = s2 at *
        simp only [frac, ints] at i1 i2 i3 m1 m2 m3 c1 c2
        rcases d1 : decide (s1 < 0) with _ | _
        · rcases d2 : decide (0 < s2) with _ | _
          · rw [d1, d2] at hpp
            simp only [hd, List.getElem?_map, hx, dm, go_sem, Evid.iv, Evid.c, Move.c, Cert.c, Recall.c, Purity.c, ints, ic, big, frac, fc]
            refine DrawS_of (by decide +kernel) ?_
            simp only [go_sem, Evid.iv, Evid.c, Move.c, Cert.c, Recall.c, Purity.c, ints, ic, big, frac, fc]
            refine CallD_eq i1 (by decide) ?_
            simp only [hm1, hm2, hf, List.getElem?_map, go_sem, Evid.iv, Evid.c, Move.c, Cert.c, Recall.c, Purity.c, ints, ic, big, frac, fc]
            refine CallD_eq m1 (by decide) ?_
            simp only [go_sem, Evid.iv, Evid.c, Move.c, Cert.c, Recall.c, Purity.c, ints, ic, big, frac, fc]
            refine DrawS_of (by decide +kernel) ?_
            simp only [go_sem, Evid.iv, Evid.c, Move.c, Cert.c, Recall.c, Purity.c, ints, ic, big, frac, fc]
            refine CallD_eq i2 (by decide) ?_
            simp only [go_sem, Evid.iv, Evid.c, Move.c, Cert.c, Recall.c, Purity.c, ints, ic, big, frac, fc]
            refine CallD_eq m2 (by decide) ?_
            simp only [go_sem, Evid.iv, Evid.c, Move.c, Cert.c, Recall.c, Purity.c, ints, ic, big, frac, fc]
            refine DrawS_of (by decide +kernel) ?_
            simp only [go_sem, Evid.iv, Evid.c, Move.c, Cert.c, Recall.c, Purity.c, ints, ic, big, frac, fc]
            refine CallD_eq i3 (by decide) ?_
            simp only [go_sem, Evid.iv, Evid.c, Move.c, Cert.c, Recall.c, Purity.c, ints, ic, big, frac, fc]
            refine CallD_eq m3 (by decide) ?_
            simp only [go_sem, Evid.iv, Evid.c, Move.c, Cert.c, Recall.c, Purity.c, ints, ic, big, frac, fc]
            refine CallP_eq c1 (by decide) ?_
            simp only [d1, go_sem, Evid.iv, Evid.c, Move.c, Cert.c, Recall.c, Purity.c, ints, ic, big, frac, fc]
            refine CallP_eq c2 (by decide) ?_
            simp only [d2, go_sem, Evid.iv, Evid.c, Move.c, Cert.c, Recall.c, Purity.c, ints, ic, big, frac, fc]
            refine RoundP_of (i + 1) ?_ (by omega) ⟨by omega, by rw [hat, ha, hpp]; rfl⟩
            simp only [h1, Int.natCast_add, go_sem, Evid.iv, Evid.c, Move.c, Cert.c, Recall.c, Purity.c, ints, ic, big, frac, fc]
          · rw [d1, d2] at hpp
            rw [all_not hx hpp]
            simp only [hd, List.getElem?_map, hx, dm, go_sem, Evid.iv, Evid.c, Move.c, Cert.c, Recall.c, Purity.c, ints, ic, big, frac, fc]
            refine DrawS_of (by decide +kernel) ?_
            simp only [go_sem, Evid.iv, Evid.c, Move.c, Cert.c, Recall.c, Purity.c, ints, ic, big, frac, fc]
            refine CallD_eq i1 (by decide) ?_
            simp only [hm1, hm2, hf, List.getElem?_map, go_sem, Evid.iv, Evid.c, Move.c, Cert.c, Recall.c, Purity.c, ints, ic, big, frac, fc]
            refine CallD_eq m1 (by decide) ?_
            simp only [go_sem, Evid.iv, Evid.c, Move.c, Cert.c, Recall.c, Purity.c, ints, ic, big, frac, fc]
            refine DrawS_of (by decide +kernel) ?_
            simp only [go_sem, Evid.iv, Evid.c, Move.c, Cert.c, Recall.c, Purity.c, ints, ic, big, frac, fc]
            refine CallD_eq i2 (by decide) ?_
            simp only [go_sem, Evid.iv, Evid.c, Move.c, Cert.c, Recall.c, Purity.c, ints, ic, big, frac, fc]
            refine CallD_eq m2 (by decide) ?_
            simp only [go_sem, Evid.iv, Evid.c, Move.c, Cert.c, Recall.c, Purity.c, ints, ic, big, frac, fc]
            refine DrawS_of (by decide +kernel) ?_
            simp only [go_sem, Evid.iv, Evid.c, Move.c, Cert.c, Recall.c, Purity.c, ints, ic, big, frac, fc]
            refine CallD_eq i3 (by decide) ?_
            simp only [go_sem, Evid.iv, Evid.c, Move.c, Cert.c, Recall.c, Purity.c, ints, ic, big, frac, fc]
            refine CallD_eq m3 (by decide) ?_
            simp only [go_sem, Evid.iv, Evid.c, Move.c, Cert.c, Recall.c, Purity.c, ints, ic, big, frac, fc]
            refine CallP_eq c1 (by decide) ?_
            simp only [d1, go_sem, Evid.iv, Evid.c, Move.c, Cert.c, Recall.c, Purity.c, ints, ic, big, frac, fc]
            refine CallP_eq c2 (by decide) ?_
            simp only [d2, go_sem, Evid.iv, Evid.c, Move.c, Cert.c, Recall.c, Purity.c, ints, ic, big, frac, fc]
        · rw [d1, Bool.true_or] at hpp
          rw [all_not hx hpp]
          simp only [hd, List.getElem?_map, hx, dm, go_sem, Evid.iv, Evid.c, Move.c, Cert.c, Recall.c, Purity.c, ints, ic, big, frac, fc]
          refine DrawS_of (by decide +kernel) ?_
          simp only [go_sem, Evid.iv, Evid.c, Move.c, Cert.c, Recall.c, Purity.c, ints, ic, big, frac, fc]
          refine CallD_eq i1 (by decide) ?_
          simp only [hm1, hm2, hf, List.getElem?_map, go_sem, Evid.iv, Evid.c, Move.c, Cert.c, Recall.c, Purity.c, ints, ic, big, frac, fc]
          refine CallD_eq m1 (by decide) ?_
          simp only [go_sem, Evid.iv, Evid.c, Move.c, Cert.c, Recall.c, Purity.c, ints, ic, big, frac, fc]
          refine DrawS_of (by decide +kernel) ?_
          simp only [go_sem, Evid.iv, Evid.c, Move.c, Cert.c, Recall.c, Purity.c, ints, ic, big, frac, fc]
          refine CallD_eq i2 (by decide) ?_
          simp only [go_sem, Evid.iv, Evid.c, Move.c, Cert.c, Recall.c, Purity.c, ints, ic, big, frac, fc]
          refine CallD_eq m2 (by decide) ?_
          simp only [go_sem, Evid.iv, Evid.c, Move.c, Cert.c, Recall.c, Purity.c, ints, ic, big, frac, fc]
          refine DrawS_of (by decide +kernel) ?_
          simp only [go_sem, Evid.iv, Evid.c, Move.c, Cert.c, Recall.c, Purity.c, ints, ic, big, frac, fc]
          refine CallD_eq i3 (by decide) ?_
          simp only [go_sem, Evid.iv, Evid.c, Move.c, Cert.c, Recall.c, Purity.c, ints, ic, big, frac, fc]
          refine CallD_eq m3 (by decide) ?_
          simp only [go_sem, Evid.iv, Evid.c, Move.c, Cert.c, Recall.c, Purity.c, ints, ic, big, frac, fc]
          refine CallP_eq c1 (by decide) ?_
          simp only [d1, go_sem, Evid.iv, Evid.c, Move.c, Cert.c, Recall.c, Purity.c, ints, ic, big, frac, fc]
    · have hd : decide ((i : Int) < e.purs.length) = false := decide_eq_false hpl
      rw [List.take_of_length_le (by omega)] at ha
      rw [ha]
      simp only [hd, go_sem, Evid.iv, Evid.c, Move.c, Cert.c, Recall.c, Purity.c, ints, ic, big, frac, fc]
end Go.Proofs.YtnjkhiafjcajaaaGreat
