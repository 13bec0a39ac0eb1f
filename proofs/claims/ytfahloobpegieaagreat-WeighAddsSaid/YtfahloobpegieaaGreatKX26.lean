/- A part of the proof. No further condition. -/
import Derived.Test.YtfahloobpegieaaGreatKX25
import Derived.Test.YtfahloobpegieaaGreatKX10
import Derived.Test.YtfahloobpegieaaGreatKX9
import Derived.ChangeArms
import Derived.DataReads
import Derived.Deep.Slices
import Derived.ProofKit
import Derived.Carry
set_option linter.all false
set_option maxRecDepth 100000
namespace Go.Proofs.YtfahloobpegieaaGreat
section
open Go.Abs
open Go.LP (Dic Rw RT Ov OvRw tsum Sol IsMin NoMin Bds)
attribute [local go_sem] Evid.c Evid.iv ints ic big frac fc zc
inductive BSay (e : Evid) (ps : List (Int × Int)) : Option (Rat × Option Rat) -> Prop
 | none : (okP e ps = true -> ∀ x, ¬ Sol (nV e) (rowsE e) x) -> BSay e ps none
 | some (lo : Rat) (hi : Option Rat) : okP e ps = true -> Bds (nV e) (rowsE e) (wgt e ps) lo hi -> FL 4000000000 lo -> (∀ w, hi = some w -> FL 4000000000 w) -> BSay e ps (some (lo, hi))
def bB : Option (Rat × Option Rat) -> List IV
 | none => zc ++ zc ++ [.bool true, .bool true]
 | some (lo, hi) => bdC lo hi
structure RSay (e : Evid) (ps : List (Int × Int)) (r : List IV) (f : Int) (b : Option (Rat × Option Rat)) : Prop where
 shape : RShape r
 bnd : Ctr G.P 28 [.agg r] (· = .agg (bB b))
 flag : decide (f = 0) = b.isSome
 say : BSay e ps b
 arg : f = 1 ↔ okP e ps = false
 zero : b = none -> r = zo ++ zo /\ (f = 1 \/ f = 15)
 found : ∀ lo hi, b = some (lo, hi) -> RFound (nV e) (rowsE e) (wgt e ps) r lo hi
theorem jmc : Ctr G.P 28 [.agg (zo ++ zo)] (· = .agg (bB none)) := by
 have hz : Ctr G.P 82 [.agg [.int 0, ints [], .int 0, ints []]] (· = .agg [.int 0, ints [], .int 0, ints []]) := x_negz; have hz1 : Ctr G.P 81 [.agg [.int 0, ints [], .int 0, ints []]] (· = .agg [.int 0, ints [], .int 0, ints []]) := jnm 0 0 [] [] (by simp) (by simp); exact jh5 0 0 0 0 0 0 0 0 [] [] [] [] [] [] [] [] [] [] [] [] hz1 hz
theorem jo4 : RShape (zo ++ zo) := ⟨_, _, _, _, _, _, _, _, _, _, _, _, _, _, _, _, rfl⟩
section
variable {e : Evid} {ps : List (Int × Int)}
set_option maxHeartbeats 4000000 in
theorem jez (hs : SmallE e) (hl : ps.length <= 10000) : ∃ r f b, RSay e ps r f b /\ Ctr G.P 33 [e.iv, .sl (ps.map pickC)] (· = .tup [.agg r, .int f]) := by
 have kg := w_goal (e := e) hl; unfold jev at kg; rcases h0 : okP e ps with _ | _
 ·rw [h0, if_neg (by decide)] at kg; refine ⟨zo ++ zo, 1, none, ⟨jo4, jmc, rfl, .none (fun h => by rw [h0] at h; cases h), ⟨fun _ => h0, fun _ => rfl⟩, fun _ => ⟨rfl, .inl rfl⟩, fun lo hi h => by cases h⟩, ?_⟩; unfold zo; refine jac good _ _ [.cell 4 47, .tmp 5] Tryz.func33 rfl rfl (by decide +kernel) rfl ?_; unfold Evid.iv Evid.c at *; simp only [go_sem]; refine ja1 kg (by decide) ?_; simp only [go_sem]
 ·obtain ⟨hc, _, _⟩ := jjf h0; rw [h0, if_pos rfl] at kg; have kS := e_System (e := e) (fun _ => by have := hs.mv; omega); unfold sysIV at kS; rw [if_pos hc] at kS; have hso := sys_ok hc hs; have hgo := goal_ok h0; have kO := x_Of hso hgo; have harg : ∀ f : Int, f ≠ 1 -> (f = 1 ↔ okP e ps = false) := fun f hf => ⟨fun h => absurd h hf, fun h => by rw [h0] at h; cases h⟩; rcases span_says hso hgo (fun t ht => by
   obtain ⟨k, _, rfl⟩ := List.mem_map.1 ht; show (0 : Rat) <= 1; decide) with ⟨e1, hno⟩ | ⟨r, lo, hi, e1, hb, f1, f2, kB, hr⟩
  ·rw [e1] at kO; refine ⟨zo ++ zo, 15, none, ⟨jo4, jmc, rfl, .none fun _ => hno, harg _ (by decide), fun _ => ⟨rfl, .inr rfl⟩, fun lo hi h => by cases h⟩, ?_⟩; unfold zo nV at *; generalize (goalS e.mats.toNat ps).map tmC = gt at *; generalize (rowsE e).map rwC = rt at *; refine jac good _ _ [.cell 4 47, .tmp 5] Tryz.func33 rfl rfl (by decide +kernel) rfl ?_; unfold Evid.iv Evid.c at *; simp only [go_sem]; refine ja1 kg (by decide) ?_; simp only [go_sem]; refine ja1 kS (by decide) ?_; simp only [go_sem]; refine ja1 kO (by decide) ?_; simp only [go_sem]
  ·rw [e1] at kO; have hfd : ∀ l' h', some (lo, hi) = some (l', h') -> RFound (nV e) (rowsE e) (wgt e ps) r l' h' := fun l' h' hh => by
    cases hh; have e1 : tsum (goalS e.mats.toNat ps) = wgt e ps := funext fun x => jp3 x; rw [e1] at hr; exact hr
   refine ⟨r, 0, some (lo, hi), ⟨hr.shape, kB, rfl, .some lo hi h0 (hb.congr fun x => jp3 x) f1 f2, harg _ (by decide), (fun h => by cases h), hfd⟩, ?_⟩; clear hfd; obtain ⟨k1, a1, c1, b1, d1, P1, Y1, Z1, k2, a2, c2, b2, d2, P2, Y2, Z2, rfl⟩ := hr.shape; unfold nV at *; generalize (goalS e.mats.toNat ps).map tmC = gt at *; generalize (rowsE e).map rwC = rt at *; refine jac good _ _ [.cell 4 47, .tmp 5] Tryz.func33 rfl rfl (by decide +kernel) rfl ?_; unfold Evid.iv Evid.c at *; simp only [go_sem]; refine ja1 kg (by decide) ?_; simp only [go_sem]; refine ja1 kS (by decide) ?_; simp only [go_sem]; refine ja1 kO (by decide) ?_; simp only [go_sem]
variable {r : List IV} {f : Int} {b : Option (Rat × Option Rat)} {ys : List (List IV)}
theorem jm4 (b : Option (Rat × Option Rat)) : ∃ (a1 c1 : Int) (b1 d1 : List (List IV)) (a2 c2 : Int) (b2 d2 : List (List IV)) (l h : Bool), bB b = [.int a1, .sl b1, .int c1, .sl d1, .int a2, .sl b2, .int c2, .sl d2, .bool l, .bool h] := by
 cases b with
 | none => exact ⟨_, _, _, _, _, _, _, _, _, _, rfl⟩
 | some p =>
  obtain ⟨lo, hi⟩ := p; cases hi with
  | none => exact ⟨_, _, _, _, _, _, _, _, _, _, rfl⟩
  | some w => exact ⟨_, _, _, _, _, _, _, _, _, _, rfl⟩
set_option maxHeartbeats 4000000 in
theorem jl9 (h : RSay e ps r f b) (kR : Ctr G.P 33 [e.iv, .sl ys] (· = .tup [.agg r, .int f])) : Ctr G.P 12 [e.iv, .sl ys] (· = .tup [.agg (bB b), .bool b.isSome]) := by
 rw [<- h.flag]; have kB := h.bnd; obtain ⟨k1, a1, c1, b1, d1, P1, Y1, Z1, k2, a2, c2, b2, d2, P2, Y2, Z2, rfl⟩ := h.shape; obtain ⟨u1, u2, u3, u4, u5, u6, u7, u8, u9, u10, e1⟩ := jm4 b; rw [e1] at kB ⊢; clear h e1; refine jac good _ _ [.cell 4 51, .tmp 5] Tryz.func12 rfl rfl (by decide +kernel) rfl ?_; unfold Evid.iv Evid.c at *; simp only [go_sem]; refine ja1 kR (by decide) ?_; simp only [go_sem]; refine ja1 kB (by decide) ?_; simp only [go_sem]
def jlo (f : Int) : Option (Rat × Option Rat) -> IV
 | none => .tup [.agg zc, .int f]
 | some (lo, _) => .tup [frac lo, .int 0]
set_option maxHeartbeats 4000000 in
theorem w_least (h : RSay e ps r f b) (kR : Ctr G.P 33 [e.iv, .sl ys] (· = .tup [.agg r, .int f])) : Ctr G.P 16 [e.iv, .sl ys] (· = jlo f b) := by
 have kB := h.bnd; have hf := h.flag; obtain ⟨k1, a1, c1, b1, d1, P1, Y1, Z1, k2, a2, c2, b2, d2, P2, Y2, Z2, rfl⟩ := h.shape; cases b with
 | none =>
  clear h kB; have hf' : decide (f = 0) = false := hf; unfold jlo; refine jac good _ _ [.cell 4 42, .tmp 5] Tryz.func16 rfl rfl (by decide +kernel) rfl ?_; unfold Evid.iv Evid.c at *; simp only [go_sem]; refine ja1 kR (by decide) ?_; simp only [hf', go_sem]
 | some p =>
  obtain ⟨lo, hi⟩ := p; have e1 : ∃ (a2 c2 : Int) (b2 d2 : List (List IV)) (h : Bool), bB (some (lo, hi)) = fc lo ++ [.int a2, .sl b2, .int c2, .sl d2, .bool true, .bool h] := by
   cases hi with
   | none => exact ⟨_, _, _, _, _, rfl⟩
   | some w => exact ⟨_, _, _, _, _, rfl⟩
  obtain ⟨u5, u6, u7, u8, u10, e1⟩ := e1; rw [e1] at kB; have hf' : f = 0 := of_decide_eq_true hf; subst hf'; clear h e1 hf; unfold jlo; refine jac good _ _ [.cell 4 42, .tmp 5] Tryz.func16 rfl rfl (by decide +kernel) rfl ?_; unfold Evid.iv Evid.c at *; simp only [go_sem]; refine ja1 kR (by decide) ?_; simp only [go_sem]; refine ja1 kB (by decide) ?_; simp only [go_sem]
set_option maxHeartbeats 4000000 in
theorem jkd (h : RSay e [] r f b) (kR : Ctr G.P 33 [e.iv, .sl []] (· = .tup [.agg r, .int f])) : Ctr G.P 21 [e.iv] (· = .bool b.isSome) := by
 rw [<- h.flag]; obtain ⟨k1, a1, c1, b1, d1, P1, Y1, Z1, k2, a2, c2, b2, d2, P2, Y2, Z2, rfl⟩ := h.shape; clear h; refine jac good _ _ [.tmp 2] Tryz.func21 rfl rfl (by decide +kernel) rfl ?_; unfold Evid.iv Evid.c at *; simp only [go_sem]; refine ja1 kR (by decide) ?_; simp only [go_sem]
set_option maxHeartbeats 4000000 in
theorem w_Goal (hl : ps.length <= 10000) : Ctr G.P 25 [e.iv, .sl (ps.map pickC)] (· = .sl (if okP e ps = true then (goalS e.mats.toNat ps).map tmC else [])) := by
 have kg := w_goal (e := e) hl; unfold jev at kg; rcases h0 : okP e ps with _ | _
 ·rw [h0, if_neg (by decide)] at kg; rw [if_neg (by decide)]; refine jac good _ _ [.tmp 4] Tryz.func25 rfl rfl (by decide +kernel) rfl ?_; unfold Evid.iv Evid.c at *; simp only [go_sem]; refine ja1 kg (by decide) ?_; simp only [go_sem]
 ·rw [h0, if_pos rfl] at kg; rw [if_pos rfl]; generalize (goalS e.mats.toNat ps).map tmC = gt at *; refine jac good _ _ [.tmp 4] Tryz.func25 rfl rfl (by decide +kernel) rfl ?_; unfold Evid.iv Evid.c at *; simp only [go_sem]; refine ja1 kg (by decide) ?_; simp only [go_sem]
end
end
section
open Go.Abs
attribute [local go_sem] ints ic big frac fc zc
theorem t_equal (l : List Int) (hl : l.length <= 1000000000000000) : Ctr G.P 139 [ints l, ints l] (· = .bool true) := by
 have d2 : decide ((l.length : Int) = l.length) = true := decide_eq_true rfl; refine jac good _ _ [.tmp 4] Tryz.func139 rfl rfl (by decide +kernel) rfl ?_; simp only [d2, List.length_map, go_sem]; refine jb3 [0, 1, 12, 13] [] (fun i : Nat => ⟨[(0, .im (ints l)), (1, .im (ints l)), (12, .im (.int l.length)), (13, .im (.int i))], [], []⟩) (fun i => i <= l.length) (fun i => l.length - i) 0 ?_ (Nat.zero_le _) ?_
 ·simp only [Int.natCast_zero, go_sem]
 ·intro i hi; by_cases hp : (i : Int) < l.length
  ·have hd : decide ((i : Int) < l.length) = true := decide_eq_true hp; have hx := jb8 hp; have hw := jaa (n := (i : Int) + 1) (by omega); have hz : decide (dgt l i = dgt l i) = true := decide_eq_true rfl; simp only [hd, go_sem]; refine jau 9 (by decide +kernel) ?_; simp only [hd, List.getElem?_map, hx, hz, go_sem]; refine jah (i + 1) ?_ (by omega) (by omega); simp only [hw, Int.natCast_add, go_sem]
  ·have hd : decide ((i : Int) < l.length) = false := decide_eq_false hp; simp only [hd, go_sem]
theorem t_selfb (s : Int) (l : List Int) (hl : l.length <= 1000000000000000) : Ctr G.P 70 [.agg [.int s, ints l], .agg [.int s, ints l]] (· = .bool true) := by
 have k := t_equal l hl; have d : decide (s = s) = true := decide_eq_true rfl; unfold ints at *; generalize l.map ic = l' at *; refine jac good _ _ [.tmp 4] Tryz.func70 rfl rfl (by decide +kernel) rfl ?_; simp only [d, go_sem]; refine ja1 k (by decide) ?_; simp only [d, go_sem]
theorem t_selff (s t : Int) (l m : List Int) (hl : l.length <= 1000000000000000) (hm : m.length <= 1000000000000000) : Ctr G.P 18 [.agg [.int s, ints l, .int t, ints m], .agg [.int s, ints l, .int t, ints m]] (· = .bool true) := by
 have k1 := t_selfb s l hl; have k2 := t_selfb t m hm; unfold ints at *; generalize l.map ic = l' at *; generalize m.map ic = m' at *; refine jac good _ _ [.tmp 4] Tryz.func18 rfl rfl (by decide +kernel) rfl ?_; simp only [go_sem]; refine ja1 k1 (by decide) ?_; simp only [go_sem]; refine ja1 k2 (by decide) ?_; simp only [go_sem]
theorem jp9 {a : Rat} (ha : FL 19000000000 a) : Ctr G.P 18 [frac a, frac a] (· = .bool true) := t_selff _ _ _ _ (by have := ha.1; omega) (by have := ha.2; rw [Int.natAbs_natCast]; omega)
end
section
open Go.Abs
open Go.LP (Dic Rw RT Ov OvRw tsum Sol IsMin NoMin Bds)
attribute [local go_sem] ints ic big frac fc zc
def exE (rd : Int) (rc : List Recall) : Evid := ⟨1, 1, 1, [⟨0, 0, 0⟩, ⟨1, -1, -1⟩, ⟨5, -1, -1⟩], [⟨3, 0, 1, 0, 20, false⟩, ⟨5, 1, 2, 0, rd, true⟩], [⟨0, 0, 9, 2, 0, 0⟩], rc, []⟩
def exPl : List (List IV) := [[.int 0, .int 0, .int 0], [.int 1, .int (-1), .int (-1)], [.int 5, .int (-1), .int (-1)]]
def exMv (rd : Int) : List (List IV) := [[.int 3, .int 0, .int 1, .int 0, .int 20, .bool false], [.int 5, .int 1, .int 2, .int 0, .int rd, .bool true]]
def exCt : List (List IV) := [[.int 0, .int 0, .int 9, .int 2, .int 0, .int 0]]
def exC (rd : Int) (R : List (List IV)) : List IV := [.int 1, .int 1, .int 1, .sl exPl, .sl (exMv rd), .sl exCt, .sl R, .sl []]
instance decRw : DecidableEq Rw := fun a b => decidable_of_iff (a.ts = b.ts /\ a.kind = b.kind /\ a.val = b.val) ⟨fun ⟨h1, h2, h3⟩ => by cases a; cases b; cases h1; cases h2; cases h3; rfl, fun h => by subst h; exact ⟨rfl, rfl, rfl⟩⟩
theorem jn8 : rowsE (exE 23 []) = [⟨[(0, 1)], 0, 18⟩, ⟨[(0, 1)], 1, 22⟩, ⟨[(0, 1), (1, -1)], 2, 0⟩, ⟨[(1, 1)], 0, 21⟩, ⟨[(1, 1)], 1, 25⟩] := by decide +kernel
theorem ex_rows25 : rowsE (exE 25 []) = [⟨[(0, 1)], 0, 18⟩, ⟨[(0, 1)], 1, 22⟩, ⟨[(0, 1), (1, -1)], 2, 0⟩, ⟨[(1, 1)], 0, 23⟩, ⟨[(1, 1)], 1, 27⟩] := by decide +kernel
theorem ex_rowsR : rowsE (exE 23 [⟨0, 0⟩]) = [⟨[(0, 1), (1, -1)], 2, 0⟩] := by decide +kernel
theorem ex_sol {x : Nat -> Rat} (h : Sol 2 (rowsE (exE 23 [])) x) : x 0 = x 1 /\ 21 <= x 0 /\ x 0 <= 22 := by
 rw [jn8] at h; have h1 := (h.row ⟨[(0, 1)], 1, 22⟩ (by simp)).2 (by decide); have h2 := h.row ⟨[(0, 1), (1, -1)], 2, 0⟩ (by simp); have h3 := (h.row ⟨[(1, 1)], 0, 21⟩ (by simp)).1 (by decide); have h4 := h2.1 (by decide); have h5 := h2.2 (by decide); simp only [tsum] at h1 h3 h4 h5; grind
theorem jn9 {c : Rat} (h1 : 21 <= c) (h2 : c <= 22) : Sol 2 (rowsE (exE 23 [])) (fun _ => c) where
 pos k hk := by grind
 row w hw := by
  rw [jn8] at hw; simp only [List.mem_cons, List.not_mem_nil, or_false] at hw; rcases hw with rfl | rfl | rfl | rfl | rfl <;> simp only [Rw.sat, tsum] <;> constructor <;> intro _ <;> grind
theorem ex_no {x : Nat -> Rat} (h : Sol 2 (rowsE (exE 25 [])) x) : False := by
 rw [ex_rows25] at h; have h1 := (h.row ⟨[(0, 1)], 1, 22⟩ (by simp)).2 (by decide); have h2 := h.row ⟨[(0, 1), (1, -1)], 2, 0⟩ (by simp); have h3 := (h.row ⟨[(1, 1)], 0, 23⟩ (by simp)).1 (by decide); have h4 := h2.1 (by decide); have h5 := h2.2 (by decide); simp only [tsum] at h1 h3 h4 h5; grind
theorem ex_hasR : Sol 2 (rowsE (exE 23 [⟨0, 0⟩])) (fun _ => 0) where
 pos k hk := by grind
 row w hw := by
  rw [ex_rowsR] at hw; simp only [List.mem_cons, List.not_mem_nil, or_false] at hw; subst hw; simp only [Rw.sat, tsum]; constructor <;> intro _ <;> grind
section
variable {e : Evid} {ps : List (Int × Int)} {b : Option (Rat × Option Rat)} {lo hi : Rat} {x y : Nat -> Rat}
theorem BSay.low (h : BSay e ps b) (hok : okP e ps = true) (hx : Sol (nV e) (rowsE e) x) (ex : wgt e ps x = lo) (hall : ∀ z, Sol (nV e) (rowsE e) z -> lo <= wgt e ps z) : ∃ hi, b = Option.some (lo, hi) := by
 cases h with
 | none hno => exact absurd hx (hno hok x)
 | some l u h1 h2 h3 h4 =>
  obtain ⟨z, hz, rfl⟩ := h2.low_at; have a := h2.low x hx; have c := hall z hz; have : lo = wgt e ps z := by grind
  exact ⟨u, by rw [this]⟩
theorem BSay.exact (h : BSay e ps b) (hok : okP e ps = true) (hx : Sol (nV e) (rowsE e) x) (ex : wgt e ps x = lo) (hy : Sol (nV e) (rowsE e) y) (ey : wgt e ps y = hi) (hall : ∀ z, Sol (nV e) (rowsE e) z -> lo <= wgt e ps z /\ wgt e ps z <= hi) : b = Option.some (lo, Option.some hi) := by
 cases h with
 | none hno => exact absurd hx (hno hok x)
 | some l u h1 h2 h3 h4 =>
  have e1 : l = lo := by
   obtain ⟨z, hz, rfl⟩ := h2.low_at; have a := h2.low x hx; have c := (hall z hz).1; grind
  have e2 : u = Option.some hi := by
   cases hu : u with
   | none =>
    obtain ⟨z, hz, hl⟩ := h2.wide hu hi; have := (hall z hz).2; grind
   | some w =>
    obtain ⟨z, hz, rfl⟩ := h2.high_at w hu; have a := h2.high _ hu y hy; have c := (hall z hz).2; have : wgt e ps z = hi := by grind
    rw [this]
  rw [e1, e2]
theorem BSay.no (h : BSay e ps b) (hno : ∀ x, ¬ Sol (nV e) (rowsE e) x) : b = Option.none := by
 cases h with
 | none _ => rfl
 | some l u h1 h2 h3 h4 => obtain ⟨z, hz, _⟩ := h2.low_at; exact absurd hz (hno z)
end
theorem jgo (rd : Int) (rc : List Recall) : SmallE (exE rd rc) := ⟨by show 2 <= 9; omega, by show (1 : Int) <= 2; omega, by show 0 <= 40; omega⟩
theorem ex_one {b : Option (Rat × Option Rat)} (h : BSay (exE 23 []) [(0, 0)] b) : b = some (((21 : Int) : Rat), some ((22 : Int) : Rat)) := by
 refine h.exact (by decide +kernel) (jn9 (c := 21) (by decide) (by decide)) ?_ (jn9 (c := 22) (by decide) (by decide)) ?_ ?_
 ·show (21 : Rat) + 0 = 21; decide +kernel
 ·show (22 : Rat) + 0 = 22; decide +kernel
 ·intro z hz; obtain ⟨h1, h2, h3⟩ := ex_sol hz; have e1 : wgt (exE 23 []) [(0, 0)] z = z 0 + 0 := rfl; have e2 : ((21 : Int) : Rat) = 21 := rfl; have e3 : ((22 : Int) : Rat) = 22 := rfl; rw [e1, e2, e3]; grind
theorem ex_two {b : Option (Rat × Option Rat)} (h : BSay (exE 23 []) [(1, 0), (0, 0)] b) : b = some (((42 : Int) : Rat), some ((44 : Int) : Rat)) := by
 refine h.exact (by decide +kernel) (jn9 (c := 21) (by decide) (by decide)) ?_ (jn9 (c := 22) (by decide) (by decide)) ?_ ?_
 ·show (21 : Rat) + (21 + 0) = 42; decide +kernel
 ·show (22 : Rat) + (22 + 0) = 44; decide +kernel
 ·intro z hz; obtain ⟨h1, h2, h3⟩ := ex_sol hz; have e1 : wgt (exE 23 []) [(1, 0), (0, 0)] z = z 1 + (z 0 + 0) := rfl; have e2 : ((42 : Int) : Rat) = 42 := rfl; have e3 : ((44 : Int) : Rat) = 44 := rfl; rw [e1, e2, e3]; grind
theorem jmf (rd : Int) : Ctr G.P 54 [.int rd] (· = .agg (exC rd [])) := by
 unfold exC exPl exMv exCt; refine jac good _ _ [.cell 2 28] Tryz.func54 rfl rfl (by decide +kernel) rfl ?_; simp only [go_sem]
set_option maxHeartbeats 4000000 in
theorem jmg {e : Evid} {C : List (List IV)} {ps : List (Int × Int)} {r : List IV} {f : Int} {lo hi : Int} (h : RSay e ps r f (some ((lo : Rat), some (hi : Rat)))) (kR : Ctr G.P 33 [.agg (exC 23 []), .sl C] (· = .tup [.agg r, .int f]))
  (hlo : 0 <= lo /\ lo <= 100) (hhi : 0 <= hi /\ hi <= 100) : Ctr G.P 55 [.agg (exC 23 []), .sl C, .int lo, .int hi] (· = .bool true) := by
 have kB := h.bnd; have hf : f = 0 := of_decide_eq_true h.flag; subst hf; obtain ⟨k1, a1, c1, b1, d1, P1, Y1, Z1, k2, a2, c2, b2, d2, P2, Y2, Z2, rfl⟩ := h.shape; clear h; simp only [bB, bdC, sideC, List.cons_append, List.nil_append, List.append_assoc] at kB; have i1 := jc6 lo (by omega); have i2 := jc6 hi (by omega); have s1 := jp9 (FL.mono (jce (n := lo) (by omega)) (by omega : 4 <= 19000000000)); have s2 := jp9 (FL.mono (jce (n := hi) (by omega)) (by omega : 4 <= 19000000000)); simp only [frac, fc, ints, Option.isSome, List.cons_append, List.nil_append] at *; generalize (dig ((lo : Rat).num.natAbs)).map ic = x1 at *; generalize (dig ((lo : Rat).den : Int).natAbs).map ic = x2 at *; generalize (dig ((hi : Rat).num.natAbs)).map ic = x3 at *; generalize (dig ((hi : Rat).den : Int).natAbs).map ic = x4 at *; unfold exC at *; refine jac good _ _ [.tmp 8] Tryz.func55 rfl rfl (by decide +kernel) rfl ?_; simp only [go_sem]; refine ja1 kR (by decide) ?_; simp only [go_sem]; refine ja1 kB (by decide) ?_; simp only [go_sem]; refine jau 25 (by decide +kernel) ?_; simp only [go_sem]; refine ja4 i1 (by decide) ?_; simp only [go_sem]; refine ja4 s1 (by decide) ?_; simp only [go_sem]; refine ja4 i2 (by decide) ?_; simp only [go_sem]; refine ja4 s2 (by decide) ?_; simp only [go_sem]
end
section
open Go.Abs
open Go.LP (Dic Rw RT Ov OvRw tsum Sol IsMin NoMin Bds)
attribute [local go_sem] ints ic big frac fc zc
set_option maxHeartbeats 8000000 in
theorem w_small : Ctr G.P 9 [] (· = .bool true) := by
 have kE23 := jmf 23; have kE25 := jmf 25; have kI0 : Ctr G.P 19 [.int 0] (· = frac ((0 : Int) : Rat)) := jc6 0 (by omega); have kS0 := jp9 (FL.mono (jce (n := 0) (by omega)) (by omega : 4 <= 19000000000)); obtain ⟨r1, f1, b1, s1, kR1⟩ := jez (e := exE 23 []) (ps := [(0, 0)]) (jgo _ _) (by simp); have hb1 := ex_one s1.say; subst hb1; have kb1 := jmg (e := exE 23 []) (C := [[.int 0, .int 0]]) s1 kR1 (by omega) (by omega); obtain ⟨r2, f2, b2, s2, kR2⟩ := jez (e := exE 23 []) (ps := [(1, 0), (0, 0)]) (jgo _ _) (by simp); have hb2 := ex_two s2.say; subst hb2; have kb2 := jmg (e := exE 23 []) (C := [[.int 1, .int 0], [.int 0, .int 0]]) s2 kR2 (by omega) (by omega); have kG := w_Goal (e := exE 23 []) (ps := [(1, 0), (0, 0)]) (by simp); have hg : okP (exE 23 []) [(1, 0), (0, 0)] = true := by decide +kernel
 rw [hg, if_pos rfl] at kG; have kG' : Ctr G.P 25 [.agg (exC 23 []), .sl [[.int 1, .int 0], [.int 0, .int 0]]] (· = .sl [tmC (0, 1), tmC (1, 1)]) := kG; obtain ⟨r3, f3, b3, s3, kR3⟩ := jez (e := exE 23 []) (ps := []) (jgo _ _) (by simp); have kP3 := jkd s3 kR3; have hb3 : b3.isSome = true := by
  obtain ⟨hi, h⟩ := s3.say.low (lo := 0) (by decide +kernel) (jn9 (c := 21) (by decide) (by decide)) rfl (fun z _ => by show (0 : Rat) <= 0; decide); rw [h]; rfl
 rw [hb3] at kP3; obtain ⟨r4, f4, b4, s4, kR4⟩ := jez (e := exE 25 []) (ps := []) (jgo _ _) (by simp); have kP4 := jkd s4 kR4; have hb4 := s4.say.no fun x hx => ex_no hx; subst hb4; obtain ⟨r5, f5, b5, s5, kR5⟩ := jez (e := exE 25 []) (ps := [(0, 0)]) (jgo _ _) (by simp); have hb5 := s5.say.no fun x hx => ex_no hx; obtain ⟨e5, e6⟩ := s5.zero hb5; have hf5 : f5 = 15 := by
  rcases e6 with h | h
  ·have h2 := s5.arg.1 h; rw [show okP (exE 25 []) [(0, 0)] = true by decide +kernel] at h2; cases h2
  ·exact h
 subst e5 hf5; obtain ⟨r6, f6, b6, s6, kR6⟩ := jez (e := exE 23 [⟨0, 0⟩]) (ps := [(0, 0)]) (jgo _ _) (by simp); have hb6 : ∃ hi, b6 = some (((0 : Int) : Rat), hi) := by
  refine s6.say.low (by decide +kernel) ex_hasR ?_ ?_
  ·show (0 : Rat) + 0 = 0; decide +kernel
  ·intro z hz; have := hz.pos 0 (by decide); have e1 : wgt (exE 23 [⟨0, 0⟩]) [(0, 0)] z = z 0 + 0 := rfl; have e2 : ((0 : Int) : Rat) = 0 := rfl; rw [e1, e2]; grind
 obtain ⟨hi6, hb6⟩ := hb6; subst hb6; have kL := w_least s6 kR6; have kL' : Ctr G.P 16 [.agg (exC 23 [[.int 0, .int 0]]), .sl [[.int 0, .int 0]]] (· = .tup [frac ((0 : Int) : Rat), .int 0]) := kL; have kR5' : Ctr G.P 33 [.agg (exC 25 []), .sl [[.int 0, .int 0]]] (· = .tup [.agg (zo ++ zo), .int 15]) := kR5; have kP3' : Ctr G.P 21 [.agg (exC 23 [])] (· = .bool true) := kP3; have kP4' : Ctr G.P 21 [.agg (exC 25 [])] (· = .bool false) := kP4; clear kR1 kR2 kR3 kR4 kR5 kR6 s1 s2 s3 s4 s5 s6 kL kP3 kP4 hb3 hb5 e6 kG hg; simp only [frac, ints, exC, zo, zc, List.cons_append, List.nil_append, tmC, fc] at *; generalize (dig (((0 : Int) : Rat).num.natAbs)).map ic = x1 at *; generalize (dig ((((0 : Int) : Rat).den : Int).natAbs)).map ic = x2 at *; generalize exMv 23 = m23 at *; generalize exMv 25 = m25 at *; generalize exPl = pl at *; generalize exCt = ct at *; refine jac good _ _ [.tmp 0] Tryz.func9 rfl rfl (by decide +kernel) rfl ?_; simp only [go_sem]; refine ja1 kE23 (by decide) ?_; simp only [go_sem]; refine ja1 kE25 (by decide) ?_; simp only [go_sem]; refine ja1 kR5' (by decide) ?_; simp only [go_sem]; refine ja1 kL' (by decide) ?_; simp only [go_sem]; refine jau 19 (by decide +kernel) ?_; simp only [go_sem]; refine ja4 kE23 (by decide) ?_; simp only [go_sem]; refine ja4 kG' (by decide) ?_; simp only [go_sem]; refine ja4 kI0 (by decide) ?_; simp only [go_sem]; refine ja4 kS0 (by decide) ?_; simp only [go_sem]; refine ja1 kE23 (by decide) ?_; simp only [go_sem]
 refine ja1 kb1 (by decide) ?_; simp only [go_sem]; refine ja1 kE23 (by decide) ?_; simp only [go_sem]; refine ja1 kb2 (by decide) ?_; simp only [go_sem]; refine ja1 kE23 (by decide) ?_; simp only [go_sem]; refine ja1 kP3' (by decide) ?_; simp only [go_sem]; refine ja1 kE25 (by decide) ?_; simp only [go_sem]; refine ja1 kP4' (by decide) ?_; simp only [go_sem]
theorem t_few5z (k : Int) (hk : 0 <= k) : Ctr G.P 118 [.agg zc, .int k] (· = .bool true) := by
 have hd : decide ((0 : Int) <= k) = true := decide_eq_true hk; refine jac good _ _ [.tmp 4] Tryz.func118 rfl rfl (by decide +kernel) rfl ?_; simp only [hd, go_sem]
theorem t_few8z (k d : Int) (hk : 0 <= k) : Ctr G.P 103 [.sl [], .int k, .int d] (· = .bool true) := by
 have hd : decide ((0 : Int) <= k) = true := decide_eq_true hk; refine jac good _ _ [.tmp 6] Tryz.func103 rfl rfl (by decide +kernel) rfl ?_; simp only [hd, go_sem]; refine jb3 [0, 1, 2, 7] [] (fun _ : Nat => ⟨[(0, .im (.sl [])), (1, .im (.int k)), (2, .im (.int d)), (7, .im (.int 0))], [], []⟩) (fun _ => True) (fun g => g) 0 ?_ trivial ?_
 ·simp only [go_sem]
 intro i _; simp only [hd, go_sem]
theorem t_few11z : Ctr G.P 56 [.agg zo, .int 60, .int 40] (· = .bool true) := by
 have k1 := t_few5z 40 (by omega); have k2 := t_few8z 60 40 (by omega); unfold zo; refine jac good _ _ [.tmp 6] Tryz.func56 rfl rfl (by decide +kernel) rfl ?_; simp only [go_sem]; refine ja1 k1 (by decide) ?_; simp only [go_sem]; refine ja1 k2 (by decide) ?_; simp only [go_sem]; refine ja1 k2 (by decide) ?_; simp only [go_sem]; refine ja1 k2 (by decide) ?_; simp only [go_sem]
def jmp (e : Evid) (k m : Int) : Bool :=
 !decide (m < e.mats) && (!decide (6 < e.houses) && (!decide (6 < e.scales) && (!decide (12 < (e.places.length : Int)) && (decide ((e.moves.length : Int) <= k) && (decide ((e.certs.length : Int) <= 10) && (decide ((e.recalls.length : Int) <= 4) && decide ((e.purs.length : Int) <= 6)))))))
set_option maxHeartbeats 4000000 in
theorem t_small14 (e : Evid) (k m : Int) : Ctr G.P 35 [e.iv, .int k, .int m] (· = .bool (jmp e k m)) := by
 refine jac good _ _ [.tmp 6] Tryz.func35 rfl rfl (by decide +kernel) rfl ?_; unfold jmp Evid.iv Evid.c; simp only [List.length_map, go_sem]
 repeat' (first | (refine jcx (fun hd => ?_) (fun hd => ?_) <;> simp only [*, go_sem]))
 all_goals simp [*]
def few17 (e : Evid) (n : Nat) (k : Int) : Bool := jmp e k 2 && (decide ((e.purs.length : Int) <= 3) && decide ((n : Int) <= 20))
set_option maxHeartbeats 4000000 in
theorem t_few17z (e : Evid) (C : List (List IV)) (k : Int) : Ctr G.P 10 [e.iv, .sl C, .agg (zo ++ zo), .int k, .int 2] (· = .bool (few17 e C.length k)) := by
 have k1 := t_small14 e k 2; have k2 := t_few11z; unfold few17 Evid.iv Evid.c zo at *; rcases h1 : jmp e k 2 with _ | _
 ·rw [h1] at k1; refine jac good _ _ [.tmp 10] Tryz.func10 rfl rfl (by decide +kernel) rfl ?_; simp only [go_sem]; refine ja1 k1 (by decide) ?_; simp only [go_sem]
 ·rw [h1] at k1; rcases h2 : decide ((e.purs.length : Int) <= 3) with _ | _
  ·refine jac good _ _ [.tmp 10] Tryz.func10 rfl rfl (by decide +kernel) rfl ?_; simp only [go_sem]; refine ja1 k1 (by decide) ?_; simp only [h2, List.length_map, go_sem]
  ·rcases h3 : decide ((C.length : Int) <= 20) with _ | _
   ·refine jac good _ _ [.tmp 10] Tryz.func10 rfl rfl (by decide +kernel) rfl ?_; simp only [go_sem]; refine ja1 k1 (by decide) ?_; simp only [h2, h3, List.length_map, go_sem]
   ·refine jac good _ _ [.tmp 10] Tryz.func10 rfl rfl (by decide +kernel) rfl ?_; simp only [go_sem]; refine ja1 k1 (by decide) ?_; simp only [h2, h3, List.length_map, go_sem]; refine ja1 k2 (by decide) ?_; simp only [h2, h3, List.length_map, go_sem]; refine ja1 k2 (by decide) ?_; simp only [h2, h3, List.length_map, go_sem]
theorem few_small {e : Evid} {n : Nat} {k : Int} (h : few17 e n k = true) (hk : k <= 9) : SmallE e /\ n <= 20 /\ (e.moves.length : Int) <= k /\ e.certs.length <= 10 /\ e.recalls.length <= 4 /\ e.scales <= 6 := by
 simp only [few17, jmp, Bool.and_eq_true, Bool.not_eq_true', decide_eq_false_iff_not, decide_eq_true_eq] at h; exact ⟨⟨by omega, by omega, by omega⟩, by omega, by omega, by omega, by omega, by omega⟩
end
section
open Go.Abs
open Go.LP (Dic Rw RT Ov OvRw tsum Sol IsMin NoMin Bds ksum jlq jfo noDup_iff)
attribute [local go_sem] ints ic big frac fc zc
theorem okP_iff {e : Evid} {ps : List (Int × Int)} : okP e ps = true ↔ jcq e = 0 /\ (∀ p ∈ ps, je5 e p = true) /\ (ps.map (pickK e.mats.toNat)).Nodup := by
 constructor
 ·intro h; obtain ⟨h1, h2, h3⟩ := jjf h; exact ⟨h1, h2, noDup_iff.1 h3⟩
 ·rintro ⟨h1, h2, h3⟩; simp only [okP, Bool.and_eq_true, decide_eq_true_eq, List.all_eq_true]; exact ⟨h1, h2, noDup_iff.2 h3⟩
theorem jnt {e : Evid} {ps qs : List (Int × Int)} (hs : qs.Sublist ps) (h : okP e ps = true) : okP e qs = true := by
 obtain ⟨h1, h2, h3⟩ := okP_iff.1 h; exact okP_iff.2 ⟨h1, fun p hp => h2 p (hs.subset hp), List.Nodup.sublist (hs.map _) h3⟩
theorem okP_nil {e : Evid} (h : jcq e = 0) : okP e [] = true := okP_iff.2 ⟨h, (fun p hp => by cases hp), List.Pairwise.nil⟩
theorem wgt_cut (e : Evid) (ps : List (Int × Int)) (k : Nat) (x : Nat -> Rat) : wgt e ps x = wgt e (ps.take k) x + wgt e (ps.drop k) x := by
 unfold wgt; rw [<- jlq, <- List.map_append, List.take_append_drop]
theorem wgt_nonneg {e : Evid} {ps : List (Int × Int)} (h : okP e ps = true) {x : Nat -> Rat} (hx : Sol (nV e) (rowsE e) x) : 0 <= wgt e ps x := by
 obtain ⟨_, h2, _⟩ := okP_iff.1 h; refine jfo hx.pos fun k hk => ?_; obtain ⟨p, hp, rfl⟩ := List.mem_map.1 hk; exact pick_lt (h2 p hp)
theorem BSay.get {e : Evid} {ps : List (Int × Int)} {b : Option (Rat × Option Rat)} (h : BSay e ps b) (hok : okP e ps = true) (hx : ∃ x, Sol (nV e) (rowsE e) x) :
  ∃ lo hi, b = Option.some (lo, hi) /\ Bds (nV e) (rowsE e) (wgt e ps) lo hi /\ FL 4000000000 lo /\ ∀ w, hi = Option.some w -> FL 4000000000 w := by
 cases h with
 | none hno => obtain ⟨x, hx⟩ := hx; exact absurd hx (hno hok x)
 | some l u h1 h2 h3 h4 => exact ⟨l, u, rfl, h2, h3, h4⟩
theorem BSay.inv {e : Evid} {ps : List (Int × Int)} {lo : Rat} {hi : Option Rat} (h : BSay e ps (Option.some (lo, hi))) : okP e ps = true /\ Bds (nV e) (rowsE e) (wgt e ps) lo hi /\ FL 4000000000 lo /\ ∀ w, hi = Option.some w -> FL 4000000000 w := by
 cases h with
 | some l u h1 h2 h3 h4 => exact ⟨h1, h2, h3, h4⟩
theorem t_addz1 (s t : Int) (b d : List (List IV)) : Ctr G.P 17 [.agg zc, .agg [.int s, .sl b, .int t, .sl d]] (· = .tup [.agg zc, .int 1]) := by
 have k1 := jh8 0 0 [] [] (by decide) (by decide); have e : fracF 0 [] 0 [] = false := by decide +kernel
 rw [e] at k1; simp only [ints, List.map_nil] at k1; unfold zc; refine jac good _ _ [.cell 4 42, .tmp 5] Tryz.func17 rfl rfl (by decide +kernel) rfl ?_; simp only [go_sem]; refine ja1 k1 (by decide) ?_; simp only [go_sem]
theorem t_addz2 {a : Rat} (ha : FL 19000000000 a) : Ctr G.P 17 [frac a, .agg zc] (· = .tup [.agg zc, .int 1]) := by
 have k1 := jh8 0 0 [] [] (by decide) (by decide); have e : fracF 0 [] 0 [] = false := by decide +kernel
 rw [e] at k1; have k0 := jnx ha; simp only [ints, frac, List.map_nil] at k0 k1 ⊢; unfold zc; refine jac good _ _ [.cell 4 42, .tmp 5] Tryz.func17 rfl rfl (by decide +kernel) rfl ?_; simp only [go_sem]; refine ja1 k0 (by decide) ?_; simp only [go_sem]; refine ja1 k1 (by decide) ?_; simp only [go_sem]
theorem jgj (h : Option Rat) : ∃ (s t : Int) (b d : List (List IV)), sideC h = [.int s, .sl b, .int t, .sl d] := by
 cases h with
 | none => exact ⟨_, _, _, _, rfl⟩
 | some w => exact ⟨_, _, _, _, rfl⟩
theorem side_add {h1 h2 : Option Rat} (f1 : ∀ w, h1 = some w -> FL 4000000000 w) (f2 : ∀ w, h2 = some w -> FL 4000000000 w) : ∃ (s t : Int) (b d : List (List IV)) (f : Int), Ctr G.P 17 [.agg (sideC h1), .agg (sideC h2)] (· = .tup [.agg [.int s, .sl b, .int t, .sl d], .int f]) /\
  ∀ w w', h1 = some w -> h2 = some w' -> fc (w + w') = [.int s, .sl b, .int t, .sl d] := by
 cases h1 with
 | none =>
  obtain ⟨s, t, b, d, e⟩ := jgj h2; rw [e]; exact ⟨_, _, _, _, _, t_addz1 s t b d, fun w w' h => by cases h⟩
 | some w =>
  cases h2 with
  | none => exact ⟨_, _, _, _, _, t_addz2 ((f1 w rfl).mono (by omega)), fun w w' _ h => by cases h⟩
  | some w' => exact ⟨_, _, _, _, _, f_add ((f1 w rfl).mono (by omega)) ((f2 w' rfl).mono (by omega)), fun u u' h h' => by cases h; cases h'; rfl⟩
set_option maxHeartbeats 8000000 in
theorem w_adds (e : Evid) (ps : List (Int × Int)) (c : Int) (hc : 0 <= c /\ c <= 255) : Ctr G.P 4 [e.iv, .sl (ps.map pickC), .sc (.int .u8 c)] (· = .bool true) := by
 have k0 := w_small; have kF := t_few17z e (ps.map pickC) 5; rw [List.length_map] at kF; rcases hf : few17 e ps.length 5 with _ | _
 ·rw [hf] at kF; unfold zo at kF; generalize ps.map pickC = pl at *; refine jac good _ _ [.tmp 6] Tryz.func4 rfl rfl (by decide +kernel) rfl ?_; unfold Evid.iv Evid.c at *; simp only [go_sem]; refine ja1 k0 (by decide) ?_; simp only [go_sem]; refine ja1 kF (by decide) ?_; simp only [go_sem]
 rw [hf] at kF; obtain ⟨hs, hn, _⟩ := few_small hf (by omega); obtain ⟨k, hk, hkl⟩ : ∃ k : Nat, c.tmod ((ps.length : Int) + 1) = (k : Int) /\ k <= ps.length := by
  have h1 : 0 <= c.tmod ((ps.length : Int) + 1) := Int.tmod_nonneg _ hc.1; have h2 := Int.tmod_lt_of_pos c (show (0 : Int) < (ps.length : Int) + 1 by omega); exact ⟨(c.tmod ((ps.length : Int) + 1)).toNat, by omega, by omega⟩
 have wc : IntKind.i64.wrap c = c := jaa (by omega); have wn : IntKind.i64.wrap ((ps.length : Int) + 1) = (ps.length : Int) + 1 := jaa (by omega); have nz : ¬ ((ps.length : Int) + 1 = 0) := by omega
 have nzd : decide ((ps.length : Int) + 1 = 0) = false := decide_eq_false nz; have hk0 : (0 : Int) <= (k : Int) := by omega
 have hkn : (k : Int) <= (ps.length : Int) := by omega
 have hall : (ps.map pickC).all (fun c => c.length == 2) = true := List.all_eq_true.2 fun c hc => by
  obtain ⟨z, _, rfl⟩ := List.mem_map.1 hc; rfl
 have htk : (ps.map pickC).take k = (ps.take k).map pickC := List.map_take.symm; have hdk : ((ps.map pickC).drop k).take (ps.length - k) = (ps.drop k).map pickC := by
  rw [<- List.map_drop, List.take_of_length_le]; rw [List.length_map, List.length_drop]; exact Nat.le_refl _
 obtain ⟨r1, f1, b1, s1, kR1⟩ := jez (e := e) (ps := ps) hs (by omega); have kb1 := jl9 s1 kR1; obtain ⟨r2, f2, b2, s2, kR2⟩ := jez (e := e) (ps := ps.take k) hs (by rw [List.length_take]; omega); have kb2 := jl9 s2 kR2; obtain ⟨r3, f3, b3, s3, kR3⟩ := jez (e := e) (ps := ps.drop k) hs (by rw [List.length_drop]; omega); have kb3 := jl9 s3 kR3; have y1 := s1.say; have y2 := s2.say; have y3 := s3.say; obtain ⟨a2, c2, x2, d2, a2', c2', x2', d2', l2, h2, e2⟩ := jm4 b2; obtain ⟨a3, c3, x3, d3, a3', c3', x3', d3', l3, h3, e3⟩ := jm4 b3; cases b1 with
 | none =>
  rw [e2] at kb2; rw [e3] at kb3; simp only [bB, zc, zo, List.cons_append, List.nil_append, Option.isSome] at *; clear s1 s2 s3 y1 y2 y3 kR1 kR2 kR3 e2 e3; refine jac good _ _ [.tmp 6] Tryz.func4 rfl rfl (by decide +kernel) rfl ?_; unfold Evid.iv Evid.c at *; simp only [go_sem]; refine ja1 k0 (by decide) ?_; simp only [go_sem]; refine ja1 kF (by decide) ?_; simp only [wc, wn, nz, hk, List.length_map, go_sem]; refine ja1 kb1 (by decide) ?_; simp only [hk, go_sem]; refine jay (by decide +kernel) ?_; simp only [hk0, hkn, hall, htk, hdk, Nat.sub_zero, List.length_map, go_sem]; refine ja4 kb2 (by decide) ?_; simp only [go_sem]; refine jay (by decide +kernel) ?_; simp only [hk0, hkn, hall, htk, hdk, Nat.sub_zero, List.length_map, Int.le_refl, go_sem]; refine ja4 kb3 (by decide) ?_; simp only [go_sem]
 | some p =>
  obtain ⟨lo, hi⟩ := p; clear e2 e3; obtain ⟨g1, g2, g3, g4⟩ := y1.inv; obtain ⟨lo2, hi2, rfl, q2, q3, q4⟩ := y2.get (jnt (List.take_sublist _ _) g1) g2.sol; obtain ⟨lo3, hi3, rfl, t2, t3, t4⟩ := y3.get (jnt (List.drop_sublist _ _) g1) g2.sol; have hc0 := (okP_iff.1 g1).1; obtain ⟨r5, f5, b5, s5, kR5⟩ := jez (e := e) (ps := []) hs (by simp); have kL := w_least s5 kR5; obtain ⟨lo5, hi5, hb5, v2, _, _⟩ := s5.say.get (okP_nil hc0) g2.sol; have hz5 : lo5 = ((0 : Int) : Rat) := v2.zero fun x => rfl; subst hb5 hz5; unfold jlo at kL; have kL' : Ctr G.P 16 [e.iv, .sl []] (· = .tup [frac ((0 : Int) : Rat), .int 0]) := kL; obtain ⟨m1, m2⟩ := q2.add t2 (g2.congr fun x => wgt_cut e ps k x); have m3 : lo2 <= lo := q2.mono g2 fun x hx => by
   rw [wgt_cut e ps k x]; have := wgt_nonneg (jnt (List.drop_sublist k _) g1) hx; grind
  have kI0 : Ctr G.P 19 [.int 0] (· = frac ((0 : Int) : Rat)) := jc6 0 (by omega); have kS0 := jp9 (FL.mono (jce (n := 0) (by omega)) (by omega : 4 <= 19000000000)); have kA := f_add (q3.mono (by omega : 4000000000 <= 19000000000)) (t3.mono (by omega : 4000000000 <= 19000000000)); have fs : FL 19000000000 (lo2 + lo3) := (jk8 q3 t3).mono (by omega); have kC1 := f_cmp fs (g3.mono (by omega : 4000000000 <= 19000000000)); have kC2 := f_cmp (q3.mono (by omega : 4000000000 <= 19000000000)) (g3.mono (by omega : 4000000000 <= 19000000000)); have dC1 : decide (0 < cmpR (lo2 + lo3) lo) = false := decide_eq_false (fun h => by have := cmpR_pos.1 h; grind); have dC2 : decide (0 < cmpR lo2 lo) = false := decide_eq_false (fun h => by have := cmpR_pos.1 h; grind); obtain ⟨zs, zt, zb, zd, zf, kM, hM⟩ := side_add q4 t4; obtain ⟨us, ut, ub, ud, e4⟩ := jgj hi; obtain ⟨vs, vt, vb, vd, e5⟩ := jgj hi2; obtain ⟨ws, wt, wb, wd, e6⟩ := jgj hi3; have hlast : ∀ h2 h3 : Bool, hi2.isSome = h2 -> hi3.isSome = h3 -> (h2 = true /\ h3 = true -> hi.isSome = true /\ ∃ n : Int, decide (n <= 0) = true /\ Ctr G.P 20 [.agg [.int us, .sl ub, .int ut, .sl ud], .agg [.int zs, .sl zb, .int zt, .sl zd]] (· = .int n)) := by
   rintro _ _ rfl rfl ⟨i2, i3⟩; obtain ⟨w2, rfl⟩ := Option.isSome_iff_exists.1 i2; obtain ⟨w3, rfl⟩ := Option.isSome_iff_exists.1 i3; obtain ⟨u, rfl, hu⟩ := m2 w2 w3 rfl rfl; refine ⟨rfl, cmpR u (w2 + w3), decide_eq_true ?_, ?_⟩
   ·have := (not_congr (cmpR_pos (a := u) (b := w2 + w3))).2 (by grind); omega
   ·have h := f_cmp ((g4 u rfl).mono (by omega : 4000000000 <= 19000000000)) ((jk8 (q4 w2 rfl) (t4 w3 rfl)).mono (by omega : 4000000000 + 4000000000 + 1 <= 19000000000)); rw [frac_fc, frac_fc, hM w2 w3 rfl rfl] at h; rw [show fc u = sideC (some u) from rfl, e4] at h; exact h
  rw [e5, e6] at kM; simp only [bB, bdC, e4, e5, e6, List.cons_append, List.nil_append, Option.isSome_some, frac, ints, fc] at kb1 kb2 kb3 kL' kI0 kS0 kA kC1 kC2 kM; clear s1 s2 s3 s5 y1 y2 y3 kR1 kR2 kR3 kR5 kL g2 q2 t2 v2 m1 m2 m3; generalize (dig (((0 : Int) : Rat).num.natAbs)).map ic = o1 at *; generalize (dig ((((0 : Int) : Rat).den : Int).natAbs)).map ic = o2 at *; rcases i2 : hi2.isSome with _ | _
  ·rw [i2] at kb2; refine jac good _ _ [.tmp 6] Tryz.func4 rfl rfl (by decide +kernel) rfl ?_; unfold Evid.iv Evid.c at *; simp only [go_sem]; refine ja1 k0 (by decide) ?_; simp only [go_sem]; refine ja1 kF (by decide) ?_; simp only [wc, wn, nz, hk, List.length_map, go_sem]; refine ja1 kb1 (by decide) ?_; simp only [hk, go_sem]; refine jay (by decide +kernel) ?_; simp only [hk0, hkn, hall, htk, hdk, Nat.sub_zero, List.length_map, go_sem]; refine ja4 kb2 (by decide) ?_; simp only [go_sem]; refine jay (by decide +kernel) ?_; simp only [hk0, hkn, hall, htk, hdk, Nat.sub_zero, List.length_map, Int.le_refl, go_sem]; refine ja4 kb3 (by decide) ?_; simp only [go_sem]; refine ja1 kL' (by decide) ?_; simp only [go_sem]; refine ja1 kA (by decide) ?_; simp only [go_sem]; refine ja1 kM (by decide) ?_; simp only [go_sem]; refine jau 31 (by decide +kernel) ?_; simp only [go_sem]; refine ja4 kI0 (by decide) ?_; simp only [go_sem]; refine ja4 kS0 (by decide) ?_; simp only [go_sem]; refine ja4 kC1 (by decide) ?_; simp only [dC1, go_sem]; refine ja4 kC2 (by decide) ?_; simp only [dC1, dC2, go_sem]
  ·rcases i3 : hi3.isSome with _ | _
   ·rw [i2] at kb2; rw [i3] at kb3; refine jac good _ _ [.tmp 6] Tryz.func4 rfl rfl (by decide +kernel) rfl ?_; unfold Evid.iv Evid.c at *; simp only [go_sem]; refine ja1 k0 (by decide) ?_; simp only [go_sem]; refine ja1 kF (by decide) ?_; simp only [wc, wn, nz, hk, List.length_map, go_sem]; refine ja1 kb1 (by decide) ?_; simp only [hk, go_sem]; refine jay (by decide +kernel) ?_; simp only [hk0, hkn, hall, htk, hdk, Nat.sub_zero, List.length_map, go_sem]; refine ja4 kb2 (by decide) ?_; simp only [go_sem]; refine jay (by decide +kernel) ?_; simp only [hk0, hkn, hall, htk, hdk, Nat.sub_zero, List.length_map, Int.le_refl, go_sem]; refine ja4 kb3 (by decide) ?_; simp only [go_sem]; refine ja1 kL' (by decide) ?_; simp only [go_sem]; refine ja1 kA (by decide) ?_; simp only [go_sem]; refine ja1 kM (by decide) ?_; simp only [go_sem]; refine jau 31 (by decide +kernel) ?_; simp only [go_sem]; refine ja4 kI0 (by decide) ?_; simp only [go_sem]; refine ja4 kS0 (by decide) ?_; simp only [go_sem]; refine ja4 kC1 (by decide) ?_; simp only [dC1, go_sem]; refine ja4 kC2 (by decide) ?_; simp only [dC1, dC2, go_sem]
   ·rw [i2] at kb2; rw [i3] at kb3; obtain ⟨i1, n, dn, kn⟩ := hlast _ _ i2 i3 ⟨rfl, rfl⟩; rw [i1] at kb1; refine jac good _ _ [.tmp 6] Tryz.func4 rfl rfl (by decide +kernel) rfl ?_; unfold Evid.iv Evid.c at *; simp only [go_sem]; refine ja1 k0 (by decide) ?_; simp only [go_sem]; refine ja1 kF (by decide) ?_; simp only [wc, wn, nz, hk, List.length_map, go_sem]; refine ja1 kb1 (by decide) ?_; simp only [hk, go_sem]; refine jay (by decide +kernel) ?_; simp only [hk0, hkn, hall, htk, hdk, Nat.sub_zero, List.length_map, go_sem]; refine ja4 kb2 (by decide) ?_; simp only [go_sem]; refine jay (by decide +kernel) ?_; simp only [hk0, hkn, hall, htk, hdk, Nat.sub_zero, List.length_map, Int.le_refl, go_sem]; refine ja4 kb3 (by decide) ?_; simp only [go_sem]; refine ja1 kL' (by decide) ?_; simp only [go_sem]; refine ja1 kA (by decide) ?_; simp only [go_sem]; refine ja1 kM (by decide) ?_; simp only [go_sem]; refine jau 31 (by decide +kernel) ?_; simp only [go_sem]; refine ja4 kI0 (by decide) ?_; simp only [go_sem]; refine ja4 kS0 (by decide) ?_; simp only [go_sem]; refine ja4 kC1 (by decide) ?_; simp only [dC1, go_sem]; refine ja4 kC2 (by decide) ?_; simp only [dC1, dC2, go_sem]; refine ja1 kn (by decide) ?_; simp only [dn, go_sem]
end
end Go.Proofs.YtfahloobpegieaaGreat
namespace Go.Abs
section
open Go.RowKit (Below)
def tileB (G : Ctx) : Nat -> List (Nat × TypeId) -> Nat -> Bool
 | k, [], n => k == n
 | k, (o, t) :: r, n => o == k && tileB G (k + (G.ti t).size) r n
def opens (G : Ctx) : Nat -> TypeId -> Bool
 | 0, _ => false
 | n + 1, t => (G.ti t).size != 0 && match (G.ti t).kind with
  | .it _ | .bl | .str => (G.ti t).size == 1
  | .sl e => (G.ti t).size == 1 && opens G n e
  | .st fs => tileB G 0 fs (G.ti t).size && fs.all fun p => opens G n p.2
  | _ => false
def Fits (G : Ctx) : Nat -> TypeId -> List IV -> Prop
 | 0, _, _ => False
 | n + 1, t, xs => match (G.ti t).kind with
  | .it k => ∃ i, xs = [.sc (.int k i)] /\ (Lit.int k i).wf = true
  | .bl => ∃ b, xs = [.sc (.bool b)]
  | .str => ∃ s : ByteArray, xs = [.sc (.string s)] /\ s.size <= maxLen
  | .sl e => ∃ es, xs = [.sl es] /\ es.length <= maxLen /\ ∀ c ∈ es, Fits G n e c
  | .st fs => xs.length = (G.ti t).size /\ ∀ p ∈ fs, Fits G n p.2 ((xs.drop p.1).take (G.ti p.2).size)
  | _ => False
theorem jmw {α : Type} {R : Nat -> α -> Prop} : ∀ n, (∀ i, i < n -> ∃ x, R i x) -> ∃ l : List α, l.length = n /\ ∀ i x, l[i]? = some x -> R i x
 | 0, _ => ⟨[], rfl, fun i x h => by simp at h⟩
 | n + 1, h => by
  obtain ⟨l, hl, hR⟩ := jmw n fun i hi => h i (by omega); obtain ⟨x, hx⟩ := h n (by omega); refine ⟨l ++ [x], by simp [hl], fun i y hy => ?_⟩; rcases Nat.lt_or_ge i l.length with hi | hi
  ·rw [List.getElem?_append_left hi] at hy; exact hR i y hy
  ·rw [List.getElem?_append_right hi] at hy; have hi' : i = l.length := by
    have := (List.getElem?_eq_some_iff.1 hy).1; simp at this; omega
   subst hi'; simp at hy; subst hy; rw [hl]; exact hx
theorem RepL.append {w : World} {M : Nat -> Nat -> Prop} {xs ys : List IV} {us vs : List Value} (h : RepL w M xs us) (h' : RepL w M ys vs) : RepL w M (xs ++ ys) (us ++ vs) := by
 refine ⟨by simp [h.1, h'.1], fun k x v hx hv => ?_⟩; rcases Nat.lt_or_ge k xs.length with hk | hk
 ·rw [List.getElem?_append_left hk] at hx; rw [List.getElem?_append_left (by rw [<- h.1]; exact hk)] at hv; exact h.2 k x v hx hv
 ·rw [List.getElem?_append_right hk] at hx; rw [List.getElem?_append_right (by rw [<- h.1]; exact hk), <- h.1] at hv; exact h'.2 _ x v hx hv
section
variable {G : Ctx} {H : Type} {enc : TypeId × Value -> H} {w : World} {base : Nat} {spare : Nat -> Bool} {held : Bool}
abbrev NoM : Nat -> Nat -> Prop := fun _ _ => False
theorem jia (hG : G.Ok) {t : TypeId} (h : (G.ti t).size ≠ 0) : G.P.cellsOf t = (G.ti t).size := by
 obtain ⟨i, z, hi, hs, _⟩ := hG.info h; simp [Program.cellsOf, hi, hs]
theorem jlj (hG : G.Ok) : ∀ (n m : Nat) (t : TypeId) (cs : List Value) (x : DataW H × List MemPlace), opens G n t = true -> DataW.trod enc G.P w base spare held m t cs = some x ->
  ∃ xs, RepL w NoM xs cs /\ (∀ y ∈ xs, y.one = true) /\ xs.length = (G.ti t).size /\ Fits G n t xs
 | 0, _, _, _, _, ho, _ => by simp [opens] at ho
 | n + 1, m, t, cs, x, ho, h => by
  unfold opens at ho; simp only [Bool.and_eq_true, bne_iff_ne, ne_eq] at ho; obtain ⟨h0, ho⟩ := ho; have one : ∀ {v : Value} {y : IV}, Rep w NoM y v -> y.one = true -> Fits G (n + 1) t [y] -> (G.ti t).size = 1 -> cs = [v] ->
    ∃ xs, RepL w NoM xs cs /\ (∀ y ∈ xs, y.one = true) /\ xs.length = (G.ti t).size /\ Fits G (n + 1) t xs := by
   intro v y h1 h2 h3 h4 h5; subst h5; exact ⟨[y], RepL.cons h1 RepL.nil, by simpa using h2, h4.symm, h3⟩
  split at ho
  ·rename_i k hk; obtain ⟨i, rfl, _, hwf⟩ := DataW.trod_int (hG.it h0 hk) h; exact one (.sc _ rfl) rfl (by unfold Fits; rw [hk]; exact ⟨i, rfl, hwf⟩) (by simpa using ho) rfl
  ·rename_i hk; obtain ⟨b, rfl, rfl⟩ := DataW.trod_bool (hG.bl h0 hk) h; exact one (.sc _ rfl) rfl (by unfold Fits; rw [hk]; exact ⟨b, rfl⟩) (by simpa using ho) rfl
  ·rename_i hk; obtain ⟨s, rfl, _, hwf⟩ := DataW.trod_string (hG.str h0 hk) h; exact one (.sc _ rfl) rfl (by unfold Fits; rw [hk]; exact ⟨s, rfl, hwf⟩) (by simpa using ho) rfl
  ·rename_i e hk; simp only [Bool.and_eq_true, beq_iff_eq] at ho; obtain ⟨h1, ho⟩ := ho; rcases DataW.trod_slice (hG.sl h0 hk) h with ⟨rfl, _⟩ | ⟨a, len, cap, elems, rest, m', rfl, rfl, _, _, hlc, hcm, hel, hat, _⟩
   ·exact one (.nil _ _) rfl (by unfold Fits; rw [hk]; exact ⟨[], rfl, Nat.zero_le _, by simp⟩) h1 rfl
   ·have he0 : (G.ti e).size ≠ 0 := by
     cases n with
     | zero => simp [opens] at ho
     | succ n =>
      unfold opens at ho; simp only [Bool.and_eq_true, bne_iff_ne, ne_eq] at ho; exact ho.1
    rw [jia hG he0] at hat; have hex : ∀ i, i < len -> ∃ p : List IV × List Value, w.cells? base (a.add (i * (G.ti e).size)) (G.ti e).size = some p.2 /\ RepL w NoM p.1 p.2 /\ (∀ y ∈ p.1, y.one = true) /\ p.1.length = (G.ti e).size /\ Fits G n e p.1 := by
     intro i hi; have h3 := hat i hi; rw [List.getElem?_eq_getElem (by omega)] at h3; obtain ⟨cs', h4, h5⟩ := Option.bind_eq_some_iff.1 h3; obtain ⟨xs, h6, h7, h8, h9⟩ := jlj hG n _ e cs' _ ho h5; exact ⟨⟨xs, cs'⟩, h4, h6, h7, h8, h9⟩
    obtain ⟨l, hl, hR⟩ := jmw len hex; have hmap : ∀ (i : Nat) c, (l.map (·.1))[i]? = some c -> ∃ us, w.cells? base (a.add (i * (G.ti e).size)) (G.ti e).size = some us /\ RepL w NoM c us /\ (∀ y ∈ c, y.one = true) /\ c.length = (G.ti e).size /\ Fits G n e c := by
     intro i c hc; rw [List.getElem?_map] at hc; obtain ⟨p, hp, rfl⟩ := Option.map_eq_some_iff.1 hc; obtain ⟨h3, h4, h5, h6, h7⟩ := hR i p hp; exact ⟨p.2, h3, h4, h5, h6, h7⟩
    have hlen : (l.map (·.1)).length = len := by simpa using hl
    have hfit : Fits G (n + 1) t [.sl (l.map (·.1))] := by
     unfold Fits; rw [hk]; refine ⟨_, rfl, by omega, fun c hc => ?_⟩; obtain ⟨i, hi⟩ := List.getElem?_of_mem hc; obtain ⟨_, _, _, _, _, h7⟩ := hmap i c hi; exact h7
    refine one (y := .sl (l.map (·.1))) ?_ rfl hfit h1 rfl; by_cases hz : len = 0
    ·subst hz; have : l = [] := List.eq_nil_of_length_eq_zero hl; subst this; exact .nil _ _
    ·have hlist : ∀ i c j y, (l.map (·.1))[i]? = some c -> c[j]? = some y -> ∃ u, w.cell? (a.add (i * (G.ti e).size + j)) = some u /\ Rep w NoM y u /\ y.one = true := by
      intro i c j y hi hj; obtain ⟨us, h3, h4, h5, h6, _⟩ := hmap i c hi; have hjl := (List.getElem?_eq_some_iff.1 hj).1; obtain ⟨_, h7, h8⟩ := World.cells?_some h3; have hu : us[j]? = some (us[j]'(by omega)) := List.getElem?_eq_getElem (by omega); refine ⟨_, ?_, h4.2 j y _ hj hu, h5 y (List.mem_of_getElem? hj)⟩; have := h8 j (by omega); rw [Go.Deep.add_add] at this; rw [this, hu]
     have hsp : a = ⟨a.block, a.off, none⟩ := by
      have hg : (l.map (·.1))[0]? = some ((l.map (·.1))[0]'(by omega)) := List.getElem?_eq_getElem (by omega); obtain ⟨us, _, _, _, h6, _⟩ := hmap 0 _ hg; have hg2 : ((l.map (·.1))[0]'(by omega))[0]? = some (((l.map (·.1))[0]'(by omega))[0]'(by omega)) := List.getElem?_eq_getElem (by omega); obtain ⟨u, h3, _⟩ := hlist 0 _ 0 _ hg hg2; simp [Addr.add] at h3; have := World.cell?_spot h3; cases a; simp_all
     have hadd : ∀ k, a.add k = ⟨a.block, a.off + k, none⟩ := fun k => by
      obtain ⟨b, o, sp⟩ := a; cases hsp; unfold Addr.add; split
      ·rename_i hk0; subst hk0; rfl
      ·rfl
     have hgo : ∀ (i : Nat) c (j : Nat) y, (l.map (·.1))[i]? = some c -> c[j]? = some y -> w.cell? ⟨a.block, a.off + i * (G.ti e).size + j, none⟩ = some ((w.cell? ⟨a.block, a.off + i * (G.ti e).size + j, none⟩).getD undef) /\
       y.one = true /\ Rep w NoM y ((w.cell? ⟨a.block, a.off + i * (G.ti e).size + j, none⟩).getD undef) := by
      intro i c j y hi hj; obtain ⟨u, h3, h4, h5⟩ := hlist i c j y hi hj; rw [hadd, <- Nat.add_assoc] at h3; rw [h3]; exact ⟨rfl, h5, h4⟩
     have := Rep.sl (w := w) (M := NoM) (l.map (·.1)) (G.ti e).size a.block a.off cap (fun i j => (w.cell? ⟨a.block, a.off + i * (G.ti e).size + j, none⟩).getD undef)
      (by intro hn; rw [hn] at hlen; simp at hlen; omega)
      (fun c hc => by obtain ⟨i, hi⟩ := List.getElem?_of_mem hc; obtain ⟨_, _, _, _, h6, _⟩ := hmap i c hi; exact h6)
      (by omega)
      (fun i c j y hi hj => ⟨(hgo i c j y hi hj).2.1, (hgo i c j y hi hj).1, fun h => h⟩)
      (fun i c j y hi hj => (hgo i c j y hi hj).2.2)
     rw [hlen, <- hsp] at this; exact this
  ·rename_i fs hk; simp only [Bool.and_eq_true] at ho; obtain ⟨ht, ho⟩ := ho; obtain ⟨gs, hu, hgs⟩ := hG.st h0 hk; obtain ⟨xs, m', rfl, _, hcl, hxl, hat⟩ := DataW.trod_struct hu h; rw [jia hG h0] at hcl; have hfield : ∀ p ∈ fs, ∃ ys, RepL w NoM ys ((cs.drop p.1).take (G.ti p.2).size) /\ (∀ y ∈ ys, y.one = true) /\ ys.length = (G.ti p.2).size /\ Fits G n p.2 ys := by
    intro p hp; obtain ⟨i, hi⟩ := List.getElem?_of_mem hp; rw [<- hgs, List.getElem?_map] at hi; obtain ⟨f, hf, rfl⟩ := Option.map_eq_some_iff.1 hi; have hf' : gs[i]? = some f := by simpa using hf
    have h3 := hat i f hf'; have hil : i < gs.size := (Array.getElem?_eq_some_iff.1 hf').1; rw [List.getElem?_eq_getElem (by omega)] at h3; have hof := List.all_eq_true.1 ho _ hp; have hs0 : (G.ti f.type).size ≠ 0 := by
     cases n with
     | zero => simp [opens] at hof
     | succ n =>
      simp only [] at hof; unfold opens at hof; simp only [Bool.and_eq_true, bne_iff_ne, ne_eq] at hof; exact hof.1
    rw [jia hG hs0] at h3; exact jlj hG n _ _ _ _ hof h3
   have build : ∀ (r : List (Nat × TypeId)) (k : Nat), (∀ p ∈ r, p ∈ fs) -> tileB G k r (G.ti t).size = true -> k <= cs.length -> ∃ zs, RepL w NoM zs (cs.drop k) /\ (∀ y ∈ zs, y.one = true) /\
     ∀ p ∈ r, k <= p.1 /\ Fits G n p.2 ((zs.drop (p.1 - k)).take (G.ti p.2).size) := by
    intro r
    induction r with
    | nil =>
     intro k _ htl _; simp only [tileB, beq_iff_eq] at htl; refine ⟨[], ?_, by simp, by simp⟩; rw [List.drop_of_length_le (by omega)]; exact RepL.nil
    | cons p r ih =>
     obtain ⟨o, u⟩ := p; intro k hm htl hkl; simp only [tileB, Bool.and_eq_true, beq_iff_eq] at htl; obtain ⟨rfl, htl⟩ := htl; obtain ⟨ys, h3, h4, h5, h6⟩ := hfield (o, u) (hm _ (List.mem_cons_self ..)); have hle : o + (G.ti u).size <= cs.length := by
      have := h3.1; simp at this h5; omega
     obtain ⟨zs, h7, h8, h9⟩ := ih _ (fun p hp => hm p (List.mem_cons_of_mem _ hp)) htl hle; refine ⟨ys ++ zs, ?_, ?_, ?_⟩
     ·have := h3.append h7; rw [<- List.drop_drop, List.take_append_drop] at this; exact this
     ·intro y hy; rcases List.mem_append.1 hy with h | h
      ·exact h4 y h
      ·exact h8 y h
     ·intro p hp; rcases List.mem_cons.1 hp with rfl | hp
      ·refine ⟨Nat.le_refl _, ?_⟩; simp only [Nat.sub_self, List.drop_zero]; rw [<- h5]
       simpa using h6
      ·obtain ⟨h10, h11⟩ := h9 p hp; refine ⟨by omega, ?_⟩; rw [List.drop_append, List.drop_of_length_le (by simp at h5; omega), List.nil_append]; have e : p.1 - o - ys.length = p.1 - (o + (G.ti u).size) := by simp at h5; omega
       rw [e]; exact h11
   obtain ⟨zs, h7, h8, h9⟩ := build fs 0 (fun _ h => h) ht (Nat.zero_le _); rw [List.drop_zero] at h7; refine ⟨zs, h7, h8, by rw [h7.1, hcl], ?_⟩; unfold Fits; rw [hk]; exact ⟨by rw [h7.1, hcl], fun p hp => by simpa using (h9 p hp).2⟩
  ·cases ho
end
end
section
open Go.RowKit (Below)
open Go.ChangeShapes Go.WideShapes
def FitsA (G : Ctx) (n : Nat) (t : TypeId) (y : IV) : Prop :=
 if aggK (G.ti t).kind = true then ∃ xs, y = .agg xs /\ Fits G n t xs else Fits G n t [y]
def FitsL (G : Ctx) (n : Nat) : List TypeId -> List IV -> Prop
 | [], [] => True
 | t :: ts, y :: ys => FitsA G n t y /\ FitsL G n ts ys
 | _, _ => False
section
variable {G : Ctx} {H : Type} {enc : TypeId × Value -> H} {w : World} {base : Nat} {spare : Nat -> Bool} {held : Bool} {r : Reach} {b0 n : Nat}
theorem opens_ne {t : TypeId} (h : opens G n t = true) : (G.ti t).size ≠ 0 := by
 cases n with
 | zero => simp [opens] at h
 | succ n =>
  unfold opens at h; simp only [Bool.and_eq_true, bne_iff_ne, ne_eq] at h; exact h.1
theorem open_arg (hG : G.Ok) {t : TypeId} {v : Value} {d : DataW H} {p : List MemPlace} (ho : opens G n t = true) (hv : Value.okWide G.P w r b0 t v) (h : DataW.Trod enc G.P w base spare held t v d p) :
  ∃ y, Rep w NoM y v /\ FitsA G n t y := by
 obtain ⟨m, hm⟩ := h; have h0 := opens_ne ho; obtain ⟨xs, h1, h2, h3, h4⟩ := jlj hG n m t _ _ ho hm; have single : v.cells = #[v] -> aggK (G.ti t).kind = false -> ∃ y, Rep w NoM y v /\ FitsA G n t y := by
  intro hc hk; rw [hc] at h1; obtain ⟨hl, hr⟩ := h1
  match xs, hl with
  | [y], _ =>
   refine ⟨y, hr 0 y v rfl rfl, ?_⟩; unfold FitsA; rw [hk]; exact h4
 have ho' := ho; cases n with
 | zero => simp [opens] at ho
 | succ n =>
  unfold opens at ho'; simp only [Bool.and_eq_true] at ho'; obtain ⟨_, ho'⟩ := ho'; split at ho'
  ·rename_i k hk; obtain ⟨i, rfl⟩ := okWide_int (hG.it h0 hk) hv; exact single rfl (by rw [hk]; rfl)
  ·rename_i hk; obtain ⟨i, rfl⟩ := okWide_bool (hG.bl h0 hk) hv; exact single rfl (by rw [hk]; rfl)
  ·rename_i hk; obtain ⟨i, rfl⟩ := okWide_string (hG.str h0 hk) hv; exact single rfl (by rw [hk]; rfl)
  ·rename_i e hk; obtain ⟨a, l, c, rfl⟩ := okWide_slice (hG.sl h0 hk) hv; exact single rfl (by rw [hk]; rfl)
  ·rename_i fs hk; obtain ⟨gs, hu, _⟩ := hG.st h0 hk; obtain ⟨cs, rfl, _⟩ := okWide_struct hu hv; refine ⟨.agg xs, RepL.agg (by simpa [Value.cells] using h1) h2, ?_⟩; unfold FitsA; rw [if_pos (by rw [hk]; rfl)]; exact ⟨xs, rfl, h4⟩
  ·cases ho'
theorem jmz (hG : G.Ok) : ∀ {ts : List TypeId} {vs : List Value} {ds : List (DataW H)} {p : List MemPlace}, (∀ t ∈ ts, opens G n t = true) ->
  (∀ (j : Nat) t v, ts[j]? = some t -> vs[j]? = some v -> Value.okWide G.P w r b0 t v) -> DataW.TrodAll enc G.P w base spare held ts vs ds p -> ∃ ys, RepL w NoM ys vs /\ FitsL G n ts ys
 | [], [], [], _, _, _, _ => ⟨[], RepL.nil, trivial⟩
 | t :: ts, v :: vs, d :: ds, _, ho, hv, ⟨_, _, h1, h2, _⟩ => by
  obtain ⟨y, h3, h4⟩ := open_arg hG (ho t (List.mem_cons_self ..)) (hv 0 t v rfl rfl) h1; obtain ⟨ys, h5, h6⟩ := jmz hG (fun t ht => ho t (List.mem_cons_of_mem _ ht)) (fun j t v hj hk => hv (j + 1) t v (by simpa using hj) (by simpa using hk)) h2; exact ⟨y :: ys, RepL.cons h3 h5, h4, h6⟩
theorem jne {P : Program} (hl : laidOutB P = true) {W W' : World} (hb : Below W.heap.size W W') : ∀ {ts : List TypeId} {vs : List Value} {ds : List (DataW H)} {ps : List MemPlace},
  (∀ t ∈ ts, P.readableRec t = true /\ t < P.types.size) -> DataW.TrodAll enc P W 0 (fun _ => true) true ts vs ds ps -> (∀ x ∈ ps, x.block < W.heap.size) ->
  DataW.TrodAll enc P W' 0 (fun b => decide (b < W.heap.size)) true ts vs ds ps
 | [], [], [], _, _, h, _ => h
 | t :: ts, v :: vs, d :: ds, _, ht, ⟨p, q, h1, h2, e⟩, hlt => by
  subst e; obtain ⟨h3, h4⟩ := ht t (List.mem_cons_self ..); exact ⟨p, q, Go.RowKit.Below.trod hl h3 h4 h1 hb (fun x hx => hlt x (List.mem_append_left _ hx)),
   jne hl hb (fun t h => ht t (List.mem_cons_of_mem _ h)) h2 (fun x hx => hlt x (List.mem_append_right _ hx)), rfl⟩
theorem jj2 {P : Program} : ∀ {ts : List TypeId} {vs : List Value} {ds : List (DataW H)} {ps : List MemPlace}, DataW.TrodAll enc P w base spare held ts vs ds ps -> ds.length = ts.length
 | [], [], [], _, _ => rfl
 | _ :: _, _ :: _, _ :: _, _, ⟨_, _, _, h2, _⟩ => by simp [jj2 h2]
theorem law_calls (hG : G.Good) (hl : laidOutB G.P = true) {f : FuncId} {fn : Func} {s : ChangeSpec} {tb : TypeId} (n : Nat) (ts : List TypeId)
  (hp : fn.params.toList = ts) (hrt : fn.resultTypes.toList = [tb]) (hsz : fn.resultTypes.size = 1) (htb : G.P.underlying tb = some .bool)
  (hts : (ts.all fun t => opens G n t && G.P.readableRec t && decide (t < G.P.types.size)) = true)
  (hvars : s.vars = []) (hspec : ∀ ds : List (DataW H), ds.length = ts.length -> s.fn H ds = { results := [.lit (.bool true)], args := ds })
  (hc : ∀ ys, FitsL G n ts ys -> Ctr G.P f ys (· = .bool true)) {W : World} {args : Array Value} {ds gs : List (DataW H)} {before : List MemPlace}
  (hval : ∀ (j : Nat) t v, fn.params[j]? = some t -> args[j]? = some v -> Value.okWide G.P W .any b0 t v) (hW : DataW.Whole enc G.P fn.params.toList s.vars false W args.toList ds gs before) :
  Calls G.P f args W fun e W' => ∃ v, e = .returned v /\ s.post enc G.P fn false true false false W args v W' := by
 have hts' : ∀ t ∈ ts, opens G n t = true /\ G.P.readableRec t = true /\ t < G.P.types.size := fun t ht => by
  have := List.all_eq_true.1 hts t ht; simp only [Bool.and_eq_true, decide_eq_true_eq] at this; exact ⟨this.1.1, this.1.2, this.2⟩
 have hW0 := hW; obtain ⟨p, q, hA, hV, hpq, hfz, hnd⟩ := hW; rw [hvars] at hV; obtain ⟨rfl, rfl⟩ := trodVars_none hV; rw [hp] at hA; obtain ⟨ys, h1, h2⟩ := jmz hG.ok (fun t ht => (hts' t ht).1) (fun j t v hj hk => hval j t v (by rw [<- Array.getElem?_toList, hp]; exact hj) (by rw [<- Array.getElem?_toList]; exact hk)) hA; have hcall := hc ys h2 W NoM args.toList (fun b o h => h.elim) h1; rw [Array.toArray_toList] at hcall; refine hcall.mono fun e W' ⟨r, v, hr, he, hv, hb⟩ => ?_; subst hr; obtain rfl := Rep.sc_inv hv; refine ⟨_, he, ?_⟩; have hsp := hspec ds (jj2 hA); have hlt : ∀ x ∈ before, x.block < W.heap.size := fun x hx => hW0.lt x hx; refine ⟨ds, [], before, [], p, [], hW0, ?_, ?_, ?_, World.keptBut_mono (fun p hp => ⟨hp, ?_⟩) (hb.frame (· ∈ before)), fun h => by cases h⟩
 ·rw [hrt, hsz, List.append_nil, hsp]; exact trodAll_mk1 (Go.RowKit.shut_bool htb _)
 ·rw [List.append_nil, hsp, hp]; exact jne hl hb (fun t ht => (hts' t ht).2) hA (fun x hx => hlt x (by rw [hpq]; simpa using hx))
 ·rw [List.append_nil, hsp, hvars]; rfl
 ·rw [hpq, List.append_nil] at hp; exact .inr (.inl hp)
end
end
end Go.Abs
namespace Go.Proofs.YtfahloobpegieaaGreat
section
open Go.Abs
theorem jbj {t : TypeId} (hk : (G.ti t).kind = .it .i64) : ∀ {n : Nat} {xs : List IV}, Fits G n t xs -> ∃ i, xs = [.int i]
 | 0, _, h => h.elim
 | n + 1, xs, h => by
  unfold Fits at h; rw [hk] at h; obtain ⟨i, rfl, _⟩ := h; exact ⟨i, rfl⟩
theorem fits_bool {t : TypeId} (hk : (G.ti t).kind = .bl) : ∀ {n : Nat} {xs : List IV}, Fits G n t xs -> ∃ i, xs = [.bool i]
 | 0, _, h => h.elim
 | n + 1, xs, h => by
  unfold Fits at h; rw [hk] at h; exact h
theorem list_of {α : Type} {f : α -> List IV} : ∀ {es : List (List IV)}, (∀ c ∈ es, ∃ p, c = f p) -> ∃ l : List α, es = l.map f
 | [], _ => ⟨[], rfl⟩
 | c :: es, h => by
  obtain ⟨p, rfl⟩ := h c (List.mem_cons_self ..); obtain ⟨l, rfl⟩ := list_of fun c hc => h c (List.mem_cons_of_mem _ hc); exact ⟨p :: l, rfl⟩
theorem jf9 {α : Type} (f : α -> List IV) {t e : TypeId} (hk : (G.ti t).kind = .sl e) (hf : ∀ {n : Nat} (c : List IV), Fits G n e c -> ∃ p, c = f p) : ∀ {n : Nat} {xs : List IV}, Fits G n t xs -> ∃ l : List α, xs = [.sl (l.map f)]
 | 0, _, h => h.elim
 | n + 1, xs, h => by
  unfold Fits at h; rw [hk] at h; obtain ⟨es, rfl, _, h⟩ := h; obtain ⟨l, rfl⟩ := list_of fun c hc => hf c (h c hc); exact ⟨l, rfl⟩
theorem fitsA_struct {t : TypeId} {n : Nat} {y : IV} (hk : aggK (G.ti t).kind = true) (h : FitsA G n t y) : ∃ xs, y = .agg xs /\ Fits G n t xs := by
 unfold FitsA at h
 rwa [if_pos hk] at h
theorem jn6 {t : TypeId} {n : Nat} {y : IV} (hk : aggK (G.ti t).kind = false) (h : FitsA G n t y) : Fits G n t [y] := by
 unfold FitsA at h
 rwa [if_neg (by rw [hk]; simp)] at h
theorem of_len2 {α : Type} : ∀ {l : List α}, l.length = 2 -> ∃ x0 x1, l = [x0, x1]
 | [x0, x1], _ => ⟨x0, x1, rfl⟩
theorem of_len3 {α : Type} : ∀ {l : List α}, l.length = 3 -> ∃ x0 x1 x2, l = [x0, x1, x2]
 | [x0, x1, x2], _ => ⟨x0, x1, x2, rfl⟩
theorem of_len4 {α : Type} : ∀ {l : List α}, l.length = 4 -> ∃ x0 x1 x2 x3, l = [x0, x1, x2, x3]
 | [x0, x1, x2, x3], _ => ⟨x0, x1, x2, x3, rfl⟩
theorem ji7 {n : Nat} {t : TypeId} {ts : List TypeId} : ∀ {ys : List IV}, FitsL G n (t :: ts) ys -> ∃ y ys', ys = y :: ys' /\ FitsA G n t y /\ FitsL G n ts ys'
 | y :: ys', h => ⟨y, ys', rfl, h⟩
theorem fitsL_nil {n : Nat} : ∀ {ys : List IV}, FitsL G n [] ys -> ys = []
 | [], _ => rfl
end
end Go.Proofs.YtfahloobpegieaaGreat
