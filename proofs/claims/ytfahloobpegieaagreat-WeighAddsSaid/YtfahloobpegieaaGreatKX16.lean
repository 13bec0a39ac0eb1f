/- A part of the proof. No further condition. -/
import Derived.Test.YtfahloobpegieaaGreatKX15
import Derived.Test.YtfahloobpegieaaGreatKX14
import Derived.Test.YtfahloobpegieaaGreatKX10
set_option linter.all false
set_option maxRecDepth 100000
namespace Go.LP
section
structure Rw where
 ts : List (Nat × Rat)
 kind : Int
 val : Rat
def tsum : List (Nat × Rat) -> (Nat -> Rat) -> Rat
 | [], _ => 0
 | t :: ts, x => t.2 * x t.1 + tsum ts x
def cf : List (Nat × Rat) -> Nat -> Rat
 | [], _ => 0
 | t :: ts, k => if k = t.1 then t.2 else cf ts k
def RT : List (Nat × Rat) -> Nat -> Nat -> Prop
 | [], _, _ => True
 | t :: ts, lo, N => lo <= t.1 /\ t.1 < N /\ t.2 ≠ 0 /\ RT ts (t.1 + 1) N
theorem RT.mono : ∀ {ts : List (Nat × Rat)} {lo lo' N : Nat}, RT ts lo N -> lo' <= lo -> RT ts lo' N
 | [], _, _, _, _, _ => trivial
 | t :: ts, lo, lo', N, h, hl => ⟨Nat.le_trans hl h.1, h.2.1, h.2.2.1, h.2.2.2⟩
theorem RT.mem : ∀ {ts : List (Nat × Rat)} {lo N : Nat}, RT ts lo N -> ∀ t ∈ ts, lo <= t.1 /\ t.1 < N /\ t.2 ≠ 0
 | t :: ts, lo, N, h, u, hu => by
  rcases List.mem_cons.1 hu with rfl | hu
  ·exact ⟨h.1, h.2.1, h.2.2.1⟩
  ·have h1 := RT.mem h.2.2.2 u hu; have h2 := h.1; exact ⟨by omega, h1.2⟩
theorem cf_low : ∀ {ts : List (Nat × Rat)} {lo N k : Nat}, RT ts lo N -> k < lo -> cf ts k = 0
 | [], _, _, _, _, _ => rfl
 | t :: ts, lo, N, k, h, hk => by
  rw [cf, if_neg (by have := h.1; omega)]; exact cf_low h.2.2.2 (by have := h.1; omega)
theorem jnn : ∀ {ts : List (Nat × Rat)} {lo N : Nat} (x : Nat -> Rat), RT ts lo N -> tsum ts x = S N (fun j => cf ts j * x j)
 | [], _, N, x, _ => by
  rw [jl4 fun j _ => ?_]; rfl; simp only [cf]; grind
 | t :: ts, lo, N, x, h => by
  rw [tsum, jnn x h.2.2.2, jf2 (f := fun j => cf (t :: ts) j * x j) h.2.1, jf2 (f := fun j => cf ts j * x j) h.2.1]; have e1 : cf ts t.1 = 0 := cf_low h.2.2.2 (by omega); have e2 : cf (t :: ts) t.1 = t.2 := by rw [cf, if_pos rfl]
  rw [jdd (f := fun j => if j = t.1 then 0 else cf (t :: ts) j * x j) (g := fun j => if j = t.1 then 0 else cf ts j * x j) fun j _ => by
   by_cases e : j = t.1
   ·simp only [if_pos e]
   ·simp only [if_neg e, cf]]
  rw [e1, e2]; grind
theorem jhv : ∀ {ts : List (Nat × Rat)} {x y : Nat -> Rat}, (∀ t ∈ ts, x t.1 = y t.1) -> tsum ts x = tsum ts y
 | [], _, _, _ => rfl
 | t :: ts, x, y, h => by rw [tsum, tsum, h t (List.mem_cons_self ..), jhv fun u hu => h u (List.mem_cons_of_mem _ hu)]
theorem tsum_app : ∀ (ts us : List (Nat × Rat)) (x : Nat -> Rat), tsum (ts ++ us) x = tsum ts x + tsum us x
 | [], us, x => by simp only [List.nil_append, tsum]; grind
 | t :: ts, us, x => by rw [List.cons_append, tsum, tsum_app ts us x, tsum]; grind
def Rw.sat (w : Rw) (x : Nat -> Rat) : Prop := (w.kind ≠ 1 -> w.val <= tsum w.ts x) /\ (w.kind ≠ 0 -> tsum w.ts x <= w.val)
structure Rw.Ok (w : Rw) (N : Nat) : Prop where
 ts : RT w.ts 0 N
 kind : 0 <= w.kind /\ w.kind < 3
structure Sol (N : Nat) (ws : List Rw) (x : Nat -> Rat) : Prop where
 pos : ∀ k, k < N -> 0 <= x k
 row : ∀ w ∈ ws, w.sat x
def Dic.put (D : Dic) (w : Rw) (t : Bool) : Dic :=
 { D with
  m := D.m + 1
  own := fun i => if i = D.m then D.n + D.m else D.own i
  v := fun i => if i = D.m then (if t = true then -w.val else w.val) else D.v i
  a := fun i => if i = D.m then (fun j => if t = true then -cf w.ts j else cf w.ts j) else D.a i }
def je3 (D : Dic) (src : Nat -> Int × Bool) (row : Nat) (t : Bool) (i : Nat) : Int × Bool := if i = D.m then ((row : Int), t) else src i
def rowD (p : Dic × (Nat -> Int × Bool)) (row : Nat) (w : Rw) : Dic × (Nat -> Int × Bool) :=
 let p1 := if w.kind ≠ 0 then (p.1.put w false, je3 p.1 p.2 row false) else p
 if w.kind ≠ 1 then (p1.1.put w true, je3 p1.1 p1.2 row true) else p1
def rowsD (ws : List Rw) (p : Dic × (Nat -> Int × Bool)) : Nat -> Dic × (Nat -> Int × Bool)
 | 0 => p
 | i + 1 => match ws[i]? with
  | some w => rowD (rowsD ws p i) i w
  | none => rowsD ws p i
def dic0 (N : Nat) : Dic := ⟨0, N, fun _ => 0, fun j => j, fun _ => 0, fun _ => 0, fun _ _ => 0⟩
def src0 : Nat -> Int × Bool := fun _ => (0, false)
def jec (N : Nat) (ws : List Rw) : Dic × (Nat -> Int × Bool) := rowsD ws (dic0 N, src0) ws.length
def first (N : Nat) (ws : List Rw) (goal : List (Nat × Rat)) : Dic := { (jec N ws).1 with g := fun j => -cf goal j }
structure Mk (N : Nat) (D : Dic) (P : (Nat -> Rat) -> Prop) : Prop where
 n : D.n = N
 own : ∀ i, i < D.m -> D.own i = N + i
 free : ∀ j, D.free j = j
 sat : ∀ x, P x ↔ ∀ i, i < D.m -> S N (fun j => D.a i j * x j) <= D.v i
theorem Mk.congr {N : Nat} {D : Dic} {P Q : (Nat -> Rat) -> Prop} (h : Mk N D P) (hq : ∀ x, Q x ↔ P x) : Mk N D Q := ⟨h.n, h.own, h.free, fun x => (hq x).trans (h.sat x)⟩
theorem mk0 (N : Nat) : Mk N (dic0 N) (fun _ => True) := ⟨rfl, fun i hi => absurd hi (Nat.not_lt_zero _), fun _ => rfl, fun x => ⟨fun _ i hi => absurd hi (Nat.not_lt_zero _), fun _ => trivial⟩⟩
theorem S_negc (f g : Nat -> Rat) (n : Nat) : S n (fun j => -f j * g j) = -S n (fun j => f j * g j) := by
 rw [<- S_neg]; exact jdd fun j _ => by grind
theorem Mk.put {N : Nat} {D : Dic} {P : (Nat -> Rat) -> Prop} (h : Mk N D P) (w : Rw) (hw : RT w.ts 0 N) (t : Bool) : Mk N (D.put w t) (fun x => P x /\ (if t = true then w.val <= tsum w.ts x else tsum w.ts x <= w.val)) where
 n := h.n
 own i hi := by
  show (if i = D.m then D.n + D.m else D.own i) = _; by_cases e : i = D.m
  ·rw [if_pos e, h.n, e]
  ·rw [if_neg e]; exact h.own i (by have : i < D.m + 1 := hi; omega)
 free := h.free
 sat x := by
  have key : (if t = true then w.val <= tsum w.ts x else tsum w.ts x <= w.val) ↔ S N (fun j => (D.put w t).a D.m j * x j) <= (D.put w t).v D.m := by
   have e1 : (D.put w t).a D.m = fun j => if t = true then -cf w.ts j else cf w.ts j := if_pos rfl
   have e2 : (D.put w t).v D.m = if t = true then -w.val else w.val := if_pos rfl
   rw [e1, e2, jnn x hw]; cases t
   ·simp only [Bool.false_eq_true, if_false]
   ·simp only [if_true]; rw [S_negc]; constructor <;> intro h <;> grind
  rw [key, h.sat x]; constructor
  ·rintro ⟨h1, h2⟩ i hi; by_cases e : i = D.m
   ·subst e; exact h2
   ·have e1 : (D.put w t).a i = D.a i := if_neg e; have e2 : (D.put w t).v i = D.v i := if_neg e; rw [e1, e2]; exact h1 i (by have : i < D.m + 1 := hi; omega)
  ·intro h1; refine ⟨fun i hi => ?_, h1 D.m (Nat.lt_succ_self _)⟩; have e1 : (D.put w t).a i = D.a i := if_neg (by omega); have e2 : (D.put w t).v i = D.v i := if_neg (by omega); have := h1 i (Nat.lt_succ_of_lt hi)
   rwa [e1, e2] at this
theorem mk_row {N : Nat} {p : Dic × (Nat -> Int × Bool)} {P : (Nat -> Rat) -> Prop} (h : Mk N p.1 P) (row : Nat) (w : Rw) (hw : RT w.ts 0 N) : Mk N (rowD p row w).1 (fun x => P x /\ w.sat x) := by
 unfold rowD Rw.sat; dsimp only; by_cases h0 : w.kind = 0
 ·have h1 : w.kind ≠ 1 := by omega
  rw [if_neg (show ¬ (w.kind ≠ 0) from fun h => h h0), if_pos h1]; refine (h.put w hw true).congr fun x => ?_; rw [if_pos rfl]; constructor
  ·rintro ⟨a, b, c⟩; exact ⟨a, b h1⟩
  ·rintro ⟨a, b⟩; exact ⟨a, fun _ => b, fun h => absurd h0 h⟩
 ·rw [if_pos h0]; by_cases h1 : w.kind = 1
  ·rw [if_neg (show ¬ (w.kind ≠ 1) from fun h => h h1)]; refine (h.put w hw false).congr fun x => ?_; rw [if_neg (by decide)]; constructor
   ·rintro ⟨a, b, c⟩; exact ⟨a, c h0⟩
   ·rintro ⟨a, b⟩; exact ⟨a, fun h => absurd h1 h, fun _ => b⟩
  ·rw [if_pos h1]; refine ((h.put w hw false).put w hw true).congr fun x => ?_; rw [if_neg (by decide), if_pos rfl]; constructor
   ·rintro ⟨a, b, c⟩; exact ⟨⟨a, c h0⟩, b h1⟩
   ·rintro ⟨⟨a, b⟩, c⟩; exact ⟨a, fun _ => c, fun _ => b⟩
theorem mk_rows {N : Nat} {ws : List Rw} (hw : ∀ w ∈ ws, w.Ok N) : ∀ i, i <= ws.length -> Mk N (rowsD ws (dic0 N, src0) i).1 (fun x => ∀ w ∈ ws.take i, w.sat x)
 | 0, _ => (mk0 N).congr fun x => ⟨fun _ => trivial, fun _ w hw => by rw [List.take_zero] at hw; cases hw⟩
 | i + 1, hi => by
  have hlt : i < ws.length := hi; have hg : ws[i]? = some ws[i] := List.getElem?_eq_getElem hlt; rw [rowsD, hg]; refine (mk_row (mk_rows hw i (by omega)) i ws[i] (hw _ (List.getElem_mem hlt)).ts).congr fun x => ?_; rw [List.take_add_one, hg]; simp only [Option.toList_some, List.mem_append, List.mem_singleton]; constructor
  ·intro h; exact ⟨fun w hw => h w (.inl hw), h _ (.inr rfl)⟩
  ·rintro ⟨h1, h2⟩ w (hw | rfl)
   ·exact h1 w hw
   ·exact h2
section
variable {N : Nat} {ws : List Rw} {goal : List (Nat × Rat)} {E : Dic}
theorem mk_first (hw : ∀ w ∈ ws, w.Ok N) : Mk N (first N ws goal) (fun x => ∀ w ∈ ws, w.sat x) := by
 have h := mk_rows hw ws.length (Nat.le_refl _); rw [List.take_length] at h; exact ⟨h.n, h.own, h.free, h.sat⟩
theorem Mk.ok {D : Dic} {P : (Nat -> Rat) -> Prop} (h : Mk N D P) : D.Ok where
 own i i' hi hi' e := by rw [h.own i hi, h.own i' hi'] at e; omega
 free j j' hj hj' e := by rw [h.free, h.free] at e; exact e
 apart i j hi hj := by rw [h.own i hi, h.free]; have := h.n; omega
def ext (D : Dic) (N : Nat) (x : Nat -> Rat) (k : Nat) : Rat := if k < N then x k else D.v (k - N) - S N (fun j => D.a (k - N) j * x j)
theorem jlw {D : Dic} {x : Nat -> Rat} {k : Nat} (h : k < N) : ext D N x k = x k := if_pos h
theorem Mk.ext_sat {D : Dic} {P : (Nat -> Rat) -> Prop} (h : Mk N D P) (x : Nat -> Rat) : D.Sat (ext D N x) := fun i hi => by
 unfold Dic.row; rw [h.own i hi, h.n, jdd (f := fun j => D.a i j * ext D N x (D.free j)) (g := fun j => D.a i j * x j) fun j hj => by rw [h.free, jlw hj]]; unfold ext; rw [if_neg (by omega), show N + i - N = i by omega]; grind
theorem Mk.sat_iff {D : Dic} {P : (Nat -> Rat) -> Prop} (h : Mk N D P) {y : Nat -> Rat} (hy : D.Sat y) (hp : ∀ k, 0 <= y k) : P y := (h.sat y).2 fun i hi => by
 have h1 := hy i hi; unfold Dic.row at h1; rw [h.own i hi, h.n, jdd (f := fun j => D.a i j * y (D.free j)) (g := fun j => D.a i j * y j) fun j hj => by rw [h.free]] at h1; have := hp (N + i); grind
theorem Mk.ext_nonneg {D : Dic} {P : (Nat -> Rat) -> Prop} (h : Mk N D P) {x : Nat -> Rat} (hx : P x) (hp : ∀ k, k < N -> 0 <= x k) : ∀ k, k < N + D.m -> 0 <= ext D N x k := fun k hk => by
 by_cases e : k < N
 ·rw [jlw e]; exact hp k e
 ·unfold ext; rw [if_neg e]; have := (h.sat x).1 hx (k - N) (by omega); grind
theorem own_lt {D : Dic} {P : (Nat -> Rat) -> Prop} (h : Mk N D P) (k : Nat) : (Own D k \/ Free D k) ↔ k < N + D.m := by
 constructor
 ·rintro (⟨i, hi, rfl⟩ | ⟨j, hj, rfl⟩)
  ·rw [h.own i hi]; omega
  ·rw [h.free, <- h.n]; omega
 ·intro hk; by_cases e : k < N
  ·exact .inr ⟨k, by rw [h.n]; exact e, h.free k⟩
  ·exact .inl ⟨k - N, by omega, by rw [h.own _ (by omega)]; omega⟩
theorem jjr (hw : ∀ w ∈ ws, w.Ok N) (hg : RT goal 0 N) (y : Nat -> Rat) : (first N ws goal).lin y = -tsum goal y := by
 have h := mk_first (goal := goal) hw; unfold Dic.lin; rw [h.n, jnn y hg, jdd (f := fun j => (first N ws goal).g j * y ((first N ws goal).free j)) (g := fun j => -cf goal j * y j) fun j hj => by rw [h.free]; rfl, S_negc]
theorem pt_nn (hE : E.Ok) (hv : ∀ i, i < E.m -> 0 <= E.v i) (k : Nat) : 0 <= E.pt k := jg4 hE (K := k + 1) (fun i hi _ => hv i hi) (Nat.lt_succ_self _)
theorem final_best (hw : ∀ w ∈ ws, w.Ok N) (hg : RT goal 0 N) (hE : E.Ok) (hq : Eqv (first N ws goal) E) (hv : SameV (first N ws goal) E) (h1 : ∀ i, i < E.m -> 0 <= E.v i) (h2 : ∀ j, j < E.n -> E.g j <= 0) :
  Sol N ws E.pt /\ ∀ x, Sol N ws x -> tsum goal E.pt <= tsum goal x := by
 have h := mk_first (goal := goal) hw; have hp := pt_nn hE h1; have hs : (first N ws goal).Sat E.pt := (hq.sat _).2 (jg3 hE); refine ⟨⟨fun k _ => hp k, h.sat_iff hs hp⟩, fun x hx => ?_⟩; have hy := h.ext_sat x; have hn := h.ext_nonneg hx.row hx.pos; obtain ⟨c, hc⟩ := hq.lin; have e1 := hc _ hy; have e2 := hc _ hs; rw [jjr hw hg] at e1 e2; rw [pt_lin hE] at e2; have e3 : tsum goal (ext (first N ws goal) N x) = tsum goal x := jhv fun t ht => jlw (hg.mem t ht).2.1; have e4 : E.lin (ext (first N ws goal) N x) <= 0 := by
  have : 0 <= S E.n (fun j => -(E.g j * ext (first N ws goal) N x (E.free j))) := jhp fun j hj => by
   have a1 := h2 j hj; have a2 : 0 <= ext (first N ws goal) N x (E.free j) := hn _ ((own_lt h _).1 ((hv _).2 (.inr ⟨j, hj, rfl⟩))); exact jos a1 a2
  rw [S_neg] at this; unfold Dic.lin; grind
 rw [e3] at e1; grind
theorem final_none (hw : ∀ w ∈ ws, w.Ok N) (hq : Eqv (first N ws goal) E) (hv : SameV (first N ws goal) E) {r : Nat} (hr : r < E.m) (h1 : E.v r < 0) (h2 : ∀ j, j < E.n -> 0 <= E.a r j) : ∀ x, ¬ Sol N ws x := fun x hx => by
 have h := mk_first (goal := goal) hw; have hy := (hq.sat _).1 (h.ext_sat x) r hr; have hn := h.ext_nonneg hx.row hx.pos; unfold Dic.row at hy; have a1 : 0 <= ext (first N ws goal) N x (E.own r) := hn _ ((own_lt h _).1 ((hv _).2 (.inl ⟨r, hr, rfl⟩))); have a2 : 0 <= S E.n (fun j => E.a r j * ext (first N ws goal) N x (E.free j)) := jhp fun j hj => Rat.mul_nonneg (h2 j hj) (hn _ ((own_lt h _).1 ((hv _).2 (.inr ⟨j, hj, rfl⟩)))); grind
theorem final_free (hw : ∀ w ∈ ws, w.Ok N) (hg : RT goal 0 N) (hE : E.Ok) (hq : Eqv (first N ws goal) E) (hv : SameV (first N ws goal) E) {s : Nat} (hs : s < E.n) (h1 : 0 < E.g s) (h2 : ∀ i, i < E.m -> E.a i s <= 0) {x : Nat -> Rat} (hx : Sol N ws x) :
  ∀ c : Rat, ∃ y, Sol N ws y /\ tsum goal y < c := fun c => by
 have h := mk_first (goal := goal) hw; have hy := h.ext_sat x; have hn := h.ext_nonneg hx.row hx.pos; have hd : ∀ k, 0 <= E.dir s k := fun k => jgp hE (K := k + 1) hs (fun i hi _ => h2 i hi) (Nat.lt_succ_self _); obtain ⟨c0, hc⟩ := hq.lin; have key : ∀ t : Rat, 0 <= t -> Sol N ws (fun k => ext (first N ws goal) N x k + t * E.dir s k) /\ tsum goal (fun k => ext (first N ws goal) N x k + t * E.dir s k) = tsum goal x - t * E.g s := fun t ht => by
  have e0 : E.Sat (fun k => ext (first N ws goal) N x k + t * E.dir s k) := ji9 hE hs ((hq.sat _).1 hy) t; have e1 := (hq.sat _).2 e0; refine ⟨⟨fun k hk => ?_, ?_⟩, ?_⟩
  ·have a1 := hn k (by omega); have a2 := Rat.mul_nonneg ht (hd k); show 0 <= ext (first N ws goal) N x k + t * E.dir s k; grind
  ·refine (h.sat _).2 fun i hi => ?_; have b1 := e1 i hi; unfold Dic.row at b1; rw [h.own i hi, h.n] at b1; rw [jdd (f := fun j => (first N ws goal).a i j * (fun k => ext (first N ws goal) N x k + t * E.dir s k) ((first N ws goal).free j)) (g := fun j => (first N ws goal).a i j * (fun k => ext (first N ws goal) N x k + t * E.dir s k) j) fun j hj => by rw [h.free]] at b1; have a1 := hn (N + i) (by omega); have a2 := Rat.mul_nonneg ht (hd (N + i)); dsimp only at b1 ⊢; grind
  ·have c1 := hc _ e1; have c2 := hc _ hy; rw [jjr hw hg] at c1 c2; rw [ji6, jlx hE hs] at c1; have e3 : tsum goal (ext (first N ws goal) N x) = tsum goal x := jhv fun t ht => jlw (hg.mem t ht).2.1; rw [e3] at c2; grind
 by_cases hlt : tsum goal x < c
 ·exact ⟨x, hx, hlt⟩
 ·have hgi : E.g s * (E.g s)⁻¹ = 1 := Rat.mul_inv_cancel _ (by grind); have hi : 0 <= (E.g s)⁻¹ := Rat.le_of_lt (Rat.inv_pos.2 h1); have ht : 0 <= (tsum goal x - c + 1) * (E.g s)⁻¹ := Rat.mul_nonneg (by grind) hi; obtain ⟨k1, k2⟩ := key _ ht; refine ⟨_, k1, ?_⟩; rw [k2]; have : (tsum goal x - c + 1) * (E.g s)⁻¹ * E.g s = tsum goal x - c + 1 := by
   rw [Rat.mul_assoc, Rat.mul_comm _ (E.g s), hgi]; grind
  rw [this]; grind
theorem final_nil (hw : ∀ w ∈ ws, w.Ok N) (hE : E.Ok) (hq : Eqv (first N ws []) E) {s : Nat} (hs : s < E.n) : E.g s = 0 := by
 obtain ⟨c, hc⟩ := hq.lin; have e1 := hc _ ((hq.sat _).2 (jg3 hE)); have e2 := hc _ ((hq.sat _).2 (ji9 hE hs (jg3 hE) 1)); have hr : RT [] 0 N := trivial; rw [jjr hw hr] at e1 e2; rw [ji6, jlx hE hs] at e2; simp only [tsum] at e1 e2; grind
end
end
section
theorem Ov_neg {B q : Nat} {x : Rat} (h : Ov B q x) : Ov B q (-x) := by
 obtain ⟨z, h1, h2⟩ := h; exact ⟨-z, by rw [Rat.intCast_neg, <- h1]; grind, by rw [Int.natAbs_neg]; exact h2⟩
structure OvRw (B q : Nat) (w : Rw) : Prop where
 val : Ov B q w.val
 ts : ∀ t ∈ w.ts, Ov B q t.2
theorem Ov_cf {B q : Nat} : ∀ {ts : List (Nat × Rat)}, (∀ t ∈ ts, Ov B q t.2) -> ∀ k, Ov B q (cf ts k)
 | [], _, k => Ov_zero
 | t :: ts, h, k => by
  rw [cf]; split
  ·exact h t (List.mem_cons_self ..)
  ·exact Ov_cf (fun u hu => h u (List.mem_cons_of_mem _ hu)) k
def OvD (B q : Nat) (D : Dic) : Prop := ∀ i, i < D.m -> Ov B q (D.v i) /\ ∀ j, Ov B q (D.a i j)
theorem OvD.put {B q : Nat} {D : Dic} (h : OvD B q D) {w : Rw} (hw : OvRw B q w) (t : Bool) : OvD B q (D.put w t) := fun i hi => by
 by_cases e : i = D.m
 ·have e1 : (D.put w t).a i = fun j => if t = true then -cf w.ts j else cf w.ts j := if_pos e
  have e2 : (D.put w t).v i = if t = true then -w.val else w.val := if_pos e
  rw [e1, e2]; cases t
  ·exact ⟨hw.val, fun j => Ov_cf hw.ts j⟩
  ·exact ⟨Ov_neg hw.val, fun j => Ov_neg (Ov_cf hw.ts j)⟩
 ·have e1 : (D.put w t).a i = D.a i := if_neg e; have e2 : (D.put w t).v i = D.v i := if_neg e; rw [e1, e2]; exact h i (by have : i < D.m + 1 := hi; omega)
theorem OvD.rowD {B q : Nat} {p : Dic × (Nat -> Int × Bool)} (h : OvD B q p.1) {w : Rw} (hw : OvRw B q w) (row : Nat) : OvD B q (rowD p row w).1 := by
 unfold Go.LP.rowD; dsimp only; by_cases h0 : w.kind ≠ 0
 ·rw [if_pos h0]; by_cases h1 : w.kind ≠ 1
  ·rw [if_pos h1]; exact (h.put hw false).put hw true
  ·rw [if_neg h1]; exact h.put hw false
 ·rw [if_neg h0]; by_cases h1 : w.kind ≠ 1
  ·rw [if_pos h1]; exact h.put hw true
  ·rw [if_neg h1]; exact h
theorem OvD.rows {B q : Nat} {N : Nat} {ws : List Rw} (hw : ∀ w ∈ ws, OvRw B q w) : ∀ i, OvD B q (rowsD ws (dic0 N, src0) i).1
 | 0 => fun i hi => absurd hi (Nat.not_lt_zero _)
 | i + 1 => by
  rw [rowsD]; split
  ·rename_i w hg; exact (OvD.rows hw i).rowD (hw w (List.mem_of_getElem? hg)) i
  ·exact OvD.rows hw i
theorem small_first {B q N : Nat} {ws : List Rw} {goal : List (Nat × Rat)} (q0 : 0 < q) (hq : q <= B) (hw : ∀ w ∈ ws, OvRw B q w) (hg : ∀ t ∈ goal, Ov B q t.2) : Small B q (first N ws goal) where
 q0 := q0
 qB := hq
 v i hi := (OvD.rows hw ws.length i hi).1
 g j _ := Ov_neg (Ov_cf hg j)
 a i j hi _ := (OvD.rows hw ws.length i hi).2 j
structure Src (p : Dic × (Nat -> Int × Bool)) (R : Nat) : Prop where
 row : ∀ i, i < p.1.m -> 0 <= (p.2 i).1 /\ (p.2 i).1 < (R : Int)
theorem Src.put {p : Dic × (Nat -> Int × Bool)} {R : Nat} (h : Src p R) (w : Rw) (row : Nat) (t : Bool) (hr : row < R) : Src (p.1.put w t, je3 p.1 p.2 row t) R where
 row i hi := by
  dsimp only [je3]; by_cases e : i = p.1.m
  ·rw [if_pos e]; dsimp only; omega
  ·rw [if_neg e]; exact h.row i (by have : i < p.1.m + 1 := hi; omega)
theorem Src.mono {p : Dic × (Nat -> Int × Bool)} {R R' : Nat} (h : Src p R) (hR : R <= R') : Src p R' := ⟨fun i hi => by have := h.row i hi; omega⟩
theorem Src.rowD {p : Dic × (Nat -> Int × Bool)} {R : Nat} (h : Src p R) (w : Rw) (row : Nat) (hr : row < R) : Src (rowD p row w) R := by
 unfold Go.LP.rowD; dsimp only; by_cases h0 : w.kind ≠ 0
 ·rw [if_pos h0]; by_cases h1 : w.kind ≠ 1
  ·rw [if_pos h1]; exact (h.put w row false hr).put w row true hr
  ·rw [if_neg h1]; exact h.put w row false hr
 ·rw [if_neg h0]; by_cases h1 : w.kind ≠ 1
  ·rw [if_pos h1]; exact h.put w row true hr
  ·rw [if_neg h1]; exact h
theorem Src.rows {N : Nat} {ws : List Rw} : ∀ i, Src (rowsD ws (dic0 N, src0) i) i
 | 0 => ⟨fun i hi => absurd hi (Nat.not_lt_zero _)⟩
 | i + 1 => by
  rw [rowsD]; split
  ·exact ((Src.rows i).mono (by omega)).rowD _ i (by omega)
  ·exact (Src.rows i).mono (by omega)
theorem m_row (p : Dic × (Nat -> Int × Bool)) (row : Nat) (w : Rw) : (rowD p row w).1.m <= p.1.m + 2 := by
 unfold rowD; dsimp only; by_cases h0 : w.kind ≠ 0
 ·rw [if_pos h0]; by_cases h1 : w.kind ≠ 1
  ·rw [if_pos h1]; exact Nat.le_refl _
  ·rw [if_neg h1]; exact Nat.le_succ _
 ·rw [if_neg h0]; by_cases h1 : w.kind ≠ 1
  ·rw [if_pos h1]; exact Nat.le_succ _
  ·rw [if_neg h1]; exact Nat.le_add_right _ _
theorem m_rows {ws : List Rw} {p : Dic × (Nat -> Int × Bool)} : ∀ i, (rowsD ws p i).1.m <= p.1.m + 2 * i
 | 0 => Nat.le_refl _
 | i + 1 => by
  have ih := m_rows (ws := ws) (p := p) i; rw [rowsD]; split
  ·have := m_row (rowsD ws p i) i; exact Nat.le_trans (this _) (by omega)
  ·omega
section
variable {N : Nat} {ws ws' : List Rw} {g : List (Nat × Rat)} {v u : Rat}
structure IsMin (N : Nat) (ws : List Rw) (g : List (Nat × Rat)) (v : Rat) : Prop where
 at' : ∃ x, Sol N ws x /\ tsum g x = v
 le : ∀ x, Sol N ws x -> v <= tsum g x
def NoMin (N : Nat) (ws : List Rw) (g : List (Nat × Rat)) : Prop := (∃ x, Sol N ws x) /\ ∀ c : Rat, ∃ x, Sol N ws x /\ tsum g x < c
theorem IsMin.not (h : IsMin N ws g v) (h' : NoMin N ws g) : False := by
 obtain ⟨x, hx, hl⟩ := h'.2 v; have := h.le x hx; grind
theorem Sol.sub {x : Nat -> Rat} (h : Sol N ws' x) (hs : ∀ w ∈ ws, w ∈ ws') : Sol N ws x := ⟨h.pos, fun w hw => h.row w (hs w hw)⟩
theorem IsMin.sub (h : IsMin N ws g v) (h' : IsMin N ws' g u) (hs : ∀ w ∈ ws, w ∈ ws') : v <= u := by
 obtain ⟨x, hx, rfl⟩ := h'.at'; exact h.le x (hx.sub hs)
theorem NoMin.sub (h : NoMin N ws' g) (hs : ∀ w ∈ ws, w ∈ ws') : NoMin N ws g :=
 ⟨h.1.imp fun _ hx => hx.sub hs, fun c => (h.2 c).imp fun _ hx => ⟨hx.1.sub hs, hx.2⟩⟩
theorem tsum_nonneg : ∀ {ts : List (Nat × Rat)} {lo N : Nat} {x : Nat -> Rat}, RT ts lo N -> (∀ t ∈ ts, 0 <= t.2) -> (∀ k, k < N -> 0 <= x k) -> 0 <= tsum ts x
 | [], _, _, _, _, _, _ => by simp only [tsum]; grind
 | t :: ts, lo, N, x, h, hc, hx => by
  rw [tsum]; have h1 := Rat.mul_nonneg (hc t (List.mem_cons_self ..)) (hx t.1 h.2.1); have h2 := tsum_nonneg h.2.2.2 (fun u hu => hc u (List.mem_cons_of_mem _ hu)) hx; grind
end
end
end Go.LP
namespace Go.Proofs.YtfahloobpegieaaGreat
section
open Go.Abs
open Go.LP (Rw RT Ov OvRw tsum)
def sgnF (fr : Int) (y : Move) : Int := if y.fr = fr then -1 else if y.to = fr then 1 else 0
def jag (M : Nat) (fr : Int) (mat : Nat) (ms : List Move) : Nat -> List (Nat × Rat)
 | 0 => []
 | i + 1 => match ms[i]? with
  | some y => if sgnF fr y = 0 then jag M fr mat ms i else jag M fr mat ms i ++ [(i * M + mat, ((sgnF fr y : Int) : Rat))]
  | none => jag M fr mat ms i
def coF (b own more : Int) (k : Nat) : Int := if (k : Int) = own then b + more else b
def sumT (M mv : Nat) (b own more : Int) : Nat -> List (Nat × Rat)
 | 0 => []
 | k + 1 => if coF b own more k = 0 then sumT M mv b own more k else sumT M mv b own more k ++ [(mv * M + k, ((coF b own more k : Int) : Rat))]
def jea (M : Nat) (ms : List Move) (mv : Nat) (x : Move) : Nat -> List Rw
 | 0 => []
 | mat + 1 => jea M ms mv x mat ++ [⟨jag M x.fr mat ms (mv + 1), if x.all = true then 2 else 0, 0⟩]
def jel (e : Evid) (M mv : Nat) (x : Move) : List Rw :=
 if x.scale = -1 then [] else match ivlF e.certs e.recalls x.scale x.reading x.day with
  | some (lo, hi) => [⟨sumT M mv 1 (-1) 0 M, 0, lo⟩, ⟨sumT M mv 1 (-1) 0 M, 1, hi⟩]
  | none => []
def pur1 (M mv : Nat) (p : Purity) : List Rw := if p.move = (mv : Int) then [⟨sumT M mv (-p.least) p.mat 1000 M, 0, 0⟩, ⟨sumT M mv p.most p.mat (-1000) M, 0, 0⟩] else []
def purR (M mv : Nat) (ps : List Purity) : List Rw := ps.flatMap (pur1 M mv)
def binF (e : Evid) (x : Move) : Bool := (e.places[x.fr.toNat]?).elim false fun p => decide (p.kind = 0)
def moveR (e : Evid) (M mv : Nat) (x : Move) : List Rw := (if binF e x = true then [] else jea M e.moves mv x M) ++ jel e M mv x ++ purR M mv e.purs
def rowsU (e : Evid) (M : Nat) : Nat -> List Rw
 | 0 => []
 | i + 1 => match e.moves[i]? with
  | some x => rowsU e M i ++ moveR e M i x
  | none => rowsU e M i
def rowsE (e : Evid) : List Rw := rowsU e e.mats.toNat e.moves.length
theorem mem_rowsU {e : Evid} {M : Nat} {w : Rw} : ∀ {i : Nat}, w ∈ rowsU e M i ↔ ∃ k x, k < i /\ e.moves[k]? = some x /\ w ∈ moveR e M k x
 | 0 => by simp [rowsU]
 | i + 1 => by
  rw [rowsU]; cases hg : e.moves[i]? with
  | none =>
   rw [mem_rowsU]; constructor
   ·rintro ⟨k, x, h1, h2⟩; exact ⟨k, x, by omega, h2⟩
   ·rintro ⟨k, x, h1, h2, h3⟩; refine ⟨k, x, ?_, h2, h3⟩; have : k ≠ i := fun e => by subst e; rw [hg] at h2; cases h2
    omega
  | some y =>
   simp only [List.mem_append, mem_rowsU]; constructor
   ·rintro (⟨k, x, h1, h2⟩ | h)
    ·exact ⟨k, x, by omega, h2⟩
    ·exact ⟨i, y, by omega, hg, h⟩
   ·rintro ⟨k, x, h1, h2, h3⟩; by_cases e1 : k = i
    ·subst e1; rw [hg] at h2; cases h2; exact .inr h3
    ·exact .inl ⟨k, x, by omega, h2, h3⟩
theorem mem_stockR {M : Nat} {ms : List Move} {mv : Nat} {x : Move} {w : Rw} : ∀ {k : Nat}, w ∈ jea M ms mv x k ↔ ∃ mat, mat < k /\ w = ⟨jag M x.fr mat ms (mv + 1), if x.all = true then 2 else 0, 0⟩
 | 0 => by simp [jea]
 | k + 1 => by
  rw [jea]; simp only [List.mem_append, mem_stockR, List.mem_singleton]; constructor
  ·rintro (⟨mat, h1, h2⟩ | h)
   ·exact ⟨mat, by omega, h2⟩
   ·exact ⟨k, by omega, h⟩
  ·rintro ⟨mat, h1, h2⟩; by_cases e1 : mat = k
   ·subst e1; exact .inr h2
   ·exact .inl ⟨mat, by omega, h2⟩
theorem RT_up : ∀ {ts : List (Nat × Rat)} {lo N N' : Nat}, RT ts lo N -> N <= N' -> RT ts lo N'
 | [], _, _, _, _, _ => trivial
 | t :: ts, lo, N, N', h, hN => ⟨h.1, by have := h.2.1; omega, h.2.2.1, RT_up h.2.2.2 hN⟩
theorem jo2 {t : Nat × Rat} {N : Nat} : ∀ {ts : List (Nat × Rat)} {lo k : Nat}, RT ts lo k -> lo <= t.1 -> k <= t.1 -> t.1 < N -> t.2 ≠ 0 -> RT (ts ++ [t]) lo N
 | [], _, _, _, h1, _, h3, h4 => ⟨h1, h3, h4, trivial⟩
 | u :: ts, lo, k, h, h1, h2, h3, h4 => ⟨h.1, by have := h.2.1; omega, h.2.2.1, jo2 h.2.2.2 (by have := h.2.1; omega) h2 h3 h4⟩
theorem cast_ne {z : Int} (h : z ≠ 0) : (z : Rat) ≠ 0 := fun e => h (Rat.intCast_eq_zero_iff.1 e)
theorem jpn {M : Nat} {fr : Int} {mat : Nat} {ms : List Move} (hm : mat < M) : ∀ i, RT (jag M fr mat ms i) 0 (i * M)
 | 0 => trivial
 | i + 1 => by
  have ih := jpn (fr := fr) (ms := ms) hm i; have e1 : (i + 1) * M = i * M + M := Nat.succ_mul i M; rw [jag]; split
  ·split
   ·exact RT_up ih (by omega)
   ·rename_i h; refine jo2 ih (Nat.zero_le _) ?_ ?_ (cast_ne h)
    ·show i * M <= i * M + mat; omega
    ·show i * M + mat < (i + 1) * M; omega
  ·exact RT_up ih (by omega)
theorem RT_sum {M mv : Nat} {b own more : Int} : ∀ k, RT (sumT M mv b own more k) (mv * M) (mv * M + k)
 | 0 => trivial
 | k + 1 => by
  have ih := RT_sum (M := M) (mv := mv) (b := b) (own := own) (more := more) k; rw [sumT]; split
  ·exact RT_up ih (by omega)
  ·rename_i h; refine jo2 ih ?_ ?_ ?_ (cast_ne h)
   ·show mv * M <= mv * M + k; omega
   ·show mv * M + k <= mv * M + k; omega
   ·show mv * M + k < mv * M + (k + 1); omega
theorem jm6 {M mv n : Nat} {b own more : Int} (h : mv < n) : RT (sumT M mv b own more M) 0 (n * M) := by
 have h1 := RT.mono (RT_sum (M := M) (mv := mv) (b := b) (own := own) (more := more) M) (Nat.zero_le _); refine RT_up h1 ?_; have : (mv + 1) * M <= n * M := Nat.mul_le_mul_right M h; rw [Nat.succ_mul] at this; exact this
theorem rows_ok {e : Evid} (w : Rw) (hw : w ∈ rowsE e) : w.Ok (e.moves.length * e.mats.toNat) := by
 obtain ⟨k, x, hk, hx, hw⟩ := mem_rowsU.1 hw; unfold moveR at hw; simp only [List.mem_append] at hw; have hN : (k + 1) * e.mats.toNat <= e.moves.length * e.mats.toNat := Nat.mul_le_mul_right _ hk; rcases hw with (hw | hw) | hw
 ·split at hw
  ·cases hw
  ·obtain ⟨mat, h1, rfl⟩ := mem_stockR.1 hw; refine ⟨RT_up (jpn h1 (k + 1)) hN, ?_⟩; dsimp only; split <;> omega
 ·unfold jel at hw; split at hw
  ·cases hw
  ·split at hw
   ·rcases List.mem_cons.1 hw with rfl | hw
    ·exact ⟨jm6 hk, by dsimp only; omega⟩
    ·rcases List.mem_cons.1 hw with rfl | hw
     ·exact ⟨jm6 hk, by dsimp only; omega⟩
     ·cases hw
   ·cases hw
 ·unfold purR at hw; obtain ⟨p, _, hw⟩ := List.mem_flatMap.1 hw; unfold pur1 at hw; split at hw
  ·rcases List.mem_cons.1 hw with rfl | hw
   ·exact ⟨jm6 hk, by dsimp only; omega⟩
   ·rcases List.mem_cons.1 hw with rfl | hw
    ·exact ⟨jm6 hk, by dsimp only; omega⟩
    ·cases hw
  ·cases hw
end
end Go.Proofs.YtfahloobpegieaaGreat
namespace Go.Abs
section
section
variable {L R : Rows} {k d s b : Nat} {es : List (List IV)}
theorem look_filterQ (q : Nat -> Bool) (l : Rows) (k : Nat) : look (l.filter fun p => q p.1) k = if q k = true then look l k else none := jbk l q k
theorem jax (h : blks L) (hd : d < 100000) : look L d = none := by
 cases hl : look L d with
 | none => rfl
 | some x => obtain ⟨b, e⟩ := h d x hl; unfold hp at e; omega
theorem filter_of_none (h : look L d = none) : L.filter (fun p => p.1 != d) = L := by
 induction L with
 | nil => rfl
 | cons p L ih =>
  obtain ⟨j, v⟩ := p; by_cases e : d = j
  ·subst e; rw [ja2] at h; cases h
  ·rw [ja0 _ _ e] at h; rw [List.filter_cons, ih h, if_pos (by simp only [bne_iff_ne, ne_eq]; exact fun x => e x.symm)]
theorem jep (h : look L d = none) : L.map (fun p => if p.1 = d then (p.1, s, es) else p) = L := by
 induction L with
 | nil => rfl
 | cons p L ih =>
  obtain ⟨j, v⟩ := p; by_cases e : d = j
  ·subst e; rw [ja2] at h; cases h
  ·rw [ja0 _ _ e] at h; rw [List.map_cons, ih h, if_neg (fun x => e x.symm)]
theorem jdw (h : blks L) (hd : d < 100000) : L.filter (fun p => p.1 != d) = L := filter_of_none (jax h hd)
theorem jm3 (h : blks L) (hd : d < 100000) : L.map (fun p => if p.1 = d then (p.1, s, es) else p) = L := jep (jax h hd)
theorem ja9 {x : Nat × List (List IV)} (h : look L k = some x) : look (L.map (fun p => if p.1 = k then (p.1, s, es) else p)) k = some (s, es) :=
 jbr (by rw [h]; rfl)
theorem jae {j : Nat} (h : j ≠ k) : look (L.map (fun p => if p.1 = k then (p.1, s, es) else p)) j = look L j := jc2 h
theorem jb5 (h : blks L) : blks (L.map (fun p => if p.1 = k then (p.1, s, es) else p)) := fun j x hj => by
 have : (look L j).isSome := by
  have e := jbi (l := L) (d := k) (s := s) (k := j) (es := es); unfold setRow at e; rw [<- e, hj]; rfl
 obtain ⟨y, hy⟩ := Option.isSome_iff_exists.1 this; exact h j y hy
theorem jan (h : blks L) : blks ((hp b, s, es) :: L) := fun j x hj => by
 by_cases e : j = hp b
 ·exact ⟨b, e⟩
 ·rw [ja0 _ _ e] at hj; exact h j x hj
theorem jby : blks [] := fun _ _ h => by cases h
theorem jbf (h : blks L) : blks (del L d) := fun j x hj => by
 by_cases e : j = d
 ·subst e; rw [ja6] at hj; cases hj
 ·rw [ja5 _ e] at hj; exact h j x hj
def hiR (R : Rows) : Rows := R.filter fun p => Nat.ble 100000 p.1
theorem jln : look (hiR R) k = if 100000 <= k then look R k else none := by
 unfold hiR; rw [look_filterQ]; by_cases h : 100000 <= k
 ·rw [if_pos (Nat.ble_eq ▸ h), if_pos h]
 ·rw [if_neg (fun e => h (Nat.le_of_ble_eq_true e)), if_neg h]
theorem jaf : look (hiR R) (hp b) = look R (hp b) := by rw [jln, if_pos (by unfold hp; omega)]
theorem jd9 : blks (hiR R) := fun k x h => by
 rw [jln] at h; split at h
 ·rename_i hk; exact ⟨_, hp_of hk⟩
 ·cases h
theorem hiR_ret : ∀ k x, look (hiR R) k = some x -> 100000 <= k /\ look R k = some x := fun k x h => by
 rw [jln] at h; split at h
 ·exact ⟨‹_›, h⟩
 ·cases h
theorem ja3 {x : Nat × List (List IV)} (hd : d < 100000) (hL : blks L) (h : SubR L R) : SubR L ((d, x) :: R) := fun k y hk => by
 rw [ja0 _ _ (fun e => by subst e; rw [jax hL hd] at hk; cases hk)]; exact h k y hk
theorem jc8 : SubR [] R := fun _ _ h => by cases h
theorem jaz {R' : Rows} (p : Nat × Nat × List (List IV)) (hs : SubR R' R) : SubR (p :: R') (p :: R) := fun k x hk => by
 obtain ⟨j, v⟩ := p; by_cases e : k = j
 ·subst e; rw [ja2] at hk ⊢; exact hk
 ·rw [ja0 _ _ e] at hk ⊢; exact hs k x hk
theorem jam {R' : Rows} {p : Nat × Nat × List (List IV)} (h : look R' p.1 = none) (hs : SubR R' R) : SubR R' (p :: R) := fun k x hk => by
 obtain ⟨j, v⟩ := p; rw [ja0 _ _ (fun e => by subst e; rw [h] at hk; cases hk)]; exact hs k x hk
theorem jbt {L L' : Rows} : ∀ (pre : Rows), (∀ p ∈ pre, look L p.1 = none) -> jfh (pre ++ L) L L' (pre ++ L')
 | [], _ => fun _ _ h => .inl h
 | (j, v) :: pre, hp => fun k x h => by
  by_cases e : k = j
  ·subst e; rw [List.cons_append, ja2] at h ⊢; exact .inr ⟨hp _ (List.mem_cons_self ..), h⟩
  ·rw [List.cons_append, ja0 _ _ e] at h ⊢; exact jbt pre (fun p h => hp p (List.mem_cons_of_mem _ h)) k x h
theorem jbg {L' : Rows} : jfh R L L' L' := fun _ _ h => .inl h
end
section
variable {R : Rows}
theorem jba {G : Ctx} {rs : List ResultVar} {st : St} {φ : AV -> Rows -> Prop} (h : jl2 G rs (fun r => φ r (hiR st.rows)) st) : @RetH G rs st ⟨φ⟩ := RetH_of (hiR st.rows) hiR_ret h
theorem jbd {G : Ctx} {rs : List ResultVar} {st : St} {φ : AV -> Rows -> Prop} (L' : Rows) (hb : blks L') (hs : SubR L' st.rows) (h : jl2 G rs (fun r => φ r L') st) : @RetH G rs st ⟨φ⟩ :=
 RetH_of L' (fun k x hk => ⟨by obtain ⟨b, rfl⟩ := hb k x hk; unfold hp; omega, hs k x hk⟩) h
end
def tab {α : Type} (n : Nat) (f : Nat -> α) : List α := (List.range n).map f
section
variable {α β : Type} {n : Nat} {f g : Nat -> α}
theorem ja8 : (tab n f).length = n := by simp [tab]
theorem jfl {i : Nat} (h : i < n) : (tab n f)[i]? = some (f i) := by simp [tab, h]
theorem tab_get_none {i : Nat} (h : ¬ i < n) : (tab n f)[i]? = none := by simp [tab]; omega
theorem jar (h : ∀ k, k < n -> f k = g k) : tab n f = tab n g := List.map_congr_left fun k hk => h k (List.mem_range.1 hk)
theorem tab_ext {l : List α} (hl : l.length = n) (h : ∀ k, k < n -> l[k]? = some (f k)) : l = tab n f := by
 apply List.ext_getElem?; intro i; by_cases hi : i < n
 ·rw [h i hi, jfl hi]
 ·rw [tab_get_none hi, List.getElem?_eq_none (by omega)]
theorem jlc {i : Nat} {x : α} : (tab n f).set i x = tab n fun k => if k = i then x else f k := by
 refine tab_ext (by rw [List.length_set, ja8]) fun k hk => ?_; by_cases e : k = i
 ·subst e; rw [if_pos rfl, List.getElem?_set_self (by rw [ja8]; exact hk)]
 ·rw [if_neg e, List.getElem?_set_ne (fun h => e h.symm), jfl hk]
theorem jh7 : tab (n + 1) f = tab n f ++ [f n] := by simp [tab, List.range_succ]
theorem tab_zero : tab 0 f = [] := rfl
theorem tab_replicate {x : α} : List.replicate n x = tab n fun _ => x := tab_ext (by simp) fun k hk => by simp [hk]
theorem tab_mem {x : α} (h : x ∈ tab n f) : ∃ i, i < n /\ f i = x := by
 obtain ⟨i, hi, rfl⟩ := List.mem_map.1 h; exact ⟨i, List.mem_range.1 hi, rfl⟩
theorem mem_tab {i : Nat} (h : i < n) : f i ∈ tab n f := List.mem_map.2 ⟨i, List.mem_range.2 h, rfl⟩
theorem jbv : (tab n f).take n = tab n f := List.take_of_length_le (by rw [ja8]; exact Nat.le_refl _)
theorem tab_nodup {A : Nat -> Nat} (h : (tab n A).Nodup) {i j : Nat} (hi : i < n) (hj : j < n) (e : A i = A j) : i = j := by
 have h1 := jfl (f := A) hi; have h2 := jfl (f := A) hj; rw [<- e] at h2; rw [List.getElem?_eq_some_iff] at h1 h2; obtain ⟨a1, a2⟩ := h1; obtain ⟨b1, b2⟩ := h2; exact (List.getElem_inj h).1 (a2.trans b2.symm)
end
theorem bF {L : Rows} (hb : blks L) (d : Nat) (h : d < 100000) : L.filter (fun p => p.1 != d) = L := jdw hb h
theorem bN {L : Rows} (hb : blks L) (d : Nat) (h : d < 100000) : look L d = none := jax hb h
theorem bK {L : Rows} (hb : blks L) (d s : Nat) (es : List (List IV)) (h : d < 100000) : L.map (fun p => if p.1 = d then (p.1, s, es) else p) = L := jm3 hb h
end
end Go.Abs
namespace Go.Proofs.YtfahloobpegieaaGreat
section
open Go.Abs
def fc (r : Rat) : List IV := [.int r.num.sign, .sl ((dig r.num.natAbs).map ic), .int (r.den : Int).sign, .sl ((dig (r.den : Int).natAbs).map ic)]
def qc (r : Rat) : List IV := fc r
theorem qget {n s : Nat} {f : Nat -> Rat} (h : s < n) : (tab n fun j => qc (f j))[s]? = some (fc (f s)) := jfl h
theorem qset {n s : Nat} {f : Nat -> Rat} {x : Rat} : (tab n fun j => qc (f j)).set s (fc x) = tab n fun k => qc (if k = s then x else f k) := by
 rw [show fc x = qc x from rfl, jlc]; exact jar fun k _ => by split <;> rfl
theorem frac_fc (r : Rat) : frac r = .agg (fc r) := rfl
theorem sign_zero {r : Rat} : r.num.sign = 0 ↔ r = 0 := by
 rw [Int.sign_eq_zero_iff_zero]; exact Rat.num_eq_zero
theorem sign_neg {r : Rat} : r.num.sign < 0 ↔ r < 0 := by
 rw [Int.sign_neg_iff, Rat.lt_iff]; simp
theorem sign_pos {r : Rat} : 0 < r.num.sign ↔ 0 < r := by
 rw [Int.sign_pos_iff, Rat.lt_iff]; simp
end
section
open Go.Abs
open Go.LP (Rw RT tsum)
attribute [local go_sem] ints ic big frac fc rwC tmC
def tmC (t : Nat × Rat) : List IV := .int (t.1 : Int) :: fc t.2
def rwC (w : Rw) : List IV := [.sl (w.ts.map tmC), .int w.kind] ++ fc w.val
theorem tget {ts : List (Nat × Rat)} {i : Nat} {t : Nat × Rat} (h : ts[i]? = some t) : (ts.map tmC)[i]? = some (.int (t.1 : Int) :: fc t.2) := by rw [List.getElem?_map, h]; rfl
def lastF (ts : List (Nat × Rat)) : Nat -> Int
 | 0 => -1
 | i + 1 => match ts[i]? with
  | some t => (t.1 : Int)
  | none => -1
theorem jko {ts : List (Nat × Rat)} {i : Nat} {t : Nat × Rat} (h : ts[i]? = some t) : lastF ts (i + 1) = (t.1 : Int) := by rw [lastF, h]
theorem RT_at {ts : List (Nat × Rat)} {N : Nat} (h : RT ts 0 N) : ∀ {i : Nat}, i <= ts.length -> ∃ lo : Nat, RT (ts.drop i) lo N /\ lastF ts i < lo
 | 0, _ => ⟨0, h, by show (-1 : Int) < 0; omega⟩
 | i + 1, hi => by
  obtain ⟨lo, h1, h2⟩ := RT_at h (i := i) (by omega); have hg : ts[i]? = some ts[i] := List.getElem?_eq_getElem (by omega); rw [List.drop_eq_getElem_cons (by omega)] at h1; refine ⟨ts[i].1 + 1, h1.2.2.2, ?_⟩; rw [jko hg]; omega
theorem jl5 {ts : List (Nat × Rat)} {N : Nat} (h : RT ts 0 N) {i : Nat} {t : Nat × Rat} (ht : ts[i]? = some t) : lastF ts i < t.1 /\ t.1 < N /\ t.2 ≠ 0 := by
 obtain ⟨hi, rfl⟩ := List.getElem?_eq_some_iff.1 ht; obtain ⟨lo, h1, h2⟩ := RT_at h (Nat.le_of_lt hi); rw [List.drop_eq_getElem_cons hi] at h1; have := h1.1; exact ⟨by omega, h1.2.1, h1.2.2.1⟩
def tsumU (ts : List (Nat × Rat)) (x : Nat -> Rat) : Nat -> Rat
 | 0 => ((0 : Int) : Rat)
 | i + 1 => match ts[i]? with
  | some t => tsumU ts x i + t.2 * x t.1
  | none => tsumU ts x i
theorem jkf {ts : List (Nat × Rat)} {x : Nat -> Rat} {i : Nat} {t : Nat × Rat} (h : ts[i]? = some t) : tsumU ts x (i + 1) = tsumU ts x i + t.2 * x t.1 := by rw [tsumU, h]
theorem jke (x : Nat -> Rat) (ts : List (Nat × Rat)) : ∀ i, i <= ts.length -> tsumU ts x i = tsum (ts.take i) x
 | 0, _ => by rw [List.take_zero]; rfl
 | i + 1, hi => by
  have hg : ts[i]? = some ts[i] := List.getElem?_eq_getElem (by omega); rw [jkf hg, jke x ts i (by omega), List.take_add_one, hg]; rw [show (some ts[i]).toList = [ts[i]] from rfl, LP.tsum_app, tsum, tsum]; grind
theorem jmh (x : Nat -> Rat) (ts : List (Nat × Rat)) : tsumU ts x ts.length = tsum ts x := by rw [jke x ts _ (Nat.le_refl _), List.take_length]
theorem jm9 {ts : List (Nat × Rat)} {x : Nat -> Rat} {a b : Nat} (ht : ∀ t ∈ ts, FL a t.2) (hx : ∀ t ∈ ts, FL b (x t.1)) : ∀ i, FL (4 + i * (a + b + 1)) (tsumU ts x i)
 | 0 => (jce (n := 0) (by omega)).mono (by omega)
 | i + 1 => by
  have ih := jm9 ht hx i; rw [tsumU]; split
  ·rename_i t hg; have hm := List.mem_of_getElem? hg; refine (jk8 ih (FL_mul (ht t hm) (hx t hm))).mono ?_; rw [Nat.succ_mul]; omega
  ·exact ih.mono (by rw [Nat.succ_mul]; omega)
set_option maxHeartbeats 2000000 in
theorem x_rt (ts : List (Nat × Rat)) (N : Nat) (h : RT ts 0 N) (hl : ts.length <= 100000) (hN : N <= 100000) (hf : ∀ t ∈ ts, FL 100000000 t.2) :
  Ctr G.P 75 [.sl (ts.map tmC), .int N] (· = .bool true) := by
 have hN0 : decide ((N : Int) < 0) = false := decide_eq_false (by omega); refine jac good _ _ [.tmp 4] Tryz.func75 rfl rfl (by decide +kernel) rfl ?_; simp only [hN0, go_sem]; refine jb3 [1, 5, 10, 11, 12] [] (fun i : Nat => ⟨[(1, .im (.int N)), (5, .im (.int (lastF ts i))), (10, .im (.sl (ts.map tmC))), (11, .im (.int ts.length)), (12, .im (.int i))], [], []⟩)
  (fun i => i <= ts.length) (fun i => ts.length - i) 0 ?_ (Nat.zero_le _) ?_
 ·simp only [lastF, Int.natCast_zero, go_sem]
 ·intro i hi; by_cases hp : (i : Int) < ts.length
  ·have hd : decide ((i : Int) < ts.length) = true := decide_eq_true hp; obtain ⟨t, ht⟩ := jdq hp; have h1 := jaa (n := (i : Int) + 1) (by omega); obtain ⟨g1, g2, g3⟩ := jl5 h ht; have d1 : decide ((t.1 : Int) <= lastF ts i) = false := decide_eq_false (by omega); have d2 : decide ((N : Int) <= t.1) = false := decide_eq_false (by omega); have hs := f_sign ((hf t (List.mem_of_getElem? ht)).mono (by omega : 100000000 <= 19000000000)); have hq : decide (t.2.num.sign = 0) = false := decide_eq_false (fun e => g3 (sign_zero.1 e)); have hg := tget ht; simp only [frac, ints, fc] at hs hg; simp only [hd, hg, d1, d2, go_sem]; refine ja1 hs (by decide) ?_; simp only [hd, hg, d1, d2, hq, go_sem]; refine jah (i + 1) ?_ (by omega) (by omega); rw [jko ht]; simp only [h1, Int.natCast_add, go_sem]
  ·have hd : decide ((i : Int) < ts.length) = false := decide_eq_false hp; simp only [hd, go_sem]
set_option maxHeartbeats 2000000 in
theorem x_right (ws : List Rw) (N : Nat) (h : ∀ w ∈ ws, w.Ok N) (hl : ws.length <= 6000) (hN : N <= 1500) (ht : ∀ w ∈ ws, w.ts.length <= 100000 /\ FL 100000000 w.val /\ ∀ t ∈ w.ts, FL 100000000 t.2) :
  Ctr G.P 146 [.agg [.int N, .sl (ws.map rwC)]] (· = .bool true) := by
 have hN0 : decide ((N : Int) < 0) = false := decide_eq_false (by omega); have hN1 : decide ((1500 : Int) < N) = false := decide_eq_false (by omega); have hl1 : decide ((6000 : Int) < ws.length) = false := decide_eq_false (by omega); refine jac good _ _ [.tmp 2] Tryz.func146 rfl rfl (by decide +kernel) rfl ?_; simp only [hN0, hN1, hl1, List.length_map, go_sem]; refine jb3 [1, 20, 21, 22] [1] (fun i : Nat => ⟨[(1, .loc 1 2 0 0), (20, .im (.sl (ws.map rwC))), (21, .im (.int ws.length)), (22, .im (.int i))], [(1, 2, [[.int N, .sl (ws.map rwC)]])], []⟩)
  (fun i => i <= ws.length) (fun i => ws.length - i) 0 ?_ (Nat.zero_le _) ?_
 ·simp only [Int.natCast_zero, go_sem]
 ·intro i hi; by_cases hp : (i : Int) < ws.length
  ·have hd : decide ((i : Int) < ws.length) = true := decide_eq_true hp; obtain ⟨w, hw⟩ := jdq hp; have hm := List.mem_of_getElem? hw; have h1 := jaa (n := (i : Int) + 1) (by omega); obtain ⟨k1, k2, k3⟩ := h w hm; obtain ⟨l1, l2, l3⟩ := ht w hm; have c1 := x_rt w.ts N k1 l1 (by omega) l3; have c2 := jnx (l2.mono (by omega : 100000000 <= 19000000000)); have d1 : decide (w.kind < 0) = false := decide_eq_false (by omega); have d2 : decide (3 <= w.kind) = false := decide_eq_false (by omega); have hg : (ws.map rwC)[i]? = some (rwC w) := by rw [List.getElem?_map, hw]; rfl
   simp only [rwC, fc, List.cons_append, List.nil_append] at hg; simp only [frac, ints] at c2; simp only [hd, hg, go_sem]; refine ja1 c1 (by decide) ?_; simp only [hd, hg, d1, d2, go_sem]; refine ja1 c2 (by decide) ?_; simp only [hd, hg, d1, d2, go_sem]; refine jah (i + 1) ?_ (by omega) (by omega); simp only [h1, Int.natCast_add, go_sem]
  ·have hd : decide ((i : Int) < ws.length) = false := decide_eq_false hp; simp only [hd, go_sem]
end
section
open Go.Abs
attribute [local go_sem] ints ic big frac fc
theorem jme (r : Rat) : Ctr G.P 247 [frac r] (· = .bool (decide (r = 0))) := by
 have e : decide (r = 0) = decide (r.num.sign = 0) := decide_eq_decide.2 sign_zero.symm; rw [e]; refine jac good _ _ [.tmp 2] Tryz.func247 rfl rfl (by decide +kernel) rfl ?_; simp only [go_sem]
theorem x_over {a b : Rat} (h : b ≠ 0) (ha : FL 19000000000 a) (hb : FL 19000000000 b) : Ctr G.P 246 [frac a, frac b] (· = frac (a / b)) := by
 have k1 := f_div h ha hb; generalize a / b = c at *; simp only [frac, ints] at k1 ⊢; refine jac good _ _ [.cell 4 42] Tryz.func246 rfl rfl (by decide +kernel) rfl ?_; simp only [go_sem]; refine ja1 k1 (by decide) ?_; simp only [go_sem]
theorem x_less {a b c : Rat} (ha : FL 6000000000 a) (hb : FL 6000000000 b) (hc : FL 6000000000 c) : Ctr G.P 248 [frac a, frac b, frac c] (· = frac (a - b * c)) := by
 have z1 := jme b; have z2 := jme c; have m1 := f_mul (hb.mono (by omega)) (hc.mono (by omega)); have s1 := f_sub (ha.mono (by omega)) ((FL_mul hb hc).mono (by omega)); have e1 : b = 0 -> a - b * c = a := fun h => by rw [h]; grind
 have e2 : c = 0 -> a - b * c = a := fun h => by rw [h]; grind
 generalize a - b * c = x at *; generalize b * c = y at *; generalize hd1 : decide (b = 0) = d1 at *; generalize hd2 : decide (c = 0) = d2 at *; simp only [frac, ints] at z1 z2 m1 s1 ⊢; refine jac good _ _ [.cell 6 42] Tryz.func248 rfl rfl (by decide +kernel) rfl ?_; simp only [go_sem]; refine ja1 z1 (by decide) ?_; simp only [go_sem]; refine jcx (fun h1 => ?_) (fun h1 => ?_)
 ·subst h1; have e1 := e1 (of_decide_eq_true hd1); subst e1; simp only [go_sem]
 ·subst h1; simp only [go_sem]; refine ja1 z2 (by decide) ?_; simp only [go_sem]; refine jcx (fun h2 => ?_) (fun h2 => ?_)
  ·subst h2; have e2 := e2 (of_decide_eq_true hd2); subst e2; simp only [go_sem]
  ·subst h2; simp only [go_sem]; refine ja1 m1 (by decide) ?_; simp only [go_sem]; refine ja1 s1 (by decide) ?_; simp only [go_sem]
end
section
open Go.Abs
attribute [local go_sem] ints ic big frac fc
def tkF (a row : Nat -> Rat) (s j : Nat) : Rat := if j = s then 0 - a s * row s else a j - a s * row j
set_option maxHeartbeats 2000000 in
theorem x_take (L : Abs.Rows) (A B n s : Nat) (a row : Nat -> Rat) (hL : blks L) (hA : Abs.look L (hp A) = some (4, tab n fun j => qc (a j))) (hB : Abs.look L (hp B) = some (4, tab n fun j => qc (row j))) (hAB : A ≠ B) (hs : s < n) (hn : n <= 100000)
  (ka : ∀ j, j < n -> FL 1000000000 (a j)) (kr : ∀ j, j < n -> FL 1000000000 (row j)) :
  CtrH G.P 249 [.im (.ref A 42 4 n), .im (.ref B 42 4 n), .im (.int s)] L
   (fun r L' => r = .im (.tup []) /\ blks L' /\ Abs.look L' (hp A) = some (4, tab n fun j => qc (tkF a row s j)) /\ ∀ k, k ≠ hp A -> Abs.look L' k = Abs.look L k) := by
 have hs' : (s : Int) < n := by omega
 have h0 : (0 : Int) <= s := by omega
 have hgs := qget (f := a) hs; have F1 := bF hL; have K1 := bK hL; refine jb7 (goodH [] []) _ _ [] Tryz.func249 rfl rfl (by decide +kernel) rfl ?_; simp only [hA, hs', h0, hgs, Int.toNat_natCast, ja8, F1, K1, go_sem]; refine jb4 [0, 1, 2, 6, 13, 14] (fun g : Nat × Abs.Rows => ⟨[(0, .im (.ref A 42 4 n)), (1, .im (.ref B 42 4 n)), (2, .im (.int s)), (6, .loc 6 4 0 0), (13, .im (.int n)), (14, .im (.int g.1))], (6, 4, [fc (a s)]) :: g.2, []⟩)
  (fun g => g.1 <= n /\ blks g.2 /\ Abs.look g.2 (hp A) = some (4, tab n fun j => qc (if j < g.1 /\ j ≠ s then a j - a s * row j else a j)) /\ ∀ k, k ≠ hp A -> Abs.look g.2 k = Abs.look L k) (fun g => n - g.1) (0, L) ?_ ?_ rfl ⟨Nat.zero_le _, hL, by simpa using hA, fun _ _ => rfl⟩ ?_
 ·simp only [Int.natCast_zero, go_sem]
 ·exact SubR.of_eq rfl
 ·intro ⟨j, M⟩ ⟨hj, hM, hMA, hMo⟩; dsimp only at hj hM hMA hMo; have F2 := bF hM; have K2 := bK hM; have G2 := bN hM; have hMB : Abs.look M (hp B) = some (4, tab n fun j => qc (row j)) := (hMo _ (fun e => hAB (hp_inj.1 e).symm)).trans hB; by_cases hlt : j < n
  ·have hd : decide ((j : Int) < n) = true := decide_eq_true (by omega); have hjn : (j : Int) < n := by omega
   have h1 := jaa (n := (j : Int) + 1) (by omega); have hga : (tab n fun k => qc (if k < j /\ k ≠ s then a k - a s * row k else a k))[j]? = some (fc (a j)) := by
    rw [qget hlt, if_neg (by omega)]
   have hgb := qget (f := row) hlt; by_cases hjs : j = s
   ·have hd2 : decide ((j : Int) = s) = true := decide_eq_true (by omega); simp only [hd, hd2, Int.toNat_natCast, F2, K2, go_sem]; refine jab (j + 1, M) ?_ ?_ rfl (by show n - (j + 1) < n - j; omega) ⟨hlt, hM, hMA.trans ?_, hMo⟩
    ·simp only [h1, Int.natCast_add, go_sem]
    ·exact SubR.of_eq rfl
    ·congr 2; refine jar fun k _ => ?_; have e : (k < j /\ k ≠ s) ↔ (k < (j + 1, M).1 /\ k ≠ s) := by dsimp only; omega
     simp only [e]
   ·have hd2 : decide ((j : Int) = s) = false := decide_eq_false (by omega); have kl := x_less (ka j hlt |>.mono (by omega)) (ka s hs |>.mono (by omega)) (kr j hlt |>.mono (by omega)); generalize hx : a j - a s * row j = x at *; simp only [frac, ints] at kl; simp only [hd, hd2, Int.toNat_natCast, F2, K2, go_sem]; refine jay (by decide +kernel) ?_; simp only [hMA, hMB, hga, hgb, hjn, ja8, Int.toNat_natCast, F2, K2, G2, go_sem]; refine ja4 kl (by decide) ?_; simp only [hMA, hMB, hga, hgb, hjn, ja8, Int.toNat_natCast, F2, K2, G2, go_sem]; refine jab (j + 1, M.map (fun p => if p.1 = hp A then (p.1, 4, (tab n fun k => qc (if k < j /\ k ≠ s then a k - a s * row k else a k)).set j (fc x)) else p)) ?_ ?_ rfl (by show n - (j + 1) < n - j; omega)
     ⟨hlt, jb5 hM, (ja9 hMA).trans ?_, fun k hk => (jae hk).trans (hMo k hk)⟩
    ·simp only [h1, Int.natCast_add, go_sem]
    ·exact SubR.of_eq rfl
    ·rw [qset]; congr 2; refine jar fun k _ => congrArg qc ?_; by_cases e : k = j
     ·subst e; rw [if_pos rfl, if_pos ⟨by show k < k + 1; omega, hjs⟩, hx]
     ·have e' : (k < j /\ k ≠ s) ↔ (k < j + 1 /\ k ≠ s) := by omega
      rw [if_neg e]; simp only [e']
  ·have hd : decide ((j : Int) < n) = false := decide_eq_false (by omega); have hjn : j = n := by omega
   subst hjn; have o1 := jc6 0 (by omega); have hga : (tab j fun k => qc (if k < j /\ k ≠ s then a k - a s * row k else a k))[s]? = some (fc (a s)) := by
    rw [qget hs, if_neg (by omega)]
   have hgb := qget (f := row) hs; have kl := x_less (a := ((0 : Int) : Rat)) ((jce (by omega)).mono (by omega)) (ka s hs |>.mono (by omega)) (kr s hs |>.mono (by omega)); generalize hz : ((0 : Int) : Rat) = z at *; generalize hx : z - a s * row s = x at *; simp only [frac, ints] at kl o1; simp only [hd, go_sem]; refine jay (by decide +kernel) ?_; simp only [F2, K2, G2, go_sem]; refine ja4 o1 (by decide) ?_; simp only [hMA, hMB, hga, hgb, hs', h0, ja8, Int.toNat_natCast, F2, K2, G2, go_sem]; refine ja4 kl (by decide) ?_; simp only [hMA, hMB, hga, hgb, hs', h0, ja8, Int.toNat_natCast, F2, K2, G2, go_sem]; obtain ⟨M', hM', hb, hl, ho⟩ : ∃ M', M' = M.map (fun p => if p.1 = hp A then (p.1, 4, (tab j fun k => qc (if k < j /\ k ≠ s then a k - a s * row k else a k)).set s (fc x)) else p) /\ blks M' /\
     Abs.look M' (hp A) = some (4, tab j fun j => qc (tkF a row s j)) /\ ∀ k, k ≠ hp A -> Abs.look M' k = Abs.look L k := by
    refine ⟨_, rfl, jb5 hM, (ja9 hMA).trans ?_, fun k hk => (jae hk).trans (hMo k hk)⟩; rw [qset]; congr 2; refine jar fun k hk => congrArg qc ?_; unfold tkF; by_cases e : k = s
    ·rw [if_pos e, if_pos e, <- hx, <- hz]; rfl
    ·rw [if_neg e, if_neg e, if_pos ⟨hk, e⟩]
   refine jbd M' hb (ja3 (by decide) hb (SubR.of_eq hM')) ?_; simp only [go_sem]; exact ⟨hb, hl, ho⟩
end
section
open Go.Abs
attribute [local go_sem] ints ic big frac fc
def x4 : List IV := [.int 0, .emp, .int 0, .emp]
set_option maxHeartbeats 2000000 in
theorem jgw (n : Nat) (hn : n <= 100000) :
  CtrH G.P 192 [.im (.int n)] []
   (fun r L' => ∃ b, r = .im (.ref b 42 4 n) /\ blks L' /\ Abs.look L' (hp b) = some (4, tab n fun _ => qc 0) /\ ∀ k, k ≠ hp b -> Abs.look L' k = none) := by
 have o1 := jc6 0 (by omega); rw [show ((0 : Int) : Rat) = 0 from rfl] at o1; simp only [frac, ints] at o1; refine jb7 (goodH [6] []) _ _ [.tmp 2] Tryz.func192 rfl rfl (by decide +kernel) rfl ?_; simp only [go_sem]; refine ⟨by omega, jk7 (fun b hb => ?_)⟩; clear hb; simp only [List.length_replicate, go_sem]; refine jb4 [3, 8, 9] (fun g : Nat × Abs.Rows => ⟨[(3, .im (.ref b 42 4 n)), (8, .im (.int n)), (9, .im (.int g.1))], g.2, []⟩)
  (fun g => g.1 <= n /\ blks g.2 /\ Abs.look g.2 (hp b) = some (4, tab n fun k => if k < g.1 then qc 0 else x4) /\ ∀ k, k ≠ hp b -> Abs.look g.2 k = none) (fun g => n - g.1) (0, [(hp b, 4, tab n fun _ => x4)]) ?_ ?_ rfl
  ⟨Nat.zero_le _, jan jby, by rw [ja2]; simp, fun k hk => by rw [ja0 _ _ hk]; rfl⟩ ?_
 ·simp only [Int.natCast_zero, go_sem]
 ·exact SubR.of_eq (by rw [<- tab_replicate]; rfl)
 ·intro ⟨j, M⟩ ⟨hj, hM, hMA, hMo⟩; dsimp only at hj hM hMA hMo; have F2 := bF hM; have K2 := bK hM; have G2 := bN hM; by_cases hlt : j < n
  ·have hd : decide ((j : Int) < n) = true := decide_eq_true (by omega); have hjn : (j : Int) < n := by omega
   have h1 := jaa (n := (j : Int) + 1) (by omega); have hga : (tab n fun k => if k < j then qc 0 else x4)[j]? = some [.int 0, .emp, .int 0, .emp] := by rw [jfl hlt, if_neg (by omega)]; rfl
   simp only [hd, F2, K2, go_sem]; refine ja1 o1 (by decide) ?_; simp only [hMA, hga, hjn, ja8, Int.toNat_natCast, F2, K2, G2, go_sem]; refine jab (j + 1, M.map (fun p => if p.1 = hp b then (p.1, 4, (tab n fun k => if k < j then qc 0 else x4).set j (fc 0)) else p)) ?_ ?_ rfl (by show n - (j + 1) < n - j; omega)
    ⟨hlt, jb5 hM, (ja9 hMA).trans ?_, fun k hk => (jae hk).trans (hMo k hk)⟩
   ·simp only [h1, Int.natCast_add, go_sem]
   ·exact SubR.of_eq rfl
   ·rw [jlc]; congr 2; refine jar fun k _ => ?_; by_cases e : k = j
    ·subst e; rw [if_pos rfl, if_pos (by show k < k + 1; omega)]; rfl
    ·have e' : (k < j) ↔ (k < j + 1) := by omega
     rw [if_neg e]; simp only [e']
  ·have hd : decide ((j : Int) < n) = false := decide_eq_false (by omega); have hjn : j = n := by omega
   subst hjn; have hl : Abs.look M (hp b) = some (4, tab j fun _ => qc 0) := hMA.trans (by congr 2; exact jar fun k hk => if_pos hk); simp only [hd, go_sem]; refine jbd M hM (SubR.of_eq rfl) ?_; simp only [go_sem]; exact ⟨b, rfl, hM, hl, hMo⟩
end
section
open Go.Abs
open Go.LP (Dic)
structure DN where
 (d r g o f s : Nat)
 a : Nat -> Nat
def sl0 (b e s k : Nat) : IV := if k = 0 then .emp else .ref b e s k
def oc (k : Nat) : List IV := [.int (k : Int)]
def lineC (v : Rat) (b n : Nat) : List IV := fc v ++ [.ref b 42 4 n]
def srcC (s : Int × Bool) : List IV := [.int s.1, .bool s.2]
theorem jal {b e s k : Nat} (h : k ≠ 0) : sl0 b e s k = .ref b e s k := if_neg h
theorem jb9 {b e s : Nat} : sl0 b e s 0 = .emp := rfl
structure HasD (L : Abs.Rows) (nm : DN) (N : Nat) (D : Dic) (src : Nat -> Int × Bool) : Prop where
 blk : blks L
 nd : (nm.d :: nm.r :: nm.g :: nm.o :: nm.f :: nm.s :: tab D.m nm.a).Nodup
 hd : Abs.look L (hp nm.d) = some (6, [[.int N, sl0 nm.r 235 5 D.m, .ref nm.g 42 4 D.n, sl0 nm.o 3 1 D.m, sl0 nm.f 3 1 D.n, sl0 nm.s 264 2 D.m]])
 hg : Abs.look L (hp nm.g) = some (4, tab D.n fun j => qc (D.g j))
 hr : D.m ≠ 0 -> Abs.look L (hp nm.r) = some (5, tab D.m fun i => lineC (D.v i) (nm.a i) D.n)
 ho : D.m ≠ 0 -> Abs.look L (hp nm.o) = some (1, tab D.m fun i => oc (D.own i))
 hf : D.n ≠ 0 -> Abs.look L (hp nm.f) = some (1, tab D.n fun j => oc (D.free j))
 hs : D.m ≠ 0 -> Abs.look L (hp nm.s) = some (2, tab D.m fun i => srcC (src i))
 ha : ∀ i, i < D.m -> Abs.look L (hp (nm.a i)) = some (4, tab D.n fun j => qc (D.a i j))
section
variable {L L' : Abs.Rows} {nm : DN} {N : Nat} {D : Dic} {src : Nat -> Int × Bool}
structure DN.Ap (nm : DN) (m : Nat) : Prop where
 dr : nm.d ≠ nm.r
 dg : nm.d ≠ nm.g
 d_o : nm.d ≠ nm.o
 df : nm.d ≠ nm.f
 ds : nm.d ≠ nm.s
 rg : nm.r ≠ nm.g
 ro : nm.r ≠ nm.o
 rf : nm.r ≠ nm.f
 rs : nm.r ≠ nm.s
 go : nm.g ≠ nm.o
 gf : nm.g ≠ nm.f
 gs : nm.g ≠ nm.s
 of' : nm.o ≠ nm.f
 os : nm.o ≠ nm.s
 fs : nm.f ≠ nm.s
 da : ∀ i, i < m -> nm.d ≠ nm.a i
 ra : ∀ i, i < m -> nm.r ≠ nm.a i
 ga : ∀ i, i < m -> nm.g ≠ nm.a i
 oa : ∀ i, i < m -> nm.o ≠ nm.a i
 fa : ∀ i, i < m -> nm.f ≠ nm.a i
 sa : ∀ i, i < m -> nm.s ≠ nm.a i
 aa : ∀ i j, i < m -> j < m -> nm.a i = nm.a j -> i = j
theorem ap_of {m : Nat} (h : (nm.d :: nm.r :: nm.g :: nm.o :: nm.f :: nm.s :: tab m nm.a).Nodup) : nm.Ap m := by
 simp only [List.nodup_cons, List.mem_cons, not_or] at h; obtain ⟨⟨h1, h2, h3, h4, h5, h6⟩, ⟨g1, g2, g3, g4, g5⟩, ⟨k1, k2, k3, k4⟩, ⟨l1, l2, l3⟩, ⟨m1, m2⟩, n1, o1⟩ := h; have no : ∀ {x : Nat}, x ∉ tab m nm.a -> ∀ i, i < m -> x ≠ nm.a i := fun hx i hi e => hx (e ▸ mem_tab hi); exact ⟨h1, h2, h3, h4, h5, g1, g2, g3, g4, k1, k2, k3, l1, l2, m1, no h6, no g5, no k4, no l3, no m2, no n1, fun i j hi hj e => tab_nodup o1 hi hj e⟩
theorem HasD.ap (h : HasD L nm N D src) : nm.Ap D.m := ap_of h.nd
theorem hpne {a b : Nat} (h : a ≠ b) : hp a ≠ hp b := fun e => h (hp_inj.1 e)
theorem HasD.withA (h : HasD L nm N D src) (hb : blks L') {i : Nat} (hi : i < D.m) {f : Nat -> Rat} (hl : Abs.look L' (hp (nm.a i)) = some (4, tab D.n fun j => qc (f j))) (ho : ∀ k, k ≠ hp (nm.a i) -> Abs.look L' k = Abs.look L k) :
  HasD L' nm N { D with a := fun i' => if i' = i then f else D.a i' } src := by
 have ap := h.ap; refine ⟨hb, h.nd, ?_, ?_, fun hm => ?_, fun hm => ?_, fun hm => ?_, fun hm => ?_, fun i' hi' => ?_⟩
 ·rw [ho _ (hpne (ap.da i hi))]; exact h.hd
 ·rw [ho _ (hpne (ap.ga i hi))]; exact h.hg
 ·rw [ho _ (hpne (ap.ra i hi))]; exact h.hr hm
 ·rw [ho _ (hpne (ap.oa i hi))]; exact h.ho hm
 ·rw [ho _ (hpne (ap.fa i hi))]; exact h.hf hm
 ·rw [ho _ (hpne (ap.sa i hi))]; exact h.hs hm
 ·by_cases e : i' = i
  ·subst e; dsimp only; rw [if_pos rfl]; exact hl
  ·dsimp only; rw [if_neg e, ho _ (hpne fun e' => e (ap.aa i' i hi' hi e'))]; exact h.ha i' hi'
theorem HasD.withV (h : HasD L nm N D src) (hb : blks L') {v : Nat -> Rat} (hl : Abs.look L' (hp nm.r) = some (5, tab D.m fun i => lineC (v i) (nm.a i) D.n)) (ho : ∀ k, k ≠ hp nm.r -> Abs.look L' k = Abs.look L k) :
  HasD L' nm N { D with v := v } src := by
 have ap := h.ap; refine ⟨hb, h.nd, ?_, ?_, fun hm => ?_, fun hm => ?_, fun hm => ?_, fun hm => ?_, fun i' hi' => ?_⟩
 ·rw [ho _ (hpne ap.dr)]; exact h.hd
 ·rw [ho _ (hpne ap.rg.symm)]; exact h.hg
 ·exact hl
 ·rw [ho _ (hpne ap.ro.symm)]; exact h.ho hm
 ·rw [ho _ (hpne ap.rf.symm)]; exact h.hf hm
 ·rw [ho _ (hpne ap.rs.symm)]; exact h.hs hm
 ·rw [ho _ (hpne (ap.ra i' hi').symm)]; exact h.ha i' hi'
theorem HasD.withG (h : HasD L nm N D src) (hb : blks L') {g : Nat -> Rat} (hl : Abs.look L' (hp nm.g) = some (4, tab D.n fun j => qc (g j))) (ho : ∀ k, k ≠ hp nm.g -> Abs.look L' k = Abs.look L k) :
  HasD L' nm N { D with g := g } src := by
 have ap := h.ap; refine ⟨hb, h.nd, ?_, ?_, fun hm => ?_, fun hm => ?_, fun hm => ?_, fun hm => ?_, fun i' hi' => ?_⟩
 ·rw [ho _ (hpne ap.dg)]; exact h.hd
 ·exact hl
 ·rw [ho _ (hpne ap.rg)]; exact h.hr hm
 ·rw [ho _ (hpne ap.go.symm)]; exact h.ho hm
 ·rw [ho _ (hpne ap.gf.symm)]; exact h.hf hm
 ·rw [ho _ (hpne ap.gs.symm)]; exact h.hs hm
 ·rw [ho _ (hpne (ap.ga i' hi').symm)]; exact h.ha i' hi'
theorem HasD.withO (h : HasD L nm N D src) (hb : blks L') {o : Nat -> Nat} (hl : Abs.look L' (hp nm.o) = some (1, tab D.m fun i => oc (o i))) (ho : ∀ k, k ≠ hp nm.o -> Abs.look L' k = Abs.look L k) :
  HasD L' nm N { D with own := o } src := by
 have ap := h.ap; refine ⟨hb, h.nd, ?_, ?_, fun hm => ?_, fun hm => ?_, fun hm => ?_, fun hm => ?_, fun i' hi' => ?_⟩
 ·rw [ho _ (hpne ap.d_o)]; exact h.hd
 ·rw [ho _ (hpne ap.go)]; exact h.hg
 ·rw [ho _ (hpne ap.ro)]; exact h.hr hm
 ·exact hl
 ·rw [ho _ (hpne ap.of'.symm)]; exact h.hf hm
 ·rw [ho _ (hpne ap.os.symm)]; exact h.hs hm
 ·rw [ho _ (hpne (ap.oa i' hi').symm)]; exact h.ha i' hi'
theorem HasD.withF (h : HasD L nm N D src) (hb : blks L') {f : Nat -> Nat} (hl : Abs.look L' (hp nm.f) = some (1, tab D.n fun i => oc (f i))) (ho : ∀ k, k ≠ hp nm.f -> Abs.look L' k = Abs.look L k) :
  HasD L' nm N { D with free := f } src := by
 have ap := h.ap; refine ⟨hb, h.nd, ?_, ?_, fun hm => ?_, fun hm => ?_, fun hm => ?_, fun hm => ?_, fun i' hi' => ?_⟩
 ·rw [ho _ (hpne ap.df)]; exact h.hd
 ·rw [ho _ (hpne ap.gf)]; exact h.hg
 ·rw [ho _ (hpne ap.rf)]; exact h.hr hm
 ·rw [ho _ (hpne ap.of')]; exact h.ho hm
 ·exact hl
 ·rw [ho _ (hpne ap.fs.symm)]; exact h.hs hm
 ·rw [ho _ (hpne (ap.fa i' hi').symm)]; exact h.ha i' hi'
theorem HasD.sub (h : HasD L nm N D src) (hb : blks L') (hs : SubR L L') : HasD L' nm N D src :=
 ⟨hb, h.nd, hs _ _ h.hd, hs _ _ h.hg, fun hm => hs _ _ (h.hr hm), fun hm => hs _ _ (h.ho hm), fun hm => hs _ _ (h.hf hm), fun hm => hs _ _ (h.hs hm), fun i hi => hs _ _ (h.ha i hi)⟩
theorem lget {i m : Nat} {v : Nat -> Rat} {A : Nat -> Nat} {n : Nat} (h : i < m) : (tab m fun i => lineC (v i) (A i) n)[i]? = some [.int (v i).num.sign, .sl ((dig (v i).num.natAbs).map ic), .int ((v i).den : Int).sign, .sl ((dig ((v i).den : Int).natAbs).map ic), .ref (A i) 42 4 n] := jfl h
theorem oget {i m : Nat} {o : Nat -> Nat} (h : i < m) : (tab m fun i => oc (o i))[i]? = some [.int (o i : Int)] := jfl h
theorem sget {i m : Nat} {o : Nat -> Int × Bool} (h : i < m) : (tab m fun i => srcC (o i))[i]? = some [.int (o i).1, .bool (o i).2] := jfl h
end
end
end Go.Proofs.YtfahloobpegieaaGreat
