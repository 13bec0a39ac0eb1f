/- A part of the proof. No further condition. -/
import Init
set_option linter.all false
set_option maxRecDepth 100000
namespace Go.LP
section
def S : Nat -> (Nat -> Rat) -> Rat
 | 0, _ => 0
 | n + 1, f => S n f + f n
theorem jdd {f g : Nat -> Rat} : ∀ {n : Nat}, (∀ j, j < n -> f j = g j) -> S n f = S n g
 | 0, _ => rfl
 | n + 1, h => by rw [S, S, jdd fun j hj => h j (by omega), h n (by omega)]
theorem S_add (f g : Nat -> Rat) : ∀ n : Nat, S n (fun j => f j + g j) = S n f + S n g
 | 0 => by simp only [S]; grind
 | n + 1 => by simp only [S, S_add f g n]; grind
theorem S_mul (c : Rat) (f : Nat -> Rat) : ∀ n : Nat, S n (fun j => c * f j) = c * S n f
 | 0 => by simp only [S]; grind
 | n + 1 => by simp only [S, S_mul c f n]; grind
theorem jl4 {f : Nat -> Rat} : ∀ {n : Nat}, (∀ j, j < n -> f j = 0) -> S n f = 0
 | 0, _ => rfl
 | n + 1, h => by rw [S, jl4 fun j hj => h j (by omega), h n (by omega)]; grind
theorem jf2 {f : Nat -> Rat} {s : Nat} : ∀ {n : Nat}, s < n -> S n f = f s + S n (fun j => if j = s then 0 else f j)
 | n + 1, h => by
  simp only [S]; by_cases e : s = n
  ·subst e; rw [if_pos rfl, jdd (f := fun j => if j = s then 0 else f j) (g := f) fun j hj => if_neg (by omega)]; grind
  ·rw [if_neg (Ne.symm e), jf2 (n := n) (s := s) (by omega)]; grind
theorem S_one {f : Nat -> Rat} {s n : Nat} (hs : s < n) (h : ∀ j, j < n -> j ≠ s -> f j = 0) : S n f = f s := by
 rw [jf2 hs, jl4 fun j hj => ?_]
 ·grind
 ·by_cases e : j = s
  ·rw [if_pos e]
  ·rw [if_neg e]; exact h j hj e
theorem jhp {f : Nat -> Rat} : ∀ {n : Nat}, (∀ j, j < n -> 0 <= f j) -> 0 <= S n f
 | 0, _ => by simp only [S]; grind
 | n + 1, h => by
  have h1 := jhp (n := n) fun j hj => h j (by omega); have h2 := h n (by omega); simp only [S]; grind
theorem S_pos {f : Nat -> Rat} {s n : Nat} (hs : s < n) (h : ∀ j, j < n -> 0 <= f j) (hp : 0 < f s) : 0 < S n f := by
 rw [jf2 hs]; have := jhp (n := n) (f := fun j => if j = s then 0 else f j) fun j hj => by
  by_cases e : j = s
  ·simp only [e, if_true]; grind
  ·simp only [e, if_false]; exact h j hj
 grind
structure Dic where
 m : Nat
 n : Nat
 own : Nat -> Nat
 free : Nat -> Nat
 v : Nat -> Rat
 g : Nat -> Rat
 a : Nat -> Nat -> Rat
def Dic.row (D : Dic) (x : Nat -> Rat) (i : Nat) : Prop := x (D.own i) + S D.n (fun j => D.a i j * x (D.free j)) = D.v i
def Dic.Sat (D : Dic) (x : Nat -> Rat) : Prop := ∀ i, i < D.m -> D.row x i
def Dic.lin (D : Dic) (x : Nat -> Rat) : Rat := S D.n (fun j => D.g j * x (D.free j))
structure Dic.Ok (D : Dic) : Prop where
 own : ∀ i i', i < D.m -> i' < D.m -> D.own i = D.own i' -> i = i'
 free : ∀ j j', j < D.n -> j' < D.n -> D.free j = D.free j' -> j = j'
 apart : ∀ i j, i < D.m -> j < D.n -> D.own i ≠ D.free j
def exch (p : Rat) (row : Nat -> Rat) (s : Nat) (c : Nat -> Rat) (j : Nat) : Rat := if j = s then 0 - c s * (1 / p) else c j - c s * (row j / p)
def Dic.pivot (D : Dic) (r s : Nat) : Dic where
 m := D.m
 n := D.n
 own i := if i = r then D.free s else D.own i
 free j := if j = s then D.own r else D.free j
 v i := if i = r then D.v r / D.a r s else D.v i - D.a i s * (D.v r / D.a r s)
 g := exch (D.a r s) (D.a r) s D.g
 a i := if i = r then (fun j => if j = s then 1 / D.a r s else D.a r j / D.a r s) else exch (D.a r s) (D.a r) s (D.a i)
section
variable {D : Dic} {r s : Nat} {x : Nat -> Rat}
theorem jmt (hs : s < D.n) (hp : D.a r s ≠ 0) : (D.pivot r s).row x r ↔ D.row x r := by
 have e1 : S D.n (fun j => (D.pivot r s).a r j * x ((D.pivot r s).free j)) = 1 / D.a r s * x (D.own r) + (1 / D.a r s) * S D.n (fun j => if j = s then 0 else D.a r j * x (D.free j)) := by
  rw [jf2 hs, <- S_mul]; congr 1
  ·simp [Dic.pivot]
  ·refine jdd fun j hj => ?_; by_cases e : j = s
   ·simp [e]
   ·simp only [Dic.pivot, e, if_false, if_true]; rw [Rat.div_def, Rat.div_def]; grind
 have e2 : S D.n (fun j => D.a r j * x (D.free j)) = D.a r s * x (D.free s) + S D.n (fun j => if j = s then 0 else D.a r j * x (D.free j)) := jf2 hs; unfold Dic.row; show x ((D.pivot r s).own r) + S D.n _ = (D.pivot r s).v r ↔ _; rw [e1, e2]; generalize S D.n (fun j => if j = s then 0 else D.a r j * x (D.free j)) = T; simp only [Dic.pivot, if_true]; generalize D.a r s = p at *; have hpi : p * p⁻¹ = 1 := Rat.mul_inv_cancel p hp; rw [Rat.div_def, Rat.div_def]; constructor
 ·intro h; have := congrArg (p * ·) h; grind
 ·intro h; rw [<- h]; grind
theorem joj (hs : s < D.n) (hp : D.a r s ≠ 0) (hr : D.row x r) (c : Nat -> Rat) :
  S D.n (fun j => c j * x (D.free j)) = S D.n (fun j => exch (D.a r s) (D.a r) s c j * x ((D.pivot r s).free j)) + c s * (D.v r / D.a r s) := by
 have h1 : S D.n (fun j => c j * x (D.free j)) = c s * x (D.free s) + S D.n (fun j => if j = s then 0 else c j * x (D.free j)) := jf2 hs; have h2 : S D.n (fun j => D.a r j * x (D.free j)) = D.a r s * x (D.free s) + S D.n (fun j => if j = s then 0 else D.a r j * x (D.free j)) := jf2 hs; have h3 : S D.n (fun j => exch (D.a r s) (D.a r) s c j * x ((D.pivot r s).free j)) = (0 - c s * (1 / D.a r s)) * x (D.own r) + (S D.n (fun j => if j = s then 0 else c j * x (D.free j)) + (-(c s * (1 / D.a r s))) * S D.n (fun j => if j = s then 0 else D.a r j * x (D.free j))) := by
  rw [jf2 hs, <- S_mul, <- S_add]; congr 1
  ·simp [Dic.pivot, exch]
  ·refine jdd fun j hj => ?_; by_cases e : j = s
   ·simp only [e, if_true]; grind
   ·simp only [Dic.pivot, exch, e, if_false]; rw [Rat.div_def, Rat.div_def]; grind
 unfold Dic.row at hr; rw [h2] at hr; rw [h1, h3]; generalize S D.n (fun j => if j = s then 0 else c j * x (D.free j)) = T1 at *; generalize S D.n (fun j => if j = s then 0 else D.a r j * x (D.free j)) = T2 at *; generalize D.a r s = p at *; have hpi : p * p⁻¹ = 1 := Rat.mul_inv_cancel p hp; rw [<- hr, Rat.div_def, Rat.div_def]; grind
theorem sat_pivot (hr : r < D.m) (hs : s < D.n) (hp : D.a r s ≠ 0) : (D.pivot r s).Sat x ↔ D.Sat x := by
 have key : D.row x r -> ∀ i, i ≠ r -> ((D.pivot r s).row x i ↔ D.row x i) := by
  intro h i hi; have := joj hs hp h (D.a i); unfold Dic.row; show x ((D.pivot r s).own i) + S D.n _ = (D.pivot r s).v i ↔ _; rw [this]; have e1 : (D.pivot r s).a i = exch (D.a r s) (D.a r) s (D.a i) := by simp [Dic.pivot, hi]
  have e2 : (D.pivot r s).own i = D.own i := by simp [Dic.pivot, hi]
  have e3 : (D.pivot r s).v i = D.v i - D.a i s * (D.v r / D.a r s) := by simp [Dic.pivot, hi]
  rw [e1, e2, e3]; constructor <;> intro h <;> grind
 constructor
 ·intro h i hi; have h0 := (jmt hs hp).1 (h r hr); by_cases e : i = r
  ·subst e; exact h0
  ·exact (key h0 i e).1 (h i hi)
 ·intro h i hi; by_cases e : i = r
  ·subst e; exact (jmt hs hp).2 (h i hi)
  ·exact (key (h r hr) i e).2 (h i hi)
theorem lin_pivot (hr : r < D.m) (hs : s < D.n) (hp : D.a r s ≠ 0) (h : D.Sat x) : D.lin x = (D.pivot r s).lin x + D.g s * (D.v r / D.a r s) :=
 joj hs hp (h r hr) D.g
theorem jlk (h : D.Ok) (hr : r < D.m) (hs : s < D.n) : (D.pivot r s).Ok where
 own i i' hi hi' e := by
  simp only [Dic.pivot] at e hi hi'; split at e <;> split at e
  ·omega
  ·exact absurd e.symm (h.apart i' s hi' hs)
  ·exact absurd e (h.apart i s hi hs)
  ·exact h.own i i' hi hi' e
 free j j' hj hj' e := by
  simp only [Dic.pivot] at e hj hj'; split at e <;> split at e
  ·omega
  ·exact absurd e (h.apart r j' hr hj')
  ·exact absurd e.symm (h.apart r j hr hj)
  ·exact h.free j j' hj hj' e
 apart i j hi hj e := by
  simp only [Dic.pivot] at e hi hj; split at e <;> split at e <;> rename_i h1 h2
  ·exact h.apart r s hr hs e.symm
  ·exact h2 (h.free s j hs hj e).symm
  ·exact h1 (h.own i r hi hr e)
  ·exact h.apart i j hi hj e
end
structure Eqv (D E : Dic) : Prop where
 sat : ∀ x, D.Sat x ↔ E.Sat x
 lin : ∃ c, ∀ x, D.Sat x -> D.lin x = E.lin x + c
theorem Eqv.refl (D : Dic) : Eqv D D := ⟨fun _ => Iff.rfl, 0, fun x _ => by grind⟩
theorem Eqv.symm {D E : Dic} (h : Eqv D E) : Eqv E D := by
 obtain ⟨c, hc⟩ := h.lin; exact ⟨fun x => (h.sat x).symm, -c, fun x hx => by have := hc x ((h.sat x).2 hx); grind⟩
theorem Eqv.trans {D E F : Dic} (h : Eqv D E) (h' : Eqv E F) : Eqv D F := by
 obtain ⟨c, hc⟩ := h.lin; obtain ⟨c', hc'⟩ := h'.lin; exact ⟨fun x => (h.sat x).trans (h'.sat x), c + c', fun x hx => by have := hc x hx; have := hc' x ((h.sat x).1 hx); grind⟩
theorem jjv {D : Dic} {r s : Nat} (hr : r < D.m) (hs : s < D.n) (hp : D.a r s ≠ 0) : Eqv D (D.pivot r s) :=
 ⟨fun x => (sat_pivot hr hs hp).symm, _, fun x hx => lin_pivot hr hs hp hx⟩
def find (f : Nat -> Nat) (k : Nat) : Nat -> Option Nat
 | 0 => none
 | m + 1 => if f m = k then some m else find f k m
theorem find_some {f : Nat -> Nat} {k i : Nat} : ∀ {m : Nat}, find f k m = some i -> i < m /\ f i = k
 | m + 1, h => by
  unfold find at h; split at h
  ·cases h; exact ⟨by omega, ‹_›⟩
  ·have := find_some h; exact ⟨by omega, this.2⟩
theorem jjs {f : Nat -> Nat} {k : Nat} : ∀ {m : Nat}, find f k m = none -> ∀ i, i < m -> f i ≠ k
 | m + 1, h, i, hi => by
  unfold find at h; split at h
  ·cases h
  ·by_cases e : i = m
   ·subst e; assumption
   ·exact jjs h i (by omega)
def Dic.pt (D : Dic) (k : Nat) : Rat := match find D.own k D.m with
 | some i => D.v i
 | none => 0
def Dic.dir (D : Dic) (s : Nat) (k : Nat) : Rat := match find D.own k D.m with
 | some i => -(D.a i s)
 | none => if k = D.free s then 1 else 0
section
variable {D : Dic}
theorem jol (h : D.Ok) {i : Nat} (hi : i < D.m) : D.pt (D.own i) = D.v i := by
 unfold Dic.pt; cases e : find D.own (D.own i) D.m with
 | none => exact absurd rfl (jjs e i hi)
 | some i' =>
  obtain ⟨h1, h2⟩ := find_some e; rw [h.own i' i h1 hi h2]
theorem jnq (h : D.Ok) {j : Nat} (hj : j < D.n) : D.pt (D.free j) = 0 := by
 unfold Dic.pt; cases e : find D.own (D.free j) D.m with
 | none => rfl
 | some i' =>
  obtain ⟨h1, h2⟩ := find_some e; exact absurd h2 (h.apart i' j h1 hj)
theorem jnr {k : Nat} (h : ∀ i, i < D.m -> D.own i ≠ k) : D.pt k = 0 := by
 unfold Dic.pt; cases e : find D.own k D.m with
 | none => rfl
 | some i' =>
  obtain ⟨h1, h2⟩ := find_some e; exact absurd h2 (h i' h1)
theorem jg3 (h : D.Ok) : D.Sat D.pt := by
 intro i hi; unfold Dic.row; rw [jol h hi, jl4 fun j hj => by rw [jnq h hj]; grind]; grind
theorem pt_lin (h : D.Ok) : D.lin D.pt = 0 := jl4 fun j hj => by rw [jnq h hj]; grind
theorem jjz (h : D.Ok) {i s : Nat} (hi : i < D.m) : D.dir s (D.own i) = -(D.a i s) := by
 unfold Dic.dir; cases e : find D.own (D.own i) D.m with
 | none => exact absurd rfl (jjs e i hi)
 | some i' =>
  obtain ⟨h1, h2⟩ := find_some e; rw [h.own i' i h1 hi h2]
theorem jex (h : D.Ok) {j s : Nat} (hj : j < D.n) (hs : s < D.n) : D.dir s (D.free j) = if j = s then 1 else 0 := by
 unfold Dic.dir; cases e : find D.own (D.free j) D.m with
 | none =>
  by_cases e' : j = s
  ·subst e'; simp
  ·simp only [e', if_false]; rw [if_neg fun h' => e' (h.free j s hj hs h')]
 | some i' =>
  obtain ⟨h1, h2⟩ := find_some e; exact absurd h2 (h.apart i' j h1 hj)
theorem jpc {k s : Nat} (h : ∀ i, i < D.m -> D.own i ≠ k) (hk : k ≠ D.free s) : D.dir s k = 0 := by
 unfold Dic.dir; cases e : find D.own k D.m with
 | none => simp [hk]
 | some i' =>
  obtain ⟨h1, h2⟩ := find_some e; exact absurd h2 (h i' h1)
theorem dir_sum (h : D.Ok) {s : Nat} (hs : s < D.n) (c : Nat -> Rat) : S D.n (fun j => c j * D.dir s (D.free j)) = c s := by
 rw [S_one hs fun j hj e => by rw [jex h hj hs, if_neg e]; grind]; rw [jex h hs hs, if_pos rfl]; grind
theorem ji9 (h : D.Ok) {s : Nat} (hs : s < D.n) {x : Nat -> Rat} (hx : D.Sat x) (t : Rat) : D.Sat (fun k => x k + t * D.dir s k) := by
 intro i hi; have h1 := hx i hi; unfold Dic.row at h1 ⊢; show x (D.own i) + t * D.dir s (D.own i) + S D.n (fun j => D.a i j * (x (D.free j) + t * D.dir s (D.free j))) = D.v i; rw [jjz h hi]; have e : S D.n (fun j => D.a i j * (x (D.free j) + t * D.dir s (D.free j))) = S D.n (fun j => D.a i j * x (D.free j)) + t * S D.n (fun j => D.a i j * D.dir s (D.free j)) := by
  rw [<- S_mul, <- S_add]; exact jdd fun j hj => by grind
 rw [e, dir_sum h hs]; grind
theorem ji6 (x w : Nat -> Rat) (t : Rat) : D.lin (fun k => x k + t * w k) = D.lin x + t * D.lin w := by
 unfold Dic.lin; rw [<- S_mul, <- S_add]; exact jdd fun j hj => by grind
theorem jlx (h : D.Ok) {s : Nat} (hs : s < D.n) : D.lin (D.dir s) = D.g s := dir_sum h hs D.g
end
end
section
theorem S_neg (f : Nat -> Rat) (n : Nat) : S n (fun j => -f j) = -S n f := by
 rw [show (fun j => -f j) = fun j => (-1) * f j from funext fun j => by grind, S_mul]; grind
inductive Enter (D : Dic) (K : Nat) : Prop
 | first (s : Nat) : s < D.n -> D.free s = K -> 0 < D.g s -> (∀ i, i < D.m -> D.own i < K -> 0 <= D.v i) -> (∀ j, j < D.n -> D.free j < K -> D.g j <= 0) -> Enter D K
 | second (r s : Nat) : r < D.m -> s < D.n -> D.free s = K -> D.own r < K -> D.v r < 0 -> D.a r s < 0 -> (∀ j, j < D.n -> D.free j < K -> 0 <= D.a r j) -> Enter D K
inductive Leave (D : Dic) (K : Nat) : Prop
 | first (r : Nat) : r < D.m -> D.own r = K -> D.v r < 0 -> (∀ i, i < D.m -> D.own i < K -> 0 <= D.v i) -> (∀ j, j < D.n -> D.free j < K -> D.g j <= 0) -> Leave D K
 | second (r s : Nat) : r < D.m -> s < D.n -> D.own r = K -> D.free s < K -> 0 < D.g s -> 0 < D.a r s -> (∀ i, i < D.m -> D.own i < K -> D.a i s <= 0) -> Leave D K
section
variable {D E : Dic} {K : Nat}
theorem jg4 (h : E.Ok) (hv : ∀ i, i < E.m -> E.own i < K -> 0 <= E.v i) {k : Nat} (hk : k < K) : 0 <= E.pt k := by
 by_cases he : ∃ i, i < E.m /\ E.own i = k
 ·obtain ⟨i, hi, rfl⟩ := he; rw [jol h hi]; exact hv i hi hk
 ·rw [jnr fun i hi e => he ⟨i, hi, e⟩]; grind
theorem jgp (h : E.Ok) {s : Nat} (hs : s < E.n) (ha : ∀ i, i < E.m -> E.own i < K -> E.a i s <= 0) {k : Nat} (hk : k < K) : 0 <= E.dir s k := by
 by_cases he : ∃ i, i < E.m /\ E.own i = k
 ·obtain ⟨i, hi, rfl⟩ := he; rw [jjz h hi]; have := ha i hi hk; grind
 ·by_cases e : k = E.free s
  ·rw [e, jex h hs hs, if_pos rfl]; grind
  ·rw [jpc (fun i hi e' => he ⟨i, hi, e'⟩) e]; grind
theorem jos {a b : Rat} (ha : a <= 0) (hb : 0 <= b) : 0 <= -(a * b) := by
 have := Rat.mul_nonneg (a := -a) (b := b) (by grind) hb; grind
theorem jor {a b : Rat} (ha : 0 < a) (hb : b < 0) : 0 < -(a * b) := by
 have := Rat.mul_pos (a := a) (b := -b) ha (by grind); grind
theorem jot {a b : Rat} (ha : a < 0) (hb : b < 0) : 0 < a * b := by
 have := Rat.mul_pos (a := -a) (b := -b) (by grind) (by grind); grind
theorem contra (hD : D.Ok) (hE : E.Ok) (hq : Eqv D E) (hin : Enter D K) (hout : Leave E K)
  (h1 : ∀ j, j < D.n -> K < D.free j -> ∀ i, i < E.m -> E.own i ≠ D.free j) (h2 : ∀ j, j < E.n -> K < E.free j -> ∀ i, i < D.m -> D.own i ≠ E.free j) : False := by
 obtain ⟨c, hc⟩ := hq.lin; cases hout with
 | first r hr hK hv hvs hgs =>
  have xE := jg3 hE; have xD := (hq.sat _).2 xE; have ptK : E.pt K = E.v r := by rw [<- hK]; exact jol hE hr
  have big : ∀ j, j < D.n -> K < D.free j -> E.pt (D.free j) = 0 := fun j hj hk => jnr (h1 j hj hk); cases hin with
  | first s hs hKs hg hvs' hgs' =>
   have e1 := hc _ xD; have e2 := hc _ (jg3 hD); rw [pt_lin hE] at e1; rw [pt_lin hD] at e2; have p1 : 0 < -D.lin E.pt := by
    unfold Dic.lin; rw [<- S_neg]; refine S_pos hs (fun j hj => ?_) ?_
    ·rcases Nat.lt_trichotomy (D.free j) K with hk | hk | hk
     ·exact jos (hgs' j hj hk) (jg4 hE hvs hk)
     ·have : j = s := hD.free j s hj hs (hk.trans hKs.symm); subst this; rw [hk, ptK]; have := jor hg hv; grind
     ·rw [big j hj hk]; grind
    ·rw [hKs, ptK]; exact jor hg hv
   have p2 : 0 <= -E.lin D.pt := by
    unfold Dic.lin; rw [<- S_neg]; refine jhp fun j hj => ?_; rcases Nat.lt_trichotomy (E.free j) K with hk | hk | hk
    ·exact jos (hgs j hj hk) (jg4 hD hvs' hk)
    ·exact absurd (hK.trans hk.symm) (hE.apart r j hr hj)
    ·rw [jnr (h2 j hj hk)]; grind
   grind
  | second p s hp hs hKs hpK hvp hap has =>
   have h3 := xD p hp; unfold Dic.row at h3; have p1 : 0 < S D.n (fun j => D.a p j * E.pt (D.free j)) := by
    refine S_pos hs (fun j hj => ?_) ?_
    ·rcases Nat.lt_trichotomy (D.free j) K with hk | hk | hk
     ·exact Rat.mul_nonneg (has j hj hk) (jg4 hE hvs hk)
     ·have : j = s := hD.free j s hj hs (hk.trans hKs.symm); subst this; rw [hk, ptK]; have := jot hap hv; grind
     ·rw [big j hj hk]; grind
    ·rw [hKs, ptK]; exact jot hap hv
   have p2 := jg4 hE hvs hpK; grind
 | second r q hr hq' hK hqK hg ha has =>
  have xE := ji9 hE hq' (jg3 hE) 1; have xD := (hq.sat _).2 xE; have yD := (hq.sat _).2 (jg3 hE); have wK : E.dir q K = -(E.a r q) := by rw [<- hK]; exact jjz hE hr
  have big : ∀ j, j < D.n -> K < D.free j -> E.dir q (D.free j) = 0 := fun j hj hk => jpc (h1 j hj hk) (by omega); cases hin with
  | first s hs hKs hgp hvs' hgs' =>
   have e1 := hc _ xD; have e2 := hc _ yD; rw [ji6, ji6, jlx hE hq'] at e1; have p1 : 0 < -D.lin (E.dir q) := by
    unfold Dic.lin; rw [<- S_neg]; refine S_pos hs (fun j hj => ?_) ?_
    ·rcases Nat.lt_trichotomy (D.free j) K with hk | hk | hk
     ·exact jos (hgs' j hj hk) (jgp hE hq' has hk)
     ·have : j = s := hD.free j s hj hs (hk.trans hKs.symm); subst this; rw [hk, wK]; have := jor hgp (b := -(E.a r q)) (by grind); grind
     ·rw [big j hj hk]; grind
    ·rw [hKs, wK]; exact jor hgp (by grind)
   grind
  | second p s hp hs hKs hpK hvp hap has' =>
   have h3 := xD p hp; have h4 := yD p hp; unfold Dic.row at h3 h4; have e : S D.n (fun j => D.a p j * (E.pt (D.free j) + 1 * E.dir q (D.free j))) = S D.n (fun j => D.a p j * E.pt (D.free j)) + S D.n (fun j => D.a p j * E.dir q (D.free j)) := by
    rw [<- S_add]; exact jdd fun j hj => by grind
   rw [e] at h3; have p1 : 0 < S D.n (fun j => D.a p j * E.dir q (D.free j)) := by
    refine S_pos hs (fun j hj => ?_) ?_
    ·rcases Nat.lt_trichotomy (D.free j) K with hk | hk | hk
     ·exact Rat.mul_nonneg (has' j hj hk) (jgp hE hq' has hk)
     ·have : j = s := hD.free j s hj hs (hk.trans hKs.symm); subst this; rw [hk, wK]; have := jot hap (b := -(E.a r q)) (by grind); grind
     ·rw [big j hj hk]; grind
    ·rw [hKs, wK]; exact jot hap (by grind)
   have p2 := jgp hE hq' has hpK; grind
end
structure Rule (D : Dic) (r s : Nat) : Prop where
 hr : r < D.m
 hs : s < D.n
 sel : (D.v r < 0 /\ (∀ i, i < D.m -> D.v i < 0 -> D.own r <= D.own i) /\ (∀ j, j < D.n -> 0 < D.g j -> D.own r < D.free j) /\ D.a r s < 0 /\ ∀ j, j < D.n -> D.a r j < 0 -> D.free s <= D.free j) \/
  (0 < D.g s /\ (∀ j, j < D.n -> 0 < D.g j -> D.free s <= D.free j) /\ (∀ i, i < D.m -> D.v i < 0 -> D.free s < D.own i) /\ 0 < D.a r s /\ ∀ i, i < D.m -> 0 < D.a i s -> D.own r <= D.own i)
section
variable {D : Dic} {r s K : Nat}
theorem Rule.ne (h : Rule D r s) : D.a r s ≠ 0 := by
 rcases h.sel with ⟨_, _, _, h1, _⟩ | ⟨_, _, _, h1, _⟩ <;> grind
theorem jjh {a : Rat} (h : ¬ a < 0) : 0 <= a := by grind
theorem ji3 {a : Rat} (h : ¬ 0 < a) : a <= 0 := by grind
theorem Rule.enter (hD : D.Ok) (h : Rule D r s) (hK : D.free s = K) (hr : D.own r <= K) : Enter D K := by
 have hne := hD.apart r s h.hr h.hs; rcases h.sel with ⟨h1, h2, h3, h4, h5⟩ | ⟨h1, h2, h3, h4, h5⟩
 ·exact .second r s h.hr h.hs hK (by omega) h1 h4 fun j hj hk => jjh fun h6 => by have := h5 j hj h6; omega
 ·exact .first s h.hs hK h1 (fun i hi hk => jjh fun h6 => by have := h3 i hi h6; omega) fun j hj hk => ji3 fun h6 => by have := h2 j hj h6; omega
theorem Rule.leave (hD : D.Ok) (h : Rule D r s) (hK : D.own r = K) (hs : D.free s <= K) : Leave D K := by
 have hne := hD.apart r s h.hr h.hs; rcases h.sel with ⟨h1, h2, h3, h4, h5⟩ | ⟨h1, h2, h3, h4, h5⟩
 ·exact .first r h.hr hK h1 (fun i hi hk => jjh fun h6 => by have := h2 i hi h6; omega) fun j hj hk => ji3 fun h6 => by have := h3 j hj h6; omega
 ·exact .second r s h.hr h.hs hK (by omega) h1 h4 fun i hi hk => ji3 fun h6 => by have := h5 i hi h6; omega
def Own (D : Dic) (k : Nat) : Prop := ∃ i, i < D.m /\ D.own i = k
theorem jmy (hD : D.Ok) (hr : r < D.m) (hs : s < D.n) {k : Nat} (h1 : k ≠ D.own r) (h2 : k ≠ D.free s) : Own (D.pivot r s) k ↔ Own D k := by
 constructor
 ·rintro ⟨i, hi, e⟩; simp only [Dic.pivot] at hi e; split at e
  ·exact absurd e.symm h2
  ·exact ⟨i, hi, e⟩
 ·rintro ⟨i, hi, e⟩; have hne : i ≠ r := fun h => h1 (by rw [<- e, h]); exact ⟨i, hi, by simp [Dic.pivot, hne, e]⟩
theorem own_in (hr : r < D.m) : Own (D.pivot r s) (D.free s) := ⟨r, hr, by simp [Dic.pivot]⟩
theorem own_out (hD : D.Ok) (hr : r < D.m) (hs : s < D.n) : ¬ Own (D.pivot r s) (D.own r) := by
 rintro ⟨i, hi, e⟩; simp only [Dic.pivot] at hi e; split at e
 ·exact hD.apart r s hr hs e.symm
 ·rename_i h; exact h (hD.own i r hi hr e)
end
structure Run (D : Nat -> Dic) (r s : Nat -> Nat) (T : Nat) : Prop where
 ok : (D 0).Ok
 rule : ∀ t, t < T -> Rule (D t) (r t) (s t)
 next : ∀ t, t < T -> D (t + 1) = (D t).pivot (r t) (s t)
section
variable {D : Nat -> Dic} {r s : Nat -> Nat} {T K : Nat}
theorem Run.oks (h : Run D r s T) : ∀ t, t <= T -> (D t).Ok
 | 0, _ => h.ok
 | t + 1, ht => by
  have h1 := h.rule t (by omega); rw [h.next t (by omega)]; exact jlk (h.oks t (by omega)) h1.hr h1.hs
theorem Run.eqv (h : Run D r s T) : ∀ (k t : Nat), t + k <= T -> Eqv (D t) (D (t + k))
 | 0, t, _ => Eqv.refl _
 | k + 1, t, ht => by
  have h1 := h.rule (t + k) (by omega); have h2 := jjv h1.hr h1.hs h1.ne; rw [<- h.next (t + k) (by omega)] at h2; exact (h.eqv k t (by omega)).trans h2
theorem Run.own (h : Run D r s T) {x : Nat} : ∀ (k t : Nat), t + k <= T -> (∀ u, t <= u -> u < t + k -> x ≠ (D u).own (r u) /\ x ≠ (D u).free (s u)) -> (Own (D (t + k)) x ↔ Own (D t) x)
 | 0, t, _, _ => Iff.rfl
 | k + 1, t, ht, hx => by
  have h1 := h.rule (t + k) (by omega); have h2 := hx (t + k) (by omega) (by omega); have h3 := jmy (h.oks (t + k) (by omega)) h1.hr h1.hs h2.1 h2.2; rw [<- h.next (t + k) (by omega)] at h3; exact h3.trans (h.own k t (by omega) fun u hu hu' => hx u hu (by omega))
theorem Run.part (h : Run D r s T) {a n : Nat} (ha : a + n <= T) : Run (fun t => D (a + t)) (fun t => r (a + t)) (fun t => s (a + t)) n :=
 ⟨h.oks a (by omega), fun t ht => h.rule (a + t) (by omega), fun t ht => h.next (a + t) (by omega)⟩
def Names (D : Nat -> Dic) (r s : Nat -> Nat) (K t : Nat) : Prop := (D t).own (r t) = K \/ (D t).free (s t) = K
theorem least {p : Nat -> Prop} : ∀ {n : Nat}, p n -> ∃ m, p m /\ ∀ k, k < m -> ¬ p k := by
 intro n
 induction n using Nat.strongRecOn with
 | _ n ih =>
  intro h; by_cases he : ∃ m, m < n /\ p m
  ·obtain ⟨m, hm, hp⟩ := he; exact ih m hm hp
  ·exact ⟨n, h, fun k hk hp => he ⟨k, hk, hp⟩⟩
theorem Run.once (h : Run D r s T) (hK : ∀ t, t < T -> (D t).own (r t) <= K /\ (D t).free (s t) <= K) {t1 t2 : Nat} (h12 : t1 < t2) (h2 : t2 < T) (n1 : Names D r s K t1) (n2 : Names D r s K t2) (hb : ∀ t, t1 < t -> t < t2 -> ¬ Names D r s K t) : False := by
 have r1 := h.rule t1 (by omega); have r2 := h.rule t2 h2; have o1 := h.oks t1 (by omega); have o2 := h.oks t2 (by omega); have hq : Eqv (D t1) (D t2) := by
  have := h.eqv (t2 - t1) t1 (by omega)
  rwa [show t1 + (t2 - t1) = t2 by omega] at this
 have big : ∀ x, K < x -> (Own (D t2) x ↔ Own (D t1) x) := fun x hx => by
  have := h.own (x := x) (t2 - t1) t1 (by omega) fun u hu hu' => by have := hK u (by omega); omega
  rwa [show t1 + (t2 - t1) = t2 by omega] at this
 have mid : Own (D t2) K ↔ Own (D (t1 + 1)) K := by
  have := h.own (x := K) (t2 - (t1 + 1)) (t1 + 1) (by omega) fun u hu hu' => by
   have := hb u (by omega) (by omega); exact ⟨fun e => this (.inl e.symm), fun e => this (.inr e.symm)⟩
  rwa [show t1 + 1 + (t2 - (t1 + 1)) = t2 by omega] at this
 have f1 : ∀ j, j < (D t1).n -> K < (D t1).free j -> ∀ i, i < (D t2).m -> (D t2).own i ≠ (D t1).free j := fun j hj hk i hi e => by
  obtain ⟨i', hi', e'⟩ := (big _ hk).1 ⟨i, hi, e⟩; exact o1.apart i' j hi' hj e'
 have f2 : ∀ j, j < (D t2).n -> K < (D t2).free j -> ∀ i, i < (D t1).m -> (D t1).own i ≠ (D t2).free j := fun j hj hk i hi e => by
  obtain ⟨i', hi', e'⟩ := (big _ hk).2 ⟨i, hi, e⟩; exact o2.apart i' j hi' hj e'
 rw [h.next t1 (by omega)] at mid; have k1 := hK t1 (by omega); have k2 := hK t2 h2; rcases n1 with n1 | n1
 ·
  have hno : ¬ Own (D t2) K := fun ho => own_out o1 r1.hr r1.hs (by rw [n1]; exact mid.1 ho); rcases n2 with n2 | n2
  ·exact hno ⟨_, r2.hr, n2⟩
  ·exact contra o2 o1 hq.symm (r2.enter o2 n2 k2.1) (r1.leave o1 n1 k1.2) f2 f1
 ·have ho : Own (D t2) K := mid.2 (by rw [<- n1]; exact own_in r1.hr); rcases n2 with n2 | n2
  ·exact contra o1 o2 hq (r1.enter o1 n1 k1.1) (r2.leave o2 n2 k2.2) f1 f2
  ·obtain ⟨i, hi, e⟩ := ho; exact o2.apart i _ hi r2.hs (e.trans n2.symm)
end
theorem Run.ends : ∀ (K T : Nat) (D : Nat -> Dic) (r s : Nat -> Nat), Run D r s T -> (∀ t, t < T -> (D t).own (r t) < K /\ (D t).free (s t) < K) -> T < 2 ^ K
 | 0, T, D, r, s, h, hK => by
  rcases Nat.eq_zero_or_pos T with h0 | h0
  ·subst h0; decide
  ·have := hK 0 h0; omega
 | K + 1, T, D, r, s, h, hK => by
  have h2 : 2 ^ (K + 1) = 2 ^ K + 2 ^ K := by rw [Nat.pow_succ]; omega
  by_cases he : ∃ t, t < T /\ Names D r s K t
  ·obtain ⟨t0, ht0⟩ := he; obtain ⟨t1, ⟨ht1, hn1⟩, hl1⟩ := least (p := fun t => t < T /\ Names D r s K t) ht0; have a1 := Run.ends K t1 D r s (by simpa using h.part (a := 0) (n := t1) (by omega)) fun t ht => by
    have g1 := hK t (by omega); have g2 := hl1 t ht; have g3 : ¬ Names D r s K t := fun hn => g2 ⟨by omega, hn⟩; unfold Names at g3; omega
   have a2 := Run.ends K (T - (t1 + 1)) _ _ _ (h.part (a := t1 + 1) (n := T - (t1 + 1)) (by omega)) fun t ht => by
    have g1 := hK (t1 + 1 + t) (by omega); have g3 : ¬ Names D r s K (t1 + 1 + t) := fun hn => by
     obtain ⟨t2, ⟨ht2, ht2', hn2⟩, hl2⟩ := least (p := fun t => t1 < t /\ t < T /\ Names D r s K t) ⟨(by omega : t1 < t1 + 1 + t), by omega, hn⟩; exact h.once (fun t ht => by have := hK t ht; omega) ht2 ht2' hn1 hn2 fun t g4 g5 g6 => hl2 t g5 ⟨g4, by omega, g6⟩
    unfold Names at g3; omega
   omega
  ·have := Run.ends K T D r s h fun t ht => by
    have g1 := hK t ht; have g3 : ¬ Names D r s K t := fun hn => he ⟨t, ht, hn⟩; unfold Names at g3; omega
   omega
end
section
def Free (D : Dic) (k : Nat) : Prop := ∃ j, j < D.n /\ D.free j = k
def SameV (D E : Dic) : Prop := ∀ k, (Own D k \/ Free D k) ↔ (Own E k \/ Free E k)
theorem SameV.refl (D : Dic) : SameV D D := fun _ => Iff.rfl
theorem SameV.trans {D E F : Dic} (h : SameV D E) (h' : SameV E F) : SameV D F := fun k => (h k).trans (h' k)
theorem SameV.symm {D E : Dic} (h : SameV D E) : SameV E D := fun k => (h k).symm
theorem free_pivot {D : Dic} {r s k : Nat} (hs : s < D.n) : Free (D.pivot r s) k ↔ (k = D.own r \/ ∃ j, j < D.n /\ j ≠ s /\ D.free j = k) := by
 constructor
 ·rintro ⟨j, hj, e⟩; simp only [Dic.pivot] at hj e; split at e
  ·exact .inl e.symm
  ·exact .inr ⟨j, hj, ‹_›, e⟩
 ·rintro (e | ⟨j, hj, hne, e⟩)
  ·exact ⟨s, hs, by simp [Dic.pivot, e]⟩
  ·exact ⟨j, hj, by simp [Dic.pivot, hne, e]⟩
theorem jja {D : Dic} (hD : D.Ok) {r s : Nat} (hr : r < D.m) (hs : s < D.n) : SameV D (D.pivot r s) := by
 intro k; rw [free_pivot hs]; constructor
 ·rintro (⟨i, hi, e⟩ | ⟨j, hj, e⟩)
  ·by_cases h : i = r
   ·subst h; exact .inr (.inl e.symm)
   ·exact .inl ⟨i, hi, by simp [Dic.pivot, h, e]⟩
  ·by_cases h : j = s
   ·subst h; exact .inl ⟨r, hr, by simp [Dic.pivot, e]⟩
   ·exact .inr (.inr ⟨j, hj, h, e⟩)
 ·rintro (⟨i, hi, e⟩ | e | ⟨j, hj, _, e⟩)
  ·simp only [Dic.pivot] at hi e; split at e
   ·exact .inr ⟨s, hs, e⟩
   ·exact .inl ⟨i, hi, e⟩
  ·exact .inl ⟨r, hr, e.symm⟩
  ·exact .inr ⟨j, hj, e⟩
theorem jpb {D E : Dic} (hD : D.Ok) (hq : Eqv D E) (hE : E.Ok) {s : Nat} (hs : s < D.n) (h0 : ∀ j, j < E.n -> D.dir s (E.free j) = 0) : ∀ i, i < E.m -> D.dir s (E.own i) = 0 := by
 intro i hi; have h1 := jg3 hD; have h2 := (hq.sat _).1 h1 i hi; have h3 := (hq.sat _).1 (ji9 hD hs h1 1) i hi; unfold Dic.row at h2 h3; have e : S E.n (fun j => E.a i j * (D.pt (E.free j) + 1 * D.dir s (E.free j))) = S E.n (fun j => E.a i j * D.pt (E.free j)) := jdd fun j hj => by rw [h0 j hj]; grind
 rw [e] at h3; grind
def cntP (p : Nat -> Prop) [DecidablePred p] : Nat -> Nat
 | 0 => 0
 | n + 1 => cntP p n + (if p n then 1 else 0)
theorem cntP_le {p q : Nat -> Prop} [DecidablePred p] [DecidablePred q] : ∀ {n : Nat}, (∀ k, k < n -> p k -> q k) -> cntP p n <= cntP q n
 | 0, _ => Nat.le_refl _
 | n + 1, h => by
  have ih := cntP_le (n := n) fun k hk => h k (by omega); have := h n (by omega); simp only [cntP]; by_cases hp : p n
  ·rw [if_pos hp, if_pos (this hp)]; omega
  ·rw [if_neg hp]; split <;> omega
theorem cntP_lt {p q : Nat -> Prop} [DecidablePred p] [DecidablePred q] {i : Nat} : ∀ {n : Nat}, i < n -> (∀ k, k < n -> p k -> q k) -> ¬ p i -> q i -> cntP p n < cntP q n
 | n + 1, hi, h, hp, hq => by
  simp only [cntP]; by_cases e : i = n
  ·subst e; have ih := cntP_le (n := i) (p := p) (q := q) fun k hk => h k (by omega); rw [if_neg hp, if_pos hq]; omega
  ·have ih := cntP_lt (n := n) (by omega) (fun k hk => h k (by omega)) hp hq; have := h n (by omega); by_cases hpn : p n
   ·rw [if_pos hpn, if_pos (this hpn)]; omega
   ·rw [if_neg hpn]; split <;> omega
open Classical in
noncomputable def dist (D E : Dic) : Nat := cntP (fun i => ¬ Own D (E.own i)) E.m
inductive Path : Dic -> Nat -> Dic -> Prop
 | nil (D : Dic) : Path D 0 D
 | step (D : Dic) (r s t : Nat) (E : Dic) : r < D.m -> s < D.n -> D.a r s ≠ 0 -> Path (D.pivot r s) t E -> Path D (t + 1) E
theorem je6 {D : Dic} (hD : D.Ok) {k : Nat} (h1 : Own D k) (h2 : Free D k) : False := by
 obtain ⟨i, hi, e⟩ := h1; obtain ⟨j, hj, e'⟩ := h2; exact hD.apart i j hi hj (e.trans e'.symm)
theorem near_of {D E : Dic} (hD : D.Ok) (hE : E.Ok) (hq : Eqv D E) (hv : SameV D E) (h0 : ∀ i, i < E.m -> Own D (E.own i)) : ∀ k, Own D k -> Own E k := by
 intro k ⟨r, hr, e⟩; subst e; rcases (hv (D.own r)).1 (.inl ⟨r, hr, rfl⟩) with h | ⟨s, hs, e⟩
 ·exact h
 ·exfalso; have h1 : ∀ j, j < D.n -> E.dir s (D.free j) = 0 := by
   intro j hj; rcases (hv (D.free j)).1 (.inr ⟨j, hj, rfl⟩) with ⟨i, hi, e'⟩ | ⟨j', hj', e'⟩
   ·exact (je6 hD (h0 i hi) ⟨j, hj, e'.symm⟩).elim
   ·rw [<- e', jex hE hj' hs, if_neg]; intro h; subst h; exact hD.apart r j hr hj (e.symm.trans e')
  have h2 := jpb hE hq.symm hD hs h1 r hr; rw [<- e, jex hE hs hs, if_pos rfl] at h2; exact absurd h2 (by decide)
open Classical in
theorem jmx : ∀ (t : Nat) (D E : Dic), D.Ok -> E.Ok -> Eqv D E -> SameV D E -> dist D E <= t -> ∃ (t' : Nat) (F : Dic), t' <= t /\ Path D t' F /\ F.Ok /\ Eqv F E /\ SameV F E /\ ∀ k, Own F k ↔ Own E k
 | t, D, E, hD, hE, hq, hv, ht => by
  by_cases h0 : ∀ i, i < E.m -> Own D (E.own i)
  ·exact ⟨0, D, Nat.zero_le _, .nil D, hD, hq, hv, fun k => ⟨near_of hD hE hq hv h0 k, fun ⟨i, hi, e⟩ => e ▸ h0 i hi⟩⟩
  ·obtain ⟨i0, hi0, hno⟩ : ∃ i, i < E.m /\ ¬ Own D (E.own i) := by
    refine Classical.byContradiction fun hc => h0 fun i hi => Classical.byContradiction fun h => hc ⟨i, hi, h⟩
   obtain ⟨s, hs, es⟩ : Free D (E.own i0) := ((hv (E.own i0)).2 (.inl ⟨i0, hi0, rfl⟩)).resolve_left hno; obtain ⟨r, hr, hrE, hrs⟩ : ∃ r, r < D.m /\ ¬ Own E (D.own r) /\ D.a r s ≠ 0 := by
    refine Classical.byContradiction fun hc => ?_; have h1 : ∀ j, j < E.n -> D.dir s (E.free j) = 0 := by
     intro j hj; rcases (hv (E.free j)).2 (.inr ⟨j, hj, rfl⟩) with ⟨i, hi, e'⟩ | ⟨j', hj', e'⟩
     ·rw [<- e', jjz hD hi]; have : D.a i s = 0 := Classical.byContradiction fun h => hc ⟨i, hi, fun ho => je6 hE ho ⟨j, hj, e'.symm⟩, h⟩; rw [this]; grind
     ·rw [<- e', jex hD hj' hs, if_neg]; intro h; subst h; exact hE.apart i0 j hi0 hj (es.symm.trans e')
    have h2 := jpb hD hq hE hs h1 i0 hi0; rw [<- es, jex hD hs hs, if_pos rfl] at h2; exact absurd h2 (by decide)
   have hD' := jlk hD hr hs; have hq' : Eqv (D.pivot r s) E := (jjv hr hs hrs).symm.trans hq; have hv' : SameV (D.pivot r s) E := (jja hD hr hs).symm.trans hv; have hd' : dist (D.pivot r s) E < dist D E := by
    refine cntP_lt hi0 (fun k hk hp ho => hp ?_) (fun h => h ?_) hno
    ·by_cases e1 : E.own k = D.own r
     ·exact (hrE (e1 ▸ ⟨k, hk, rfl⟩)).elim
     ·by_cases e2 : E.own k = D.free s
      ·rw [e2]; exact own_in hr
      ·exact (jmy hD hr hs e1 e2).2 ho
    ·rw [<- es]; exact own_in hr
   cases t with
   | zero => omega
   | succ t =>
    obtain ⟨t', F, h1, h2, h3⟩ := jmx t (D.pivot r s) E hD' hE hq' hv' (by omega); exact ⟨t' + 1, F, by omega, .step D r s t' F hr hs hrs h2, h3⟩
open Classical in
theorem dist_le_n {D E : Dic} (hE : E.Ok) (hv : SameV D E) : dist D E <= D.n := by
 have key : ∀ (k n : Nat) (f : Nat -> Nat) (p : Nat -> Prop) [DecidablePred p], (∀ i, i < k -> p i -> ∃ j, j < n /\ f i = j) -> (∀ i i', i < k -> i' < k -> p i -> p i' -> f i = f i' -> i = i') -> cntP p k <= n := by
  intro k
  induction k with
  | zero => intros; exact Nat.zero_le _
  | succ k ih =>
   intro n f p _ h1 h2; simp only [cntP]; by_cases hp : p k
   ·rw [if_pos hp]; obtain ⟨j, hj, e⟩ := h1 k (by omega) hp; obtain ⟨n', rfl⟩ : ∃ n', n = n' + 1 := ⟨n - 1, by omega⟩; have := ih n' (fun i => if f i = n' then j else f i) p (fun i hi hpi => ⟨_, ?_, rfl⟩) (fun i i' hi hi' hpi hpi' e' => ?_)
    ·omega
    ·obtain ⟨j', hj', e'⟩ := h1 i (by omega) hpi; have hne : f i ≠ f k := fun e2 => by have := h2 i k (by omega) (by omega) hpi hp e2; omega
     split <;> omega
    ·have hne : f i ≠ f k := fun e2 => by have := h2 i k (by omega) (by omega) hpi hp e2; omega
     have hne' : f i' ≠ f k := fun e2 => by have := h2 i' k (by omega) (by omega) hpi' hp e2; omega
     obtain ⟨a1, a2, a3⟩ := h1 i (by omega) hpi; obtain ⟨b1, b2, b3⟩ := h1 i' (by omega) hpi'; refine h2 i i' (by omega) (by omega) hpi hpi' ?_; split at e' <;> split at e' <;> omega
   ·rw [if_neg hp]; exact ih n f p (fun i hi => h1 i (by omega)) fun i i' hi hi' => h2 i i' (by omega) (by omega)
 have hF : ∀ i, i < E.m -> ¬ Own D (E.own i) -> Free D (E.own i) := fun i hi hn => ((hv (E.own i)).2 (.inl ⟨i, hi, rfl⟩)).resolve_left hn; unfold dist; have pick : ∀ i, ∃ j, (i < E.m /\ ¬ Own D (E.own i)) -> j < D.n /\ D.free j = E.own i := fun i => by
  by_cases h : i < E.m /\ ¬ Own D (E.own i)
  ·obtain ⟨j, hj⟩ := hF i h.1 h.2; exact ⟨j, fun _ => hj⟩
  ·exact ⟨0, fun h' => absurd h' h⟩
 refine @key E.m D.n (fun i => Classical.choose (pick i)) _ _ (fun i hi hp => ⟨_, (Classical.choose_spec (pick i) ⟨hi, hp⟩).1, rfl⟩) fun i i' hi hi' hp hp' e => ?_; have a := (Classical.choose_spec (pick i) ⟨hi, hp⟩).2; have b := (Classical.choose_spec (pick i') ⟨hi', hp'⟩).2; rw [e, b] at a; exact hE.own i i' hi hi' a.symm
theorem same_v {D E : Dic} (hD : D.Ok) (hE : E.Ok) (hq : Eqv D E) (hv : SameV D E) (ho : ∀ k, Own D k ↔ Own E k) {i i' : Nat} (hi : i < D.m) (hi' : i' < E.m) (e : D.own i = E.own i') : D.v i = E.v i' := by
 have h1 := (hq.sat _).1 (jg3 hD) i' hi'; unfold Dic.row at h1; have h2 : S E.n (fun j => E.a i' j * D.pt (E.free j)) = 0 := jl4 fun j hj => by
  have : Free D (E.free j) := ((hv (E.free j)).2 (.inr ⟨j, hj, rfl⟩)).resolve_left fun h => je6 hE ((ho _).1 h) ⟨j, hj, rfl⟩; obtain ⟨j', hj', e'⟩ := this; rw [<- e', jnq hD hj']; grind
 rw [h2, <- e, jol hD hi] at h1; grind
theorem dir_of {D E : Dic} (hD : D.Ok) (hE : E.Ok) (hv : SameV D E) (ho : ∀ k, Own D k ↔ Own E k) {s s' : Nat} (hs : s < D.n) (hs' : s' < E.n) (e : D.free s = E.free s') : ∀ j, j < E.n -> D.dir s (E.free j) = if j = s' then 1 else 0 := by
 intro j hj; have : Free D (E.free j) := ((hv (E.free j)).2 (.inr ⟨j, hj, rfl⟩)).resolve_left fun h => je6 hE ((ho _).1 h) ⟨j, hj, rfl⟩; obtain ⟨j', hj', e'⟩ := this; rw [<- e', jex hD hj' hs]; by_cases h : j = s'
 ·subst h; rw [if_pos rfl, if_pos (hD.free j' s hj' hs (e'.trans e.symm))]
 ·rw [if_neg h, if_neg]; intro h'; subst h'; exact h (hE.free j s' hj hs' (e'.symm.trans e))
theorem same_a {D E : Dic} (hD : D.Ok) (hE : E.Ok) (hq : Eqv D E) (hv : SameV D E) (ho : ∀ k, Own D k ↔ Own E k) {i i' s s' : Nat} (hi : i < D.m) (hi' : i' < E.m) (hs : s < D.n) (hs' : s' < E.n) (e : D.own i = E.own i') (e' : D.free s = E.free s') : D.a i s = E.a i' s' := by
 have hx := jg3 hD; have h1 := (hq.sat _).1 hx i' hi'; have h2 := (hq.sat _).1 (ji9 hD hs hx 1) i' hi'; unfold Dic.row at h1 h2; have hd := dir_of hD hE hv ho hs hs' e'; have h3 : S E.n (fun j => E.a i' j * (D.pt (E.free j) + 1 * D.dir s (E.free j))) = S E.n (fun j => E.a i' j * D.pt (E.free j)) + S E.n (fun j => E.a i' j * D.dir s (E.free j)) := by
  rw [<- S_add]; exact jdd fun j hj => by grind
 have h4 : S E.n (fun j => E.a i' j * D.dir s (E.free j)) = E.a i' s' := by
  rw [S_one hs' fun j hj hne => by rw [hd j hj, if_neg hne]; grind]; rw [hd s' hs', if_pos rfl]; grind
 dsimp only at h2; rw [h3, h4, <- e, jjz hD hi] at h2; rw [<- e] at h1; grind
theorem same_g {D E : Dic} (hD : D.Ok) (hE : E.Ok) (hq : Eqv D E) (hv : SameV D E) (ho : ∀ k, Own D k ↔ Own E k) {s s' : Nat} (hs : s < D.n) (hs' : s' < E.n) (e' : D.free s = E.free s') : D.g s = E.g s' := by
 obtain ⟨c, hc⟩ := hq.lin; have hx := jg3 hD; have h1 := hc _ hx; have h2 := hc _ (ji9 hD hs hx 1); have hd := dir_of hD hE hv ho hs hs' e'; rw [ji6, ji6, jlx hD hs] at h2; have h4 : E.lin (D.dir s) = E.g s' := by
  unfold Dic.lin; rw [S_one hs' fun j hj hne => by rw [hd j hj, if_neg hne]; grind]; rw [hd s' hs', if_pos rfl]; grind
 rw [h4] at h2; grind
def Ov (B q : Nat) (x : Rat) : Prop := ∃ z : Int, x * (q : Rat) = (z : Rat) /\ z.natAbs <= B
structure Small (B : Nat) (q : Nat) (D : Dic) : Prop where
 q0 : 0 < q
 qB : q <= B
 v : ∀ i, i < D.m -> Ov B q (D.v i)
 g : ∀ j, j < D.n -> Ov B q (D.g j)
 a : ∀ i j, i < D.m -> j < D.n -> Ov B q (D.a i j)
theorem jdk {a b : Int} {A B : Nat} (ha : a.natAbs <= A) (hb : b.natAbs <= B) : (a * b).natAbs <= A * B := by
 rw [Int.natAbs_mul]; exact Nat.mul_le_mul ha hb
theorem jhm (a b : Int) : ((a * b : Int) : Rat) = (a : Rat) * (b : Rat) := Rat.intCast_mul a b
theorem cast_sub (a b : Int) : ((a - b : Int) : Rat) = (a : Rat) - (b : Rat) := Rat.intCast_sub a b
theorem Ov.mono {B C q : Nat} {x : Rat} (h : Ov B q x) (hB : B <= C) : Ov C q x := by
 obtain ⟨z, h1, h2⟩ := h; exact ⟨z, h1, Nat.le_trans h2 hB⟩
theorem Ov_zero {B q : Nat} : Ov B q 0 := ⟨0, by rw [show ((0 : Int) : Rat) = 0 from rfl]; grind, Nat.zero_le _⟩
theorem Ov_one {B q : Nat} (h : q <= B) : Ov B q 1 := ⟨(q : Int), by rw [show (((q : Int)) : Rat) = (q : Rat) from rfl]; grind, by rw [Int.natAbs_natCast]; exact h⟩
theorem jpk (p : Int) : ∃ s : Int, s.natAbs <= 1 /\ ((p.natAbs : Nat) : Rat) = (s : Rat) * (p : Rat) := by
 rcases Int.natAbs_eq p with h | h
 ·refine ⟨1, by decide, ?_⟩; have e : ((p.natAbs : Nat) : Rat) = (((p.natAbs : Nat) : Int) : Rat) := rfl; rw [e, <- h, show ((1 : Int) : Rat) = 1 from rfl]; grind
 ·refine ⟨-1, by decide, ?_⟩; have e : ((p.natAbs : Nat) : Rat) = (((p.natAbs : Nat) : Int) : Rat) := rfl; have h' : ((p.natAbs : Nat) : Int) = -p := by omega
  rw [e, h', <- Rat.intCast_mul]; congr 1; omega
theorem jo3 {B q : Nat} {a u w : Rat} {p : Int} (hq : q <= B) (ha : a * (q : Rat) = (p : Rat)) (hw : w * a = u) (hu : Ov B q u) : Ov (2 * B * B) (q * p.natAbs) w := by
 obtain ⟨z, h1, h2⟩ := hu; obtain ⟨s, hs, e⟩ := jpk p; refine ⟨s * ((q : Int) * z), ?_, ?_⟩
 ·rw [Rat.natCast_mul, e, jhm, jhm, show (((q : Int)) : Rat) = (q : Rat) from rfl, <- h1, <- hw, <- ha]; grind
 ·have h3 : (((q : Int)) * z).natAbs <= B * B := jdk (by rw [Int.natAbs_natCast]; exact hq) h2; have h4 := jdk hs h3; have h5 : 1 * (B * B) <= 2 * B * B := by rw [Nat.mul_assoc]; exact Nat.mul_le_mul_right _ (by omega)
  exact Nat.le_trans h4 h5
theorem jhr {B q : Nat} {a u w x y : Rat} {p : Int} (hp : p.natAbs <= B) (ha : a * (q : Rat) = (p : Rat)) (hw : w * a = u) (hu : Ov B q u) (hx : Ov B q x) (hy : Ov B q y) : Ov (2 * B * B) (q * p.natAbs) (x - y * w) := by
 obtain ⟨z, h1, h2⟩ := hu; obtain ⟨zx, x1, x2⟩ := hx; obtain ⟨zy, y1, y2⟩ := hy; obtain ⟨s, hs, e⟩ := jpk p; refine ⟨s * (zx * p - zy * z), ?_, ?_⟩
 ·rw [Rat.natCast_mul, e, jhm, cast_sub, jhm, jhm, <- h1, <- x1, <- y1, <- hw, <- ha]; grind
 ·have h3 := jdk x2 hp; have h4 := jdk y2 h2; have h5 : (zx * p - zy * z).natAbs <= 2 * B * B := by rw [Nat.mul_assoc, Nat.two_mul]; omega
  have := jdk hs h5; omega
theorem small_pivot {D : Dic} {r s B q : Nat} (hr : r < D.m) (hs : s < D.n) (hp : D.a r s ≠ 0) (h : Small B q D) : ∃ q', Small (2 * B * B) q' (D.pivot r s) := by
 obtain ⟨p, hpe, hpB⟩ := h.a r s hr hs; have hp0 : p ≠ 0 := by
  intro e; rw [e, show ((0 : Int) : Rat) = 0 from rfl] at hpe; rcases Rat.mul_eq_zero.1 hpe with h1 | h1
  ·exact hp h1
  ·have h2 : q = 0 := by exact_mod_cast h1
   have := h.q0; omega
 have hB1 : 1 <= B := Nat.le_trans h.q0 h.qB; have hqu : ∀ u : Rat, u / D.a r s * D.a r s = u := fun u => Rat.div_mul_cancel hp; refine ⟨q * p.natAbs, Nat.mul_pos h.q0 (by omega), ?_, fun i hi => ?_, fun j hj => ?_, fun i j hi hj => ?_⟩
 ·have h1 := Nat.mul_le_mul h.qB hpB; have h2 : 1 * (B * B) <= 2 * B * B := by rw [Nat.mul_assoc]; exact Nat.mul_le_mul_right _ (by omega)
  omega
 ·show Ov _ _ (if i = r then D.v r / D.a r s else D.v i - D.a i s * (D.v r / D.a r s)); split
  ·exact jo3 h.qB hpe (hqu _) (h.v r hr)
  ·exact jhr hpB hpe (hqu _) (h.v r hr) (h.v i hi) (h.a i s hi hs)
 ·show Ov _ _ (exch _ _ s D.g j); unfold exch; split
  ·exact jhr hpB hpe (hqu _) (Ov_one h.qB) Ov_zero (h.g s hs)
  ·exact jhr hpB hpe (hqu _) (h.a r j hr hj) (h.g j hj) (h.g s hs)
 ·simp only [Dic.pivot]; by_cases e : i = r
  ·rw [if_pos e]; split
   ·exact jo3 h.qB hpe (hqu _) (Ov_one h.qB)
   ·exact jo3 h.qB hpe (hqu _) (h.a r j hr hj)
  ·rw [if_neg e]; unfold exch; split
   ·exact jhr hpB hpe (hqu _) (Ov_one h.qB) Ov_zero (h.a i s hi hs)
   ·exact jhr hpB hpe (hqu _) (h.a r j hr hj) (h.a i j hi hj) (h.a i s hi hs)
theorem path_small {D E : Dic} {t : Nat} (h : Path D t E) : ∀ {e q : Nat}, Small (2 ^ e) q D -> ∃ q', Small (2 ^ (2 ^ t * (e + 1) - 1)) q' E := by
 induction h with
 | nil D => intro e q h; exact ⟨q, by simpa using h⟩
 | step D r s t E hr hs hp _ ih =>
  intro e q h; obtain ⟨q1, h1⟩ := small_pivot hr hs hp h; rw [show 2 * 2 ^ e * 2 ^ e = 2 ^ (2 * e + 1) by rw [Nat.pow_succ, Nat.two_mul e, Nat.pow_add, Nat.mul_comm 2, Nat.mul_assoc, Nat.mul_comm 2]; exact (Nat.mul_assoc _ _ _).symm] at h1; obtain ⟨q2, h2⟩ := ih h1; refine ⟨q2, ?_⟩
  rwa [show 2 ^ t * (2 * e + 1 + 1) = 2 ^ (t + 1) * (e + 1) by rw [Nat.pow_succ, Nat.mul_assoc]; congr 1] at h2
theorem Small.mono {B C q : Nat} {D : Dic} (h : Small B q D) (hB : B <= C) : Small C q D :=
 ⟨h.q0, Nat.le_trans h.qB hB, fun i hi => (h.v i hi).mono hB, fun j hj => (h.g j hj).mono hB, fun i j hi hj => (h.a i j hi hj).mono hB⟩
theorem small_all {D E : Dic} {e q : Nat} (hD : D.Ok) (hE : E.Ok) (hq : Eqv D E) (hv : SameV D E) (h : Small (2 ^ e) q D) : ∃ q', Small (2 ^ (2 ^ D.n * (e + 1))) q' E := by
 obtain ⟨t, F, ht, hp, hF, hFE, hFv, ho⟩ := jmx D.n D E hD hE hq hv (dist_le_n hE hv); obtain ⟨q', h'⟩ := path_small hp h; have hle : 2 ^ (2 ^ t * (e + 1) - 1) <= 2 ^ (2 ^ D.n * (e + 1)) := Nat.pow_le_pow_right (by decide) (by
  have : 2 ^ t * (e + 1) <= 2 ^ D.n * (e + 1) := Nat.mul_le_mul_right _ (Nat.pow_le_pow_right (by decide) ht); omega)
 have h' := h'.mono hle; have row : ∀ i, i < E.m -> ∃ i', i' < F.m /\ F.own i' = E.own i := fun i hi => (ho (E.own i)).2 ⟨i, hi, rfl⟩; have col : ∀ j, j < E.n -> ∃ j', j' < F.n /\ F.free j' = E.free j := fun j hj => ((hFv (E.free j)).2 (.inr ⟨j, hj, rfl⟩)).resolve_left fun h => je6 hE ((ho _).1 h) ⟨j, hj, rfl⟩; refine ⟨q', h'.q0, h'.qB, fun i hi => ?_, fun j hj => ?_, fun i j hi hj => ?_⟩
 ·obtain ⟨i', hi', e'⟩ := row i hi; rw [<- same_v hF hE hFE hFv ho hi' hi e']; exact h'.v i' hi'
 ·obtain ⟨j', hj', e'⟩ := col j hj; rw [<- same_g hF hE hFE hFv ho hj' hj e']; exact h'.g j' hj'
 ·obtain ⟨i', hi', e1⟩ := row i hi; obtain ⟨j', hj', e2⟩ := col j hj; rw [<- same_a hF hE hFE hFv ho hi' hi hj' hj e1 e2]; exact h'.a i' j' hi' hj'
end
section
def Reach (D : Dic) (T : Nat) (E : Dic) : Prop := ∃ (F : Nat -> Dic) (r s : Nat -> Nat), Run F r s T /\ F 0 = D /\ F T = E
section
variable {D E : Dic} {T r s K : Nat}
theorem Reach.zero (hD : D.Ok) : Reach D 0 D := ⟨fun _ => D, fun _ => 0, fun _ => 0, ⟨hD, fun t ht => absurd ht (by omega), fun t ht => absurd ht (by omega)⟩, rfl, rfl⟩
theorem Reach.step (h : Reach D T E) (hr : Rule E r s) : Reach D (T + 1) (E.pivot r s) := by
 obtain ⟨F, r', s', hR, h0, hT⟩ := h; refine ⟨fun t => if t <= T then F t else E.pivot r s, fun t => if t < T then r' t else r, fun t => if t < T then s' t else s, ⟨?_, fun t ht => ?_, fun t ht => ?_⟩, ?_, ?_⟩
 ·show (if 0 <= T then F 0 else _).Ok; rw [if_pos (Nat.zero_le _)]; exact hR.ok
 ·show Rule (if t <= T then F t else _) (if t < T then r' t else r) (if t < T then s' t else s); rw [if_pos (by omega)]; by_cases h1 : t < T
  ·rw [if_pos h1, if_pos h1]; exact hR.rule t h1
  ·have e : t = T := by omega
   subst e; rw [if_neg h1, if_neg h1, hT]; exact hr
 ·show (if t + 1 <= T then F (t + 1) else _) = (if t <= T then F t else _).pivot (if t < T then r' t else r) (if t < T then s' t else s); rw [if_pos (by omega : t <= T)]; by_cases h1 : t < T
  ·rw [if_pos h1, if_pos h1, if_pos (by omega)]; exact hR.next t h1
  ·have e : t = T := by omega
   subst e; rw [if_neg h1, if_neg h1, if_neg (by omega), hT]
 ·show (if 0 <= T then F 0 else _) = D; rw [if_pos (Nat.zero_le _)]; exact h0
 ·show (if T + 1 <= T then F (T + 1) else _) = _; rw [if_neg (by omega)]
theorem Run.facts {F : Nat -> Dic} {r s : Nat -> Nat} (h : Run F r s T) : ∀ t, t <= T -> (F t).Ok /\ Eqv (F 0) (F t) /\ SameV (F 0) (F t) /\ (F t).m = (F 0).m /\ (F t).n = (F 0).n
 | 0, _ => ⟨h.ok, Eqv.refl _, SameV.refl _, rfl, rfl⟩
 | t + 1, ht => by
  obtain ⟨h1, h2, h3, h4, h5⟩ := h.facts t (by omega); have hr := h.rule t (by omega); rw [h.next t (by omega)]; exact ⟨jlk h1 hr.hr hr.hs, h2.trans (jjv hr.hr hr.hs hr.ne), h3.trans (jja h1 hr.hr hr.hs), h4, h5⟩
theorem Reach.facts (h : Reach D T E) : E.Ok /\ Eqv D E /\ SameV D E /\ E.m = D.m /\ E.n = D.n := by
 obtain ⟨F, r', s', hR, rfl, rfl⟩ := h; exact hR.facts T (Nat.le_refl _)
theorem Reach.bound (h : Reach D T E) (hK : ∀ k, (Own D k \/ Free D k) -> k < K) : T < 2 ^ K := by
 obtain ⟨F, r', s', hR, rfl, rfl⟩ := h; refine hR.ends K T F r' s' fun t ht => ?_; obtain ⟨_, _, h3, _, _⟩ := hR.facts t (by omega); have hr := hR.rule t ht; exact ⟨hK _ ((h3 _).2 (.inl ⟨_, hr.hr, rfl⟩)), hK _ ((h3 _).2 (.inr ⟨_, hr.hs, rfl⟩))⟩
end
inductive Final (E : Dic) : Int -> Int -> Prop
 | best : (∀ i, i < E.m -> 0 <= E.v i) -> (∀ j, j < E.n -> E.g j <= 0) -> Final E (-1) (-1)
 | none (r : Nat) : r < E.m -> E.v r < 0 -> (∀ i, i < E.m -> E.v i < 0 -> E.own r <= E.own i) -> (∀ j, j < E.n -> 0 < E.g j -> E.own r < E.free j) -> (∀ j, j < E.n -> 0 <= E.a r j) -> Final E r (-1)
 | free (s : Nat) : s < E.n -> 0 < E.g s -> (∀ j, j < E.n -> 0 < E.g j -> E.free s <= E.free j) -> (∀ i, i < E.m -> E.v i < 0 -> E.free s < E.own i) -> (∀ i, i < E.m -> E.a i s <= 0) -> Final E (-1) s
section
variable {D E E' : Dic} {r r' s s' T T' : Nat} {a b a' b' : Int}
theorem joq {x : Rat} (h : 0 <= x) (h' : x < 0) : False := by grind
theorem jop {x : Rat} (h : x <= 0) (h' : 0 < x) : False := by grind
theorem Rule.det (hD : D.Ok) (h1 : Rule D r s) (h2 : Rule D r' s') : r = r' /\ s = s' := by
 rcases h1.sel with ⟨a1, a2, a3, a4, a5⟩ | ⟨a1, a2, a3, a4, a5⟩ <;> rcases h2.sel with ⟨b1, b2, b3, b4, b5⟩ | ⟨b1, b2, b3, b4, b5⟩
 ·have e := hD.own r r' h1.hr h2.hr (Nat.le_antisymm (a2 r' h2.hr b1) (b2 r h1.hr a1)); subst e; exact ⟨rfl, hD.free s s' h1.hs h2.hs (Nat.le_antisymm (a5 s' h2.hs b4) (b5 s h1.hs a4))⟩
 ·have e1 := a3 s' h2.hs b1; have e2 := b3 r h1.hr a1; omega
 ·have e1 := b3 s h1.hs a1; have e2 := a3 r' h2.hr b1; omega
 ·have e := hD.free s s' h1.hs h2.hs (Nat.le_antisymm (a2 s' h2.hs b1) (b2 s h1.hs a1)); subst e; exact ⟨hD.own r r' h1.hr h2.hr (Nat.le_antisymm (a5 r' h2.hr b4) (b5 r h1.hr a4)), rfl⟩
theorem Final.no (hD : E.Ok) (h : Final E a b) (h2 : Rule E r s) : False := by
 cases h with
 | best e1 e2 =>
  rcases h2.sel with ⟨b1, _⟩ | ⟨b1, _⟩
  ·exact joq (e1 r h2.hr) b1
  ·exact jop (e2 s h2.hs) b1
 | none q e1 e2 e3 e4 e5 =>
  rcases h2.sel with ⟨b1, b2, b3, b4, b5⟩ | ⟨b1, b2, b3, b4, b5⟩
  ·have e := hD.own q r e1 h2.hr (Nat.le_antisymm (e3 r h2.hr b1) (b2 q e1 e2)); subst e; exact joq (e5 s h2.hs) b4
  ·have x1 := e4 s h2.hs b1; have x2 := b3 q e1 e2; omega
 | free q e1 e2 e3 e4 e5 =>
  rcases h2.sel with ⟨b1, b2, b3, b4, b5⟩ | ⟨b1, b2, b3, b4, b5⟩
  ·have x1 := e4 r h2.hr b1; have x2 := b3 q e1 e2; omega
  ·have e := hD.free q s e1 h2.hs (Nat.le_antisymm (e3 s h2.hs b1) (b2 q e1 e2)); subst e; exact jop (e5 r h2.hr) b4
theorem Final.det (hD : E.Ok) (h : Final E a b) (h' : Final E a' b') : a = a' /\ b = b' := by
 cases h with
 | best e1 e2 =>
  cases h' with
  | best => exact ⟨rfl, rfl⟩
  | none q f1 f2 => exact (joq (e1 q f1) f2).elim
  | free q f1 f2 => exact (jop (e2 q f1) f2).elim
 | none q e1 e2 e3 e4 e5 =>
  cases h' with
  | best f1 f2 => exact (joq (f1 q e1) e2).elim
  | none q' f1 f2 f3 f4 f5 =>
   have e := hD.own q q' e1 f1 (Nat.le_antisymm (e3 q' f1 f2) (f3 q e1 e2)); subst e; exact ⟨rfl, rfl⟩
  | free q' f1 f2 f3 f4 f5 =>
   have x1 := e4 q' f1 f2; have x2 := f4 q e1 e2; omega
 | free q e1 e2 e3 e4 e5 =>
  cases h' with
  | best f1 f2 => exact (jop (f2 q e1) e2).elim
  | none q' f1 f2 f3 f4 f5 =>
   have x1 := f4 q e1 e2; have x2 := e4 q' f1 f2; omega
  | free q' f1 f2 f3 f4 f5 =>
   have e := hD.free q q' e1 f1 (Nat.le_antisymm (e3 q' f1 f2) (f3 q e1 e2)); subst e; exact ⟨rfl, rfl⟩
theorem Reach.det (h : Reach D T E) (h' : Reach D T' E') (f : Final E a b) (f' : Final E' a' b') : E = E' := by
 have fE := h.facts.1; have fE' := h'.facts.1; obtain ⟨F, r, s, hR, h0, hT⟩ := h; obtain ⟨F', r', s', hR', h0', hT'⟩ := h'; have key : ∀ t, t <= T -> t <= T' -> F t = F' t := by
  intro t
  induction t with
  | zero => intro _ _; rw [h0, h0']
  | succ t ih =>
   intro h1 h2; have e := ih (by omega) (by omega); have k1 := hR.rule t (by omega); have k2 := hR'.rule t (by omega); rw [<- e] at k2; obtain ⟨e1, e2⟩ := k1.det (hR.facts t (by omega)).1 k2; rw [hR.next t (by omega), hR'.next t (by omega), <- e, e1, e2]
 rcases Nat.lt_trichotomy T T' with hlt | heq | hlt
 ·have e := key T (Nat.le_refl _) (by omega); have k2 := hR'.rule T hlt; rw [<- e, hT] at k2; exact (f.no fE k2).elim
 ·subst heq; rw [<- hT, <- hT', key T (Nat.le_refl _) (Nat.le_refl _)]
 ·have e := key T' (by omega) (Nat.le_refl _); have k2 := hR.rule T' hlt; rw [e, hT'] at k2; exact (f'.no fE' k2).elim
end
end
end Go.LP
