/- A part of the proof. No further condition. -/
import Derived.Test.YtfahloobpegieaaGreatKX13
import Derived.Test.YtfahloobpegieaaGreatKX10
set_option linter.all false
set_option maxRecDepth 100000
namespace Go.Proofs.YtfahloobpegieaaGreat
section
open Go.Abs
attribute [local go_sem] ints ic big frac
set_option maxHeartbeats 1000000 in
theorem t_pmulf (a b : Rat) (ap : (dig a.num.natAbs).length <= 19000000000) (aq : (dig a.den).length <= 19000000000) (bp : (dig b.num.natAbs).length <= 19000000000) (bq : (dig b.den).length <= 19000000000) :
  Ctr G.P 78 [frac a, frac b] (· = .tup [frac (a * b), .int 0]) := by
 have ra := jc5 a (by omega) (by omega); have rb := jc5 b (by omega) (by omega); have bq' : (dig (b.den : Int).natAbs).length <= 19000000000 := by rw [Int.natAbs_natCast]; exact bq
 have aq' : (dig (a.den : Int).natAbs).length <= 19000000000 := by rw [Int.natAbs_natCast]; exact aq
 have m1 := jee a.num b.num (by omega) (by omega); have m2 := jee a.den b.den (by omega) (by omega); have l1 := jc9 ap bp; have l2 := jc9 aq' bq'; have hn := joi (a.num * b.num) (a.den * b.den) (Int.mul_ne_zero (jga a) (jga b)) (by omega) (by omega); rw [jjx] at hn; simp only [big, frac, ints] at ra rb m1 m2 hn; refine jac good _ _ [.cell 4 42, .tmp 5] Tryz.func78 rfl rfl (by decide +kernel) rfl ?_; simp only [go_sem]; refine ja1 ra (by decide) ?_; simp only [go_sem]; refine ja1 rb (by decide) ?_; simp only [go_sem]; refine jay (by decide +kernel) ?_; simp only [go_sem]; refine ja4 m1 (by decide) ?_; simp only [go_sem]; refine ja4 m2 (by decide) ?_; simp only [go_sem]; refine ja4 hn (by decide) ?_; simp only [go_sem]
theorem num_ne {b : Rat} (h : b ≠ 0) : b.num ≠ 0 := fun e => h (Rat.num_eq_zero.1 e)
theorem divInt_div' (a b : Rat) (h : b ≠ 0) : Rat.divInt (a.num * b.den) (a.den * b.num) = a / b := by
 have e : b⁻¹ = Rat.divInt b.den b.num := by
  conv => lhs; rw [<- Rat.num_divInt_den b]
  rw [Rat.inv_divInt]
 rw [Rat.div_def, e, <- Rat.divInt_mul_divInt, Rat.num_divInt_den]
set_option maxHeartbeats 1000000 in
theorem t_pdivf (a b : Rat) (h : b ≠ 0) (ap : (dig a.num.natAbs).length <= 19000000000) (aq : (dig a.den).length <= 19000000000) (bp : (dig b.num.natAbs).length <= 19000000000) (bq : (dig b.den).length <= 19000000000) :
  Ctr G.P 286 [frac a, frac b] (· = .tup [frac (a / b), .int 0]) := by
 have ra := jc5 a (by omega) (by omega); have rb := jc5 b (by omega) (by omega); have bq' : (dig (b.den : Int).natAbs).length <= 19000000000 := by rw [Int.natAbs_natCast]; exact bq
 have aq' : (dig (a.den : Int).natAbs).length <= 19000000000 := by rw [Int.natAbs_natCast]; exact aq
 have m1 := jee a.num b.den (by omega) (by omega); have m2 := jee a.den b.num (by omega) (by omega); have l1 := jc9 ap bq'; have l2 := jc9 aq' bp; have hn := joi (a.num * b.den) (a.den * b.num) (Int.mul_ne_zero (jga a) (num_ne h)) (by omega) (by omega); rw [divInt_div' a b h] at hn; have d0 : decide (b.num.sign = 0) = false := decide_eq_false fun e => num_ne h (Int.sign_eq_zero_iff_zero.1 e); simp only [big, frac, ints] at ra rb m1 m2 hn; refine jac good _ _ [.cell 4 42, .tmp 5] Tryz.func286 rfl rfl (by decide +kernel) rfl ?_; simp only [go_sem]; refine ja1 ra (by decide) ?_; simp only [go_sem]; refine ja1 rb (by decide) ?_; simp only [go_sem]; simp only [d0, go_sem]; refine jay (by decide +kernel) ?_; simp only [go_sem]; refine ja4 m1 (by decide) ?_; simp only [go_sem]; refine ja4 m2 (by decide) ?_; simp only [go_sem]; refine ja4 hn (by decide) ?_; simp only [go_sem]
theorem jmi (z : Int) (h : (dig z.natAbs).length <= 1000000000000) : Ctr G.P 153 [big z] (· = big z) := by
 have n1 := jkh z h; have n2 := jkh (-z) (by rw [Int.natAbs_neg]; exact h); rw [Int.neg_neg] at n2; simp only [big, ints] at n1 n2; refine jac good _ _ [.cell 2 40] Tryz.func153 rfl rfl (by decide +kernel) rfl ?_; simp only [go_sem]; refine ja1 n1 (by decide) ?_; simp only [go_sem]; refine ja1 n2 (by decide) ?_; simp only [go_sem]
theorem t_pnegf (a : Rat) (ap : (dig a.num.natAbs).length <= 50000000000) (aq : (dig a.den).length <= 50000000000) : Ctr G.P 82 [frac a] (· = frac (-a)) := by
 have ra := jc5 a (by omega) (by omega); have n1 := jkh a.num (by omega); have n2 := jmi a.den (by rw [Int.natAbs_natCast]; omega); simp only [big, frac, ints, show (-a).num = -a.num from rfl, show (-a).den = a.den from rfl] at ra n1 n2 ⊢; refine jac good _ _ [.cell 2 42] Tryz.func82 rfl rfl (by decide +kernel) rfl ?_; simp only [go_sem]; refine ja1 ra (by decide) ?_; simp only [go_sem]; refine jay (by decide +kernel) ?_; simp only [go_sem]; refine ja4 n1 (by decide) ?_; simp only [go_sem]; refine ja4 n2 (by decide) ?_; simp only [go_sem]
set_option maxHeartbeats 1000000 in
theorem t_pmaxf (a b : Rat) (ap : (dig a.num.natAbs).length <= 50000000000) (aq : (dig a.den).length <= 50000000000) (bp : (dig b.num.natAbs).length <= 50000000000) (bq : (dig b.den).length <= 50000000000) :
  Ctr G.P 65 [frac a, frac b] (· = .tup [frac (if a < b then b else a), .int 0]) := by
 have ra := jc5 a (by omega) (by omega); have rb := jc5 b (by omega) (by omega); have hc := t_pcmpf a b (by omega) (by omega) (by omega) (by omega); have s1 := jmi a.num (by omega); have s2 := jmi a.den (by rw [Int.natAbs_natCast]; omega); have s3 := jmi b.num (by omega); have s4 := jmi b.den (by rw [Int.natAbs_natCast]; omega); have he : Ctr G.P 127 [frac a, frac b, .int 1] (· = .tup [frac (if a < b then b else a), .int 0]) := by
  have hle : -1 <= cmpR a b /\ cmpR a b <= 1 := by unfold cmpR; exact cmpI_le _ _
  have w := jaa (n := cmpR a b * 1) (by omega); by_cases h : a < b
  ·have d : decide (cmpR a b * 1 < 0) = true := decide_eq_true (by rw [Int.mul_one]; exact cmpR_neg.2 h); rw [if_pos h]; simp only [big, frac, ints] at ra rb hc s3 s4; refine jac good _ _ [.cell 6 42, .tmp 7] Tryz.func127 rfl rfl (by decide +kernel) rfl ?_; simp only [go_sem]; refine ja1 ra (by decide) ?_; simp only [go_sem]; refine ja1 rb (by decide) ?_; simp only [go_sem]; refine ja1 hc (by decide) ?_; simp only [w, d, go_sem]; refine jay (by decide +kernel) ?_; simp only [go_sem]; refine ja4 s3 (by decide) ?_; simp only [go_sem]; refine ja4 s4 (by decide) ?_; simp only [go_sem]
  ·have d : decide (cmpR a b * 1 < 0) = false := decide_eq_false (by rw [Int.mul_one]; exact fun e => h (cmpR_neg.1 e)); rw [if_neg h]; simp only [big, frac, ints] at ra rb hc s1 s2; refine jac good _ _ [.cell 6 42, .tmp 7] Tryz.func127 rfl rfl (by decide +kernel) rfl ?_; simp only [go_sem]; refine ja1 ra (by decide) ?_; simp only [go_sem]; refine ja1 rb (by decide) ?_; simp only [go_sem]; refine ja1 hc (by decide) ?_; simp only [w, d, go_sem]; refine jay (by decide +kernel) ?_; simp only [go_sem]; refine ja4 s1 (by decide) ?_; simp only [go_sem]; refine ja4 s2 (by decide) ?_; simp only [go_sem]
 generalize (if a < b then b else a) = c at *; simp only [big, frac, ints] at he; refine jac good _ _ [.cell 4 42, .tmp 5] Tryz.func65 rfl rfl (by decide +kernel) rfl ?_; simp only [go_sem]; refine ja1 he (by decide) ?_; simp only [go_sem]
end
section
open Go.Abs
attribute [local go_sem] ints ic big frac
def FL (k : Nat) (r : Rat) : Prop := (dig r.num.natAbs).length <= k /\ (dig r.den).length <= k
theorem FL.mono {k m : Nat} {r : Rat} (h : FL k r) (hk : k <= m) : FL m r := ⟨Nat.le_trans h.1 hk, Nat.le_trans h.2 hk⟩
theorem jhu {p q : Int} {k : Nat} (hq : q ≠ 0) (hp : (dig p.natAbs).length <= k) (hq' : (dig q.natAbs).length <= k) : FL k (Rat.divInt p q) := by
 have main : ∀ P Q : Int, 0 < Q -> (dig P.natAbs).length <= k -> (dig Q.natAbs).length <= k -> FL k (Rat.divInt P Q) := by
  intro P Q hQ h1 h2; obtain ⟨e1, e2⟩ := jkv (p := P) hQ; have hg : 0 < Nat.gcd P.natAbs Q.natAbs := Nat.gcd_pos_of_pos_right _ (by omega); refine ⟨jd1 ?_ h1, jd1 ?_ h2⟩
  ·rw [e1]; exact Int.natAbs_ediv_le_natAbs _ _
  ·have h3 : (Rat.divInt P Q).den = ((Rat.divInt P Q).den : Int).natAbs := (Int.natAbs_natCast _).symm; rw [h3, e2]; exact Int.natAbs_ediv_le_natAbs _ _
 rcases Int.lt_or_gt_of_ne hq with h | h
 ·have := main (-p) (-q) (by omega) (by rw [Int.natAbs_neg]; exact hp) (by rw [Int.natAbs_neg]; exact hq'); have e := Rat.divInt_mul_right (n := p) (d := q) (a := -1) (by decide); rw [Int.mul_neg, Int.mul_neg, Int.mul_one, Int.mul_one] at e
  rwa [e] at this
 ·exact main p q h hp hq'
theorem FL_int {n : Int} {k : Nat} (h : (dig n.natAbs).length <= k) (hk : 1 <= k) : FL k (n : Rat) := by
 refine ⟨h, ?_⟩; have := jbs (n := 1) (k := 1) (by omega); show (dig 1).length <= k; omega
theorem jce {n : Int} (h : -9223372036854775808 <= n /\ n <= 9223372036854775807) : FL 4 (n : Rat) := FL_int (jjn h) (by omega)
theorem jk8 {a b : Rat} {k m : Nat} (ha : FL k a) (hb : FL m b) : FL (k + m + 1) (a + b) := by
 rw [<- jjy]; have h1 : (dig (b.den : Int).natAbs).length <= m := by rw [Int.natAbs_natCast]; exact hb.2
 have h2 : (dig (a.den : Int).natAbs).length <= k := by rw [Int.natAbs_natCast]; exact ha.2
 have l1 := jc9 ha.1 h1; have l2 := jc9 hb.1 h2; have l3 := jc9 h2 h1; exact jhu (Int.mul_ne_zero (jga a) (jga b)) (jox l1 (by omega)) (by omega)
theorem FL_mul {a b : Rat} {k m : Nat} (ha : FL k a) (hb : FL m b) : FL (k + m) (a * b) := by
 rw [<- jjx]; have h1 : (dig (b.den : Int).natAbs).length <= m := by rw [Int.natAbs_natCast]; exact hb.2
 have h2 : (dig (a.den : Int).natAbs).length <= k := by rw [Int.natAbs_natCast]; exact ha.2
 exact jhu (Int.mul_ne_zero (jga a) (jga b)) (jc9 ha.1 hb.1) (jc9 h2 h1)
theorem jl6 {a : Rat} {k : Nat} (ha : FL k a) : FL k (-a) := ⟨by rw [show (-a).num = -a.num from rfl, Int.natAbs_neg]; exact ha.1, ha.2⟩
theorem FL_sub {a b : Rat} {k m : Nat} (ha : FL k a) (hb : FL m b) : FL (k + m + 1) (a - b) := by
 have e : a - b = a + -b := by grind
 rw [e]; exact jk8 ha (jl6 hb)
theorem f_add {a b : Rat} (ha : FL 19000000000 a) (hb : FL 19000000000 b) : Ctr G.P 17 [frac a, frac b] (· = .tup [frac (a + b), .int 0]) := t_paddf a b ha.1 ha.2 hb.1 hb.2
theorem f_sub {a b : Rat} (ha : FL 19000000000 a) (hb : FL 19000000000 b) : Ctr G.P 64 [frac a, frac b] (· = .tup [frac (a - b), .int 0]) := t_psubf a b ha.1 ha.2 hb.1 hb.2
theorem f_mul {a b : Rat} (ha : FL 19000000000 a) (hb : FL 19000000000 b) : Ctr G.P 78 [frac a, frac b] (· = .tup [frac (a * b), .int 0]) := t_pmulf a b ha.1 ha.2 hb.1 hb.2
theorem f_div {a b : Rat} (h : b ≠ 0) (ha : FL 19000000000 a) (hb : FL 19000000000 b) : Ctr G.P 286 [frac a, frac b] (· = .tup [frac (a / b), .int 0]) := t_pdivf a b h ha.1 ha.2 hb.1 hb.2
theorem f_neg {a : Rat} (ha : FL 19000000000 a) : Ctr G.P 82 [frac a] (· = frac (-a)) := t_pnegf a (by have := ha.1; omega) (by have := ha.2; omega)
theorem f_cmp {a b : Rat} (ha : FL 19000000000 a) (hb : FL 19000000000 b) : Ctr G.P 20 [frac a, frac b] (· = .int (cmpR a b)) := t_pcmpf a b (by have := ha.1; omega) (by have := ha.2; omega) (by have := hb.1; omega) (by have := hb.2; omega)
theorem f_max {a b : Rat} (ha : FL 19000000000 a) (hb : FL 19000000000 b) : Ctr G.P 65 [frac a, frac b] (· = .tup [frac (if a < b then b else a), .int 0]) := t_pmaxf a b (by have := ha.1; omega) (by have := ha.2; omega) (by have := hb.1; omega) (by have := hb.2; omega)
theorem f_sign {a : Rat} (ha : FL 19000000000 a) : Ctr G.P 29 [frac a] (· = .int a.num.sign) := t_psignf a (by have := ha.1; omega) (by have := ha.2; omega)
theorem jnx {a : Rat} (ha : FL 19000000000 a) : Ctr G.P 66 [frac a] (· = .bool true) := jc5 a (by have := ha.1; omega) (by have := ha.2; omega)
end
section
open Go.Abs
def idx (i n : Int) : Bool := decide (0 <= i) && decide (i < n)
def btw (n a b : Int) : Bool := decide (a <= n) && decide (n <= b)
theorem jnv {i n : Int} : idx i n = true ↔ 0 <= i /\ i < n := by simp [idx]
theorem btw_iff {n a b : Int} : btw n a b = true ↔ a <= n /\ n <= b := by simp [btw]
theorem c68 (n a b : Int) : Ctr G.P 120 [.int n, .int a, .int b] (· = .bool (btw n a b)) := by
 unfold btw; refine jac good _ _ [.tmp 6] Tryz.func120 rfl rfl (by decide +kernel) rfl ?_; simp only [go_sem]
 repeat' (refine jd5 (fun hd hp => ?_) (fun hd hp => ?_) <;> simp only [hd, go_sem])
theorem c67 (i n : Int) : Ctr G.P 119 [.int i, .int n] (· = .bool (idx i n)) := by
 unfold idx; refine jac good _ _ [.tmp 4] Tryz.func119 rfl rfl (by decide +kernel) rfl ?_; simp only [go_sem]
 repeat' (refine jd5 (fun hd hp => ?_) (fun hd hp => ?_) <;> simp only [hd, go_sem])
attribute [irreducible] idx btw
end
section
open Go.Abs
attribute [local go_sem] Evid.iv Evid.c Place.c Move.c Cert.c Recall.c Purity.c Sample.c Recipe.c ints ic
theorem jdo {α : Type} {l : List α} {f : α -> Bool} {i : Nat} {x : α} (h : l[i]? = some x) : (l.take (i + 1)).all f = ((l.take i).all f && f x) := by
 rw [take_succ h, List.all_append]; simp
theorem jk4 {α : Type} {l : List α} {f : α -> Bool} {i : Nat} {x : α} (h : l[i]? = some x) (hf : f x = false) : l.all f = false := by
 rw [List.all_eq_false]; exact ⟨x, List.mem_of_getElem? h, by simp [hf]⟩
def jhe (e : Evid) (p : Place) : Bool := idx p.kind 7 && (if p.kind = 0 then idx p.house e.houses && idx p.mat e.mats else decide (p.house = -1) && decide (p.mat = -1))
theorem c47 (e : Evid) (hl : e.places.length <= 1000) : Ctr G.P 58 [e.iv] (· = .bool (e.places.all (jhe e))) := by
 refine jac good _ _ [.tmp 2] Tryz.func58 rfl rfl (by decide +kernel) rfl ?_; unfold Evid.iv Evid.c; simp only [go_sem]; refine jb3 [1, 6, 7, 8] [1] (fun i : Nat => ⟨[(1, .loc 1 8 0 0), (6, .im (.sl (e.places.map Place.c))), (7, .im (.int e.places.length)), (8, .im (.int i))], [(1, 8, [e.c])], []⟩)
  (fun i => i <= e.places.length /\ (e.places.take i).all (jhe e) = true) (fun i => e.places.length - i) 0 ?_ ⟨Nat.zero_le _, rfl⟩ ?_
 ·simp only [Evid.c, Int.natCast_zero, go_sem]
 ·intro i ⟨hi, ha⟩; simp only [go_sem]; refine jd5 (fun hd hp => ?_) (fun hd hp => ?_)
  ·obtain ⟨x, hx⟩ : ∃ x, e.places[i]? = some x := ⟨_, List.getElem?_eq_getElem (by omega)⟩; have h1 := jaa (n := (i : Int) + 1) (by omega); have hat := jdo (f := jhe e) hx; simp only [hd, List.getElem?_map, hx, Place.c, Evid.c, go_sem]
   repeat' (first | (refine jcx (fun hd => ?_) (fun hd => ?_) <;> simp only [*, go_sem]) | (refine ja1 (c67 _ _) (by first | decide | assumption) ?_; simp only [*, go_sem]) | (refine ja4 (c67 _ _) (by decide) ?_; simp only [*, go_sem]))
   all_goals first
    | (refine jah (i + 1) ?_ ?_ ⟨?_, ?_⟩
      ·simp only [h1, Evid.c, Int.natCast_add, go_sem]
      ·omega
      ·omega
      ·rw [hat, ha, Bool.true_and]; clear hat ha h1; simp_all [jhe]
      done)
    | (rw [jk4 hx (by clear hat ha h1; simp_all [jhe])]; done)
  ·simp only [hd, go_sem]; rw [List.take_of_length_le (by omega)] at ha; rw [ha]
end
section
open Go.Abs
attribute [local go_sem] Evid.iv Evid.c Place.c Move.c Cert.c Recall.c Purity.c Sample.c Recipe.c ints ic
end
section
open Go.Abs
attribute [local go_sem] Evid.iv Evid.c Place.c Move.c Cert.c Recall.c Purity.c Sample.c Recipe.c ints ic
end
section
open Go.Abs
attribute [local go_sem] Evid.iv Evid.c Place.c Move.c Cert.c Recall.c Purity.c Sample.c Recipe.c ints ic
def pairC (p : Int × Int) : List IV := [.int p.1, .int p.2]
def pairs (e : Evid) : List (Int × Int) := [(e.mats, 6), (e.houses, 100), (e.scales, 30), (e.places.length, 100), (e.moves.length, 200), (e.certs.length, 100), (e.recalls.length, 30), (e.purs.length, 200)]
def fitP (p : Int × Int) : Bool := !decide (p.2 < p.1)
theorem c46 (e : Evid) : Ctr G.P 57 [e.iv] (· = .bool (!(pairs e).all fitP)) := by
 refine jac good _ _ [.tmp 2] Tryz.func57 rfl rfl (by decide +kernel) rfl ?_; unfold Evid.iv Evid.c; simp only [go_sem]; refine jb3 [34, 35, 36] [] (fun i : Nat => ⟨[(34, .sx ((pairs e).map pairC)), (35, .im (.int 8)), (36, .im (.int i))], [], []⟩)
  (fun i => i <= 8 /\ ((pairs e).take i).all fitP = true) (fun i => 8 - i) 0 ?_ ⟨Nat.zero_le _, rfl⟩ ?_
 ·simp only [pairs, pairC, Int.natCast_zero, go_sem]
 ·intro i ⟨hi, ha⟩; simp only [go_sem]; refine jd5 (fun hd hp => ?_) (fun hd hp => ?_)
  ·obtain ⟨x, hx⟩ : ∃ x, (pairs e)[i]? = some x := ⟨_, List.getElem?_eq_getElem (by simp [pairs]; omega)⟩; have h1 := jaa (n := (i : Int) + 1) (by omega); have hat := jdo (f := fitP) hx; simp only [hd, List.getElem?_map, hx, pairC, go_sem]
   repeat' (first | (refine jcx (fun hd => ?_) (fun hd => ?_) <;> simp only [*, go_sem]) | (refine ja1 (c67 _ _) (by first | decide | assumption) ?_; simp only [*, go_sem]) | (refine ja4 (c67 _ _) (by decide) ?_; simp only [*, go_sem]))
   all_goals first
    | (refine jah (i + 1) ?_ ?_ ⟨?_, ?_⟩
      ·simp only [h1, Int.natCast_add, go_sem]
      ·omega
      ·omega
      ·rw [hat, ha, Bool.true_and]; clear hat ha h1; simp_all [fitP]
      done)
    | (rw [jk4 hx (by clear hat ha h1; simp_all [fitP])]; rfl)
  ·simp only [hd, go_sem]; rw [List.take_of_length_le (by simp [pairs]; omega)] at ha; rw [ha]; simp only [go_sem]
end
section
open Go.Abs
attribute [local go_sem] Evid.iv Evid.c Place.c Move.c Cert.c Recall.c Purity.c Sample.c Recipe.c ints ic
def jkq (e : Evid) (i : Int) : Int := match e.places[i.toNat]? with
 | some p => p.kind
 | none => 0
theorem jn2 {e : Evid} {i : Int} {p : Place} (h : e.places[i.toNat]? = some p) : jkq e i = p.kind := by simp [jkq, h]
def moveF (e : Evid) (m : Move) : Bool :=
 idx m.fr e.places.length && idx m.to e.places.length && !decide (m.fr = m.to) && !decide (jkq e m.fr = 5) && !decide (jkq e m.fr = 6) && !(decide (jkq e m.fr = 0) && m.all) && !decide (jkq e m.to = 0) &&
  (if m.scale = -1 then decide (m.reading = 0) else idx m.scale e.scales && btw m.reading 0 1099511627776)
theorem at_idx {α : Type} {l : List α} {i : Int} (h : idx i l.length = true) : ∃ x, l[i.toNat]? = some x /\ 0 <= i := by
 rw [jnv] at h; exact ⟨_, List.getElem?_eq_getElem (by omega), h.1⟩
set_option maxHeartbeats 1000000 in
theorem c48 (e : Evid) (m : Move) : Ctr G.P 59 [e.iv, .agg m.c] (· = .bool (moveF e m)) := by
 rcases hf : idx m.fr e.places.length with _ | _
 ·have hm : moveF e m = false := by simp [moveF, hf]
  refine jac good _ _ [.tmp 4] Tryz.func59 rfl rfl (by decide +kernel) rfl ?_; unfold Evid.iv Evid.c Move.c; rw [hm]; simp only [go_sem]
  repeat' (first | (refine jcx (fun hd => ?_) (fun hd => ?_) <;> simp only [*, go_sem]) | (refine ja1 (c67 _ _) (by first | decide | assumption) ?_; simp only [*, go_sem]) | (refine ja4 (c67 _ _) (by decide) ?_; simp only [*, go_sem]))
 ·obtain ⟨p, hp, h0⟩ := at_idx hf; have hkp := jn2 hp; rcases ht : idx m.to e.places.length with _ | _
  ·have hm : moveF e m = false := by simp [moveF, ht]
   refine jac good _ _ [.tmp 4] Tryz.func59 rfl rfl (by decide +kernel) rfl ?_; unfold Evid.iv Evid.c Move.c; rw [hm]; simp only [go_sem]
   repeat' (first | (refine jcx (fun hd => ?_) (fun hd => ?_) <;> simp only [*, go_sem]) | (refine ja1 (c67 _ _) (by first | decide | assumption) ?_; simp only [*, go_sem]) | (refine ja4 (c67 _ _) (by decide) ?_; simp only [*, go_sem]))
  ·obtain ⟨q, hq, h1⟩ := at_idx ht; have hkq := jn2 hq; have hm : moveF e m = (!decide (m.fr = m.to) && !decide (p.kind = 5) && !decide (p.kind = 6) && !(decide (p.kind = 0) && m.all) && !decide (q.kind = 0) &&
    (if m.scale = -1 then decide (m.reading = 0) else idx m.scale e.scales && btw m.reading 0 1099511627776)) := by simp [moveF, hf, ht, hkp, hkq]
   refine jac good _ _ [.tmp 4] Tryz.func59 rfl rfl (by decide +kernel) rfl ?_; unfold Evid.iv Evid.c Move.c; rw [hm]; clear hm hkp hkq; simp only [go_sem]
   repeat' (first | (refine jcx (fun hd => ?_) (fun hd => ?_) <;> simp only [*, List.getElem?_map, Place.c, go_sem]) | (refine ja1 (c67 _ _) (by first | decide | assumption) ?_; simp only [*, List.getElem?_map, Place.c, go_sem]) | (refine ja1 (c68 _ _ _) (by first | decide | assumption) ?_; simp only [*, List.getElem?_map, Place.c, go_sem]) | (refine ja4 (c67 _ _) (by decide) ?_; simp only [*, List.getElem?_map, Place.c, go_sem]) | (refine ja4 (c68 _ _ _) (by decide) ?_; simp only [*, List.getElem?_map, Place.c, go_sem]))
   all_goals simp_all
end
section
open Go.Abs
attribute [local go_sem] Evid.iv Evid.c Place.c Move.c Cert.c Recall.c Purity.c Sample.c Recipe.c ints ic
def certF (e : Evid) (c : Cert) : Bool := decide (0 <= c.fr) && decide (c.fr <= c.until') && decide (c.until' <= 100000) && idx c.scale e.scales && btw c.grams 0 1099511627776 && btw c.perMille 0 1000 && btw c.drift 0 10000000
def ji0 (e : Evid) (r : Recall) : Bool := idx r.scale e.scales && btw r.since 0 100000
def purF (e : Evid) (p : Purity) : Bool := idx p.move e.moves.length && idx p.mat e.mats && !decide (p.least < 0) && !decide (p.most < p.least) && !decide (1000 < p.most)
def saidF (e : Evid) : Bool := e.certs.all (certF e) && e.recalls.all (ji0 e) && e.purs.all (purF e)
theorem jdq {α : Type} {l : List α} {i : Nat} (h : (i : Int) < l.length) : ∃ x, l[i]? = some x := ⟨_, List.getElem?_eq_getElem (by omega)⟩
set_option maxHeartbeats 2000000 in
theorem c49 (e : Evid) (h5 : e.certs.length <= 1000) (h6 : e.recalls.length <= 1000) (h7 : e.purs.length <= 1000) : Ctr G.P 60 [e.iv] (· = .bool (saidF e)) := by
 refine jac good _ _ [.tmp 2] Tryz.func60 rfl rfl (by decide +kernel) rfl ?_; unfold Evid.iv Evid.c; simp only [go_sem]; refine jb3 [1, 11, 12, 13] [1] (fun i : Nat => ⟨[(1, .loc 1 8 0 0), (11, .im (.sl (e.certs.map Cert.c))), (12, .im (.int e.certs.length)), (13, .im (.int i))], [(1, 8, [e.c])], []⟩)
  (fun i => i <= e.certs.length /\ (e.certs.take i).all (certF e) = true) (fun i => e.certs.length - i) 0 ?_ ⟨Nat.zero_le _, rfl⟩ ?_
 ·simp only [Evid.c, Int.natCast_zero, go_sem]
 ·intro i ⟨hi, ha⟩; by_cases hp : (i : Int) < e.certs.length
  ·have hd : decide ((i : Int) < e.certs.length) = true := decide_eq_true hp; obtain ⟨x, hx⟩ := jdq hp; have h1 := jaa (n := (i : Int) + 1) (by omega); have hat := jdo (f := certF e) hx; have hn : certF e x = false -> saidF e = false := fun h => by simp [saidF, jk4 hx h]
   simp only [hd, List.getElem?_map, hx, Cert.c, Evid.c, go_sem]
   repeat' (first | (refine jcx (fun hd => ?_) (fun hd => ?_) <;> simp only [*, go_sem]) | (refine ja1 (c67 _ _) (by first | decide | assumption) ?_; simp only [*, go_sem]) | (refine ja1 (c68 _ _ _) (by first | decide | assumption) ?_; simp only [*, go_sem]) | (refine ja4 (c67 _ _) (by decide) ?_; simp only [*, go_sem]) | (refine ja4 (c68 _ _ _) (by decide) ?_; simp only [*, go_sem]))
   all_goals first
    | (refine jah (i + 1) ?_ ?_ ⟨?_, ?_⟩
      ·simp only [h1, Evid.c, Int.natCast_add, go_sem]
      ·omega
      ·omega
      ·rw [hat, ha, Bool.true_and]; clear hn hat ha h1; simp_all [certF]
      done)
    | (rw [hn (by clear hn hat ha h1; simp_all [certF] <;> (intros; omega))]; done)
  ·have hd : decide ((i : Int) < e.certs.length) = false := decide_eq_false hp; rw [List.take_of_length_le (by omega)] at ha; simp only [hd, Evid.c, go_sem]; clear hd hp hi; refine jb3 [1, 62, 63, 64] [1] (fun i : Nat => ⟨[(1, .loc 1 8 0 0), (62, .im (.sl (e.recalls.map Recall.c))), (63, .im (.int e.recalls.length)), (64, .im (.int i))], [(1, 8, [e.c])], []⟩)
    (fun i => i <= e.recalls.length /\ (e.recalls.take i).all (ji0 e) = true) (fun i => e.recalls.length - i) 0 ?_ ⟨Nat.zero_le _, rfl⟩ ?_
   ·simp only [Evid.c, Int.natCast_zero, go_sem]
   ·intro i ⟨hi, hb⟩; by_cases hp : (i : Int) < e.recalls.length
    ·have hd : decide ((i : Int) < e.recalls.length) = true := decide_eq_true hp; obtain ⟨x, hx⟩ := jdq hp; have h1 := jaa (n := (i : Int) + 1) (by omega); have hat := jdo (f := ji0 e) hx; have hn : ji0 e x = false -> saidF e = false := fun h => by simp [saidF, jk4 hx h]
     simp only [hd, List.getElem?_map, hx, Recall.c, Evid.c, go_sem]
     repeat' (first | (refine jcx (fun hd => ?_) (fun hd => ?_) <;> simp only [*, go_sem]) | (refine ja1 (c67 _ _) (by first | decide | assumption) ?_; simp only [*, go_sem]) | (refine ja1 (c68 _ _ _) (by first | decide | assumption) ?_; simp only [*, go_sem]) | (refine ja4 (c67 _ _) (by decide) ?_; simp only [*, go_sem]) | (refine ja4 (c68 _ _ _) (by decide) ?_; simp only [*, go_sem]))
     all_goals first
      | (refine jah (i + 1) ?_ ?_ ⟨?_, ?_⟩
        ·simp only [h1, Evid.c, Int.natCast_add, go_sem]
        ·omega
        ·omega
        ·rw [hat, hb, Bool.true_and]; clear hn hat hb h1; simp_all [ji0]
        done)
      | (rw [hn (by clear hn hat hb h1; simp_all [ji0])]; done)
    ·have hd : decide ((i : Int) < e.recalls.length) = false := decide_eq_false hp; rw [List.take_of_length_le (by omega)] at hb; simp only [hd, Evid.c, go_sem]; clear hd hp hi; refine jb3 [1, 82, 83, 84] [1] (fun i : Nat => ⟨[(1, .loc 1 8 0 0), (82, .im (.sl (e.purs.map Purity.c))), (83, .im (.int e.purs.length)), (84, .im (.int i))], [(1, 8, [e.c])], []⟩)
      (fun i => i <= e.purs.length /\ (e.purs.take i).all (purF e) = true) (fun i => e.purs.length - i) 0 ?_ ⟨Nat.zero_le _, rfl⟩ ?_
     ·simp only [Evid.c, Int.natCast_zero, go_sem]
     ·intro i ⟨hi, hc⟩; by_cases hp : (i : Int) < e.purs.length
      ·have hd : decide ((i : Int) < e.purs.length) = true := decide_eq_true hp; obtain ⟨x, hx⟩ := jdq hp; have h1 := jaa (n := (i : Int) + 1) (by omega); have hat := jdo (f := purF e) hx; have hn : purF e x = false -> saidF e = false := fun h => by simp [saidF, jk4 hx h]
       simp only [hd, List.getElem?_map, hx, Purity.c, Evid.c, go_sem]
       repeat' (first | (refine jcx (fun hd => ?_) (fun hd => ?_) <;> simp only [*, go_sem]) | (refine ja1 (c67 _ _) (by first | decide | assumption) ?_; simp only [*, go_sem]) | (refine ja1 (c68 _ _ _) (by first | decide | assumption) ?_; simp only [*, go_sem]) | (refine ja4 (c67 _ _) (by decide) ?_; simp only [*, go_sem]) | (refine ja4 (c68 _ _ _) (by decide) ?_; simp only [*, go_sem]))
       all_goals first
        | (refine jah (i + 1) ?_ ?_ ⟨?_, ?_⟩
          ·simp only [h1, Evid.c, Int.natCast_add, go_sem]
          ·omega
          ·omega
          ·rw [hat, hc, Bool.true_and]; clear hn hat hc h1; simp_all [purF]
          done)
        | (rw [hn (by clear hn hat hc h1; simp_all [purF])]; done)
      ·have hd : decide ((i : Int) < e.purs.length) = false := decide_eq_false hp; rw [List.take_of_length_le (by omega)] at hc; simp only [hd, go_sem]; simp [saidF, ha, hb, hc]
end
section
open Go.Abs
attribute [local go_sem] Evid.iv Evid.c Place.c Move.c Cert.c Recall.c Purity.c Sample.c Recipe.c ints ic
def jd8 (e : Evid) : Int -> List Move -> Int
 | _, [] => 0
 | last, m :: r => if decide (m.day < last) = true then 17 else if decide (100000 < m.day) = true then 17 else if moveF e m = false then 1 else jd8 e m.day r
def jcq (e : Evid) : Int :=
 if (pairs e).all fitP = false then 6 else if decide (e.mats < 1) = true then 1 else if decide (e.houses < 0) = true then 1 else if decide (e.scales < 0) = true then 1 else if e.places.all (jhe e) = false then 1 else
 if jd8 e 0 e.moves ≠ 0 then jd8 e 0 e.moves else if saidF e = true then 0 else 1
theorem drop_cons {α : Type} {l : List α} {i : Nat} {x : α} (h : l[i]? = some x) : l.drop i = x :: l.drop (i + 1) := by
 obtain ⟨hi, rfl⟩ := List.getElem?_eq_some_iff.1 h; exact List.drop_eq_getElem_cons hi
theorem jlv {e : Evid} (h : (pairs e).all fitP = true) : e.places.length <= 100 /\ e.moves.length <= 200 /\ e.certs.length <= 100 /\ e.recalls.length <= 30 /\ e.purs.length <= 200 /\ e.mats <= 6 /\ e.houses <= 100 /\ e.scales <= 30 := by
 simp [pairs, fitP] at h; omega
theorem c21 (e : Evid) : Ctr G.P 11 [e.iv] (· = .int (jcq e)) := by
 have h46 := c46 e; rcases hf : (pairs e).all fitP with _ | _
 ·have hc : jcq e = 6 := by simp [jcq, hf]
  rw [hf] at h46; refine jac good _ _ [.tmp 2] Tryz.func11 rfl rfl (by decide +kernel) rfl ?_; unfold Evid.iv Evid.c; rw [hc]; simp only [go_sem]; refine ja1 h46 (by decide) ?_; simp only [go_sem]
 ·obtain ⟨l1, l2, l3, l4, l5, _, _, _⟩ := jlv hf; have h47 := c47 e (by omega); have h49 := c49 e (by omega) (by omega) (by omega); rw [hf] at h46; have hc : jcq e = if decide (e.mats < 1) = true then 1 else if decide (e.houses < 0) = true then 1 else if decide (e.scales < 0) = true then 1 else if e.places.all (jhe e) = false then 1 else
   if jd8 e 0 e.moves ≠ 0 then jd8 e 0 e.moves else if saidF e = true then 0 else 1 := by simp [jcq, hf]
  clear hf; refine jac good _ _ [.tmp 2] Tryz.func11 rfl rfl (by decide +kernel) rfl ?_; rw [hc]; clear hc; generalize hpl : e.places.all (jhe e) = pl at *; generalize hsd : saidF e = sd at *; unfold Evid.iv Evid.c; simp only [go_sem]; refine ja1 h46 (by decide) ?_; simp only [go_sem]
  repeat' (first | (refine jcx (fun hd => ?_) (fun hd => ?_) <;> simp only [*, go_sem]) | (refine ja1 (h47) (by first | decide | assumption) ?_; simp only [*, go_sem]) | (refine ja4 (h47) (by decide) ?_; simp only [*, go_sem]))
  rename_i k1 k2 k3 k4; clear h47 h46; refine jb3 [1, 3, 29, 30, 31] [1] (fun g : Nat × Int => ⟨[(1, .loc 1 8 0 0), (3, .im (.int g.2)), (29, .im (.sl (e.moves.map Move.c))), (30, .im (.int e.moves.length)), (31, .im (.int g.1))], [(1, 8, [e.c])], []⟩)
   (fun g => g.1 <= e.moves.length /\ jd8 e 0 e.moves = jd8 e g.2 (e.moves.drop g.1)) (fun g => e.moves.length - g.1) (0, 0) ?_ ⟨Nat.zero_le _, rfl⟩ ?_
  ·simp only [Evid.c, Int.natCast_zero, go_sem]
  ·intro ⟨i, last⟩ ⟨hi, ha⟩; dsimp only at hi ha; by_cases hp : (i : Int) < e.moves.length
   ·have hd : decide ((i : Int) < e.moves.length) = true := decide_eq_true hp; obtain ⟨x, hx⟩ := jdq hp; have h1 := jaa (n := (i : Int) + 1) (by omega); rw [drop_cons hx, jd8] at ha; simp only [hd, List.getElem?_map, hx, Move.c, Evid.c, go_sem]
    repeat' (first | (refine jcx (fun hd => ?_) (fun hd => ?_) <;> simp only [*, go_sem]) | (refine ja1 (c48 e x) (by first | decide | assumption) ?_; simp only [*, go_sem]) | (refine ja4 (c48 e x) (by decide) ?_; simp only [*, go_sem]))
    refine jah (i + 1, x.day) ?_ ?_ ⟨?_, ?_⟩
    ·simp only [h1, Evid.c, Int.natCast_add, go_sem]
    ·show e.moves.length - (i + 1) < e.moves.length - i; omega
    ·show i + 1 <= e.moves.length; omega
    ·rw [ha]; simp only [*, Bool.false_eq_true, Bool.true_eq_false, if_false]
   ·have hd : decide ((i : Int) < e.moves.length) = false := decide_eq_false hp; have hi' : e.moves.drop i = [] := List.drop_of_length_le (by omega); rw [hi', jd8] at ha; simp only [hd, Evid.c, go_sem]; refine ja1 h49 (by decide) ?_; simp only [*, go_sem]
    repeat' (first | (refine jcx (fun hd => ?_) (fun hd => ?_) <;> simp only [*, go_sem]) | (refine ja1 (h49) (by first | decide | assumption) ?_; simp only [*, go_sem]) | (refine ja4 (h49) (by decide) ?_; simp only [*, go_sem]))
end
section
open Go.Abs
attribute [local go_sem] Evid.iv Evid.c Place.c Move.c Cert.c Recall.c Purity.c Sample.c Recipe.c ints ic
end
section
open Go.Abs
attribute [local go_sem] Evid.iv Evid.c Place.c Move.c Cert.c Recall.c Purity.c Sample.c Recipe.c ints ic
end
section
open Go.Abs
attribute [local go_sem] Evid.iv Evid.c Place.c Move.c Cert.c Recall.c Purity.c Sample.c Recipe.c ints ic
def purs (l : List Purity) : IV := .sl (l.map Purity.c)
end
section
open Go.Abs
attribute [local go_sem] Evid.iv Evid.c Place.c Move.c Cert.c Recall.c Purity.c Sample.c Recipe.c ints ic
theorem any_take_succ {α : Type} {l : List α} {f : α -> Bool} {i : Nat} {x : α} (h : l[i]? = some x) : (l.take (i + 1)).any f = ((l.take i).any f || f x) := by
 rw [take_succ h, List.any_append]; simp
theorem any_at {α : Type} {l : List α} {f : α -> Bool} {i : Nat} {x : α} (h : l[i]? = some x) (hf : f x = true) : l.any f = true :=
 List.any_eq_true.2 ⟨x, List.mem_of_getElem? h, hf⟩
end
section
open Go.Abs
attribute [local go_sem] Cert.c Recall.c ints ic big frac
theorem jhi (n m : Int) : Ctr G.P 124 [.int n, .int m] (· = .bool (btw n 0 m)) := by
 unfold btw; refine jac good _ _ [.tmp 4] Tryz.func124 rfl rfl (by decide +kernel) rfl ?_; simp only [go_sem]
 repeat' (refine jd5 (fun hd hp => ?_) (fun hd hp => ?_) <;> simp only [hd, go_sem])
def jm2 (c : Cert) : Bool := decide (0 <= c.fr) && decide (c.fr <= c.until') && decide (c.until' <= 100000)
def jfd (c : Cert) : Bool := jm2 c && btw c.scale 0 29 && btw c.grams 0 1099511627776 && btw c.perMille 0 1000 && btw c.drift 0 10000000
theorem h_right (c : Cert) : Ctr G.P 179 [.agg c.c] (· = .bool (jfd c)) := by
 have a1 := jhi c.scale 29; have a2 := jhi c.grams 1099511627776; have a3 := jhi c.perMille 1000; have a4 := jhi c.drift 10000000; generalize hb1 : btw c.scale 0 29 = b1 at *; generalize hb2 : btw c.grams 0 1099511627776 = b2 at *; generalize hb3 : btw c.perMille 0 1000 = b3 at *; generalize hb4 : btw c.drift 0 10000000 = b4 at *; generalize hd1 : decide (0 <= c.fr) = d1; generalize hd2 : decide (c.fr <= c.until') = d2; generalize hd3 : decide (c.until' <= 100000) = d3; have hr : jfd c = (d1 && d2 && d3 && b1 && b2 && b3 && b4) := by simp only [jfd, jm2, hb1, hb2, hb3, hb4, hd1, hd2, hd3]
 rw [hr]; refine jac good _ _ [.tmp 2] Tryz.func179 rfl rfl (by decide +kernel) rfl ?_; unfold Cert.c; simp only [hd1, hd2, hd3, go_sem]
 repeat' (first | (refine jcx (fun hd => ?_) (fun hd => ?_) <;> simp only [*, hd1, hd2, hd3, go_sem]) | (refine ja1 (a1) (by first | decide | assumption) ?_; simp only [*, hd1, hd2, hd3, go_sem]) | (refine ja1 (a2) (by first | decide | assumption) ?_; simp only [*, hd1, hd2, hd3, go_sem]) | (refine ja1 (a3) (by first | decide | assumption) ?_; simp only [*, hd1, hd2, hd3, go_sem]) | (refine ja1 (a4) (by first | decide | assumption) ?_; simp only [*, hd1, hd2, hd3, go_sem]) | (refine ja4 (a1) (by decide) ?_; simp only [*, hd1, hd2, hd3, go_sem]) | (refine ja4 (a2) (by decide) ?_; simp only [*, hd1, hd2, hd3, go_sem]) | (refine ja4 (a3) (by decide) ?_; simp only [*, hd1, hd2, hd3, go_sem]) | (refine ja4 (a4) (by decide) ?_; simp only [*, hd1, hd2, hd3, go_sem]))
 all_goals simp_all
def jdu (c : Cert) (day : Int) : Bool := jfd c && decide (c.fr <= day) && decide (day <= c.until')
theorem jp2 (c : Cert) (day : Int) : Ctr G.P 121 [.agg c.c, .int day] (· = .bool (jdu c day)) := by
 have a1 := h_right c; generalize hb1 : jfd c = b1 at *; generalize hd1 : decide (c.fr <= day) = d1; generalize hd2 : decide (day <= c.until') = d2; have hr : jdu c day = (b1 && d1 && d2) := by simp only [jdu, hb1, hd1, hd2]
 rw [hr]; refine jac good _ _ [.tmp 4] Tryz.func121 rfl rfl (by decide +kernel) rfl ?_; unfold Cert.c at a1 ⊢; simp only [hd1, hd2, go_sem]
 repeat' (first | (refine jcx (fun hd => ?_) (fun hd => ?_) <;> simp only [*, hd1, hd2, go_sem]) | (refine ja1 (a1) (by first | decide | assumption) ?_; simp only [*, hd1, hd2, go_sem]) | (refine ja4 (a1) (by decide) ?_; simp only [*, hd1, hd2, go_sem]))
 all_goals simp_all
def pickF (l : List Cert) (sc day : Int) (b : Nat × Bool) (c : Cert) : Bool :=
 decide (c.scale = sc) && jdu c day && (!b.2 || decide ((l[b.1]?.elim 0 Cert.fr) <= c.fr))
def jed (l : List Cert) (sc day : Int) : Nat -> Nat × Bool
 | 0 => (0, false)
 | i + 1 => if (l[i]?.elim false (pickF l sc day (jed l sc day i))) = true then (i, true) else jed l sc day i
theorem jjt (l : List Cert) (sc day : Int) (i : Nat) : (jed l sc day i).2 = true -> (jed l sc day i).1 < i /\ ∃ c, l[(jed l sc day i).1]? = some c /\ jdu c day = true := by
 induction i with
 | zero => intro h; cases h
 | succ i ih =>
  rw [jed]; split
  ·rename_i h; intro _; refine ⟨by dsimp only; omega, ?_⟩; dsimp only; rcases hx : l[i]? with _ | c
   ·rw [hx] at h; cases h
   ·rw [hx] at h; refine ⟨c, rfl, ?_⟩; simp only [Option.elim, pickF, Bool.and_eq_true] at h; exact h.1.2
  ·intro h; obtain ⟨h1, h2⟩ := ih h; exact ⟨by omega, h2⟩
theorem jer {l : List Cert} {sc day : Int} {i : Nat} {c : Cert} (h : l[i]? = some c) : jed l sc day (i + 1) = if pickF l sc day (jed l sc day i) c = true then (i, true) else jed l sc day i := by
 rw [jed, h]; rfl
def findF (l : List Cert) (sc day : Int) : Nat × Bool := jed l sc day l.length
set_option maxHeartbeats 1000000 in
theorem h_find (l : List Cert) (sc day : Int) (hl : l.length <= 100000) : Ctr G.P 61 [.sl (l.map Cert.c), .int sc, .int day] (· = .tup [.int (findF l sc day).1, .bool (findF l sc day).2]) := by
 unfold findF; refine jac good _ _ [.tmp 6, .tmp 7] Tryz.func61 rfl rfl (by decide +kernel) rfl ?_; simp only [go_sem]; refine jb3 [0, 1, 2, 8, 9, 12, 13, 14] [] (fun i : Nat => ⟨[(0, .im (.sl (l.map Cert.c))), (1, .im (.int sc)), (2, .im (.int day)), (8, .im (.int (jed l sc day i).1)), (9, .im (.bool (jed l sc day i).2)), (12, .im (.sl (l.map Cert.c))), (13, .im (.int l.length)), (14, .im (.int i))], [], []⟩)
  (fun i => i <= l.length) (fun i => l.length - i) 0 ?_ (Nat.zero_le _) ?_
 ·simp only [jed, Int.natCast_zero, go_sem]
 ·intro i hi; by_cases hp : (i : Int) < l.length
  ·have hd : decide ((i : Int) < l.length) = true := decide_eq_true hp; obtain ⟨x, hx⟩ := jdq hp; have h1 := jaa (n := (i : Int) + 1) (by omega); have hc := jp2 x day; have hsp := jjt l sc day i; rcases hbf : jed l sc day i with ⟨b, f⟩; rw [hbf] at hsp; dsimp only at hsp ⊢; simp only [Cert.c] at hc; rcases hs : decide (x.scale = sc) with _ | _
   ·simp only [hd, List.getElem?_map, hx, go_sem]; refine jau 23 (by decide +kernel) ?_; simp only [hs, List.getElem?_map, hx, go_sem]; refine jah (i + 1) ?_ (by omega) (by omega); rw [jer hx, if_neg (by simp [pickF, *]), hbf]; simp only [h1, Int.natCast_add, go_sem]
   ·rcases hv : jdu x day with _ | _
    ·rw [hv] at hc; simp only [hd, List.getElem?_map, hx, go_sem]; refine jau 23 (by decide +kernel) ?_; simp only [hs, List.getElem?_map, hx, go_sem]; refine ja4 hc (by decide) ?_; simp only [go_sem]; refine jah (i + 1) ?_ (by omega) (by omega); rw [jer hx, if_neg (by simp [pickF, *]), hbf]; simp only [h1, Int.natCast_add, go_sem]
    ·rw [hv] at hc; rcases f with _ | _
     ·simp only [hd, List.getElem?_map, hx, go_sem]; refine jau 23 (by decide +kernel) ?_; simp only [hs, List.getElem?_map, hx, go_sem]; refine ja4 hc (by decide) ?_; simp only [go_sem]; refine jah (i + 1) ?_ (by omega) (by omega); rw [jer hx, if_pos (by simp [pickF, *])]; simp only [h1, Int.natCast_add, go_sem]
     ·obtain ⟨_, y, hy, _⟩ := hsp rfl; have hg : l[b]?.elim 0 Cert.fr = y.fr := by rw [hy]; rfl
      rcases hk : decide (y.fr <= x.fr) with _ | _
      ·simp only [hd, List.getElem?_map, hx, go_sem]; refine jau 23 (by decide +kernel) ?_; simp only [hs, List.getElem?_map, hx, hy, hk, go_sem]; refine ja4 hc (by decide) ?_; simp only [hs, List.getElem?_map, hx, hy, hk, go_sem]; refine jah (i + 1) ?_ (by omega) (by omega); rw [jer hx, if_neg (by simp [pickF, *]), hbf]; simp only [h1, Int.natCast_add, go_sem]
      ·simp only [hd, List.getElem?_map, hx, go_sem]; refine jau 23 (by decide +kernel) ?_; simp only [hs, List.getElem?_map, hx, hy, hk, go_sem]; refine ja4 hc (by decide) ?_; simp only [hs, List.getElem?_map, hx, hy, hk, go_sem]; refine jah (i + 1) ?_ (by omega) (by omega); rw [jer hx, if_pos (by simp [pickF, *])]; simp only [h1, Int.natCast_add, go_sem]
  ·have hd : decide ((i : Int) < l.length) = false := decide_eq_false hp; have : i = l.length := by omega
   subst this; simp only [hd, go_sem]
def recF (sc day : Int) (x : Recall) : Bool := decide (x.scale = sc) && decide (x.since <= day)
theorem h_rec1 (x : Recall) (sc day : Int) : Ctr G.P 123 [.agg x.c, .ip [.int sc] 0, .ip [.int day] 0] (· = .bool (recF sc day x)) := by
 unfold recF; refine jac good _ _ [.tmp 4] Tryz.func123 rfl rfl (by decide +kernel) rfl ?_; unfold Recall.c; simp only [go_sem]
 repeat' (refine jd5 (fun hd hp => ?_) (fun hd hp => ?_) <;> simp only [hd, go_sem])
theorem h_irec (l : List Recall) (hl : l.length <= 100000) (p : Recall -> Bool) (g : Nat) (caps : List IV) (hg : 3 <= g /\ g < G.fns) (hc : ∀ x : Recall, Ctr G.P g (.agg x.c :: caps) (· = .bool (p x))) :
  Ctr G.P 180 [.sl (l.map Recall.c), .clo g caps] (fun r => ∃ k : Int, r = .int k /\ decide (0 <= k) = l.any p) := by
 refine jac good _ _ [.tmp 4] Tryz.func180 rfl rfl (by decide +kernel) rfl ?_; simp only [go_sem]; refine jb3 [0, 1, 7, 8] [] (fun i : Nat => ⟨[(0, .im (.sl (l.map Recall.c))), (1, .im (.clo g caps)), (7, .im (.int l.length)), (8, .im (.int i))], [], []⟩)
  (fun i => i <= l.length /\ (l.take i).any p = false) (fun i => l.length - i) 0 ?_ ⟨Nat.zero_le _, rfl⟩ ?_
 ·simp only [Int.natCast_zero, go_sem]
 ·intro i ⟨hi, ha⟩; by_cases hp : (i : Int) < l.length
  ·have hd : decide ((i : Int) < l.length) = true := decide_eq_true hp; obtain ⟨x, hx⟩ := jdq hp; have h1 := jaa (n := (i : Int) + 1) (by omega); have hcx := hc x; simp only [Recall.c] at hcx; simp only [hd, List.getElem?_map, hx, go_sem]; refine ja1 hcx hg ?_; simp only [go_sem]; refine jcx (fun he => ?_) (fun he => ?_)
   ·simp only [he, go_sem]; exact ⟨i, rfl, by rw [any_at hx he]; simp⟩
   ·simp only [he, go_sem]; refine jah (i + 1) ?_ (by omega) ⟨by omega, by rw [any_take_succ hx, ha, he]; rfl⟩; simp only [h1, Int.natCast_add, go_sem]
  ·have hd : decide ((i : Int) < l.length) = false := decide_eq_false hp; rw [List.take_of_length_le (by omega)] at ha; simp only [hd, go_sem]; exact ⟨-1, rfl, by rw [ha]; rfl⟩
theorem h_crec (l : List Recall) (hl : l.length <= 100000) (p : Recall -> Bool) (g : Nat) (caps : List IV) (hg : 3 <= g /\ g < G.fns) (hc : ∀ x : Recall, Ctr G.P g (.agg x.c :: caps) (· = .bool (p x))) :
  Ctr G.P 122 [.sl (l.map Recall.c), .clo g caps] (· = .bool (l.any p)) := by
 have h := h_irec l hl p g caps hg hc; refine jac good _ _ [.tmp 4] Tryz.func122 rfl rfl (by decide +kernel) rfl ?_; simp only [go_sem]; refine CallP_of h (by decide) ?_; rintro r ⟨k, rfl, hk⟩; rw [<- hk]; simp only [go_sem]
theorem h_recalled (l : List Recall) (sc day : Int) (hl : l.length <= 100000) : Ctr G.P 62 [.sl (l.map Recall.c), .int sc, .int day] (· = .bool (l.any (recF sc day))) := by
 have h := h_crec l hl (recF sc day) 123 [.ip [.int sc] 0, .ip [.int day] 0] (by decide) (fun x => h_rec1 x sc day); refine jac good _ _ [.tmp 6] Tryz.func62 rfl rfl (by decide +kernel) rfl ?_; simp only [go_sem]; refine ja1 h (by decide) ?_; simp only [go_sem]
end
section
open Go.Abs
attribute [local go_sem] Cert.c Recall.c ints ic big frac
def zf : IV := .agg [.int 0, .sl [], .int 0, .sl []]
def errF (c : Cert) (rd day : Int) : Rat := Rat.divInt (c.perMille * rd) 1000 + ((c.grams + c.drift * (day - c.fr) : Int) : Rat)
theorem FL_err {c : Cert} {rd day : Int} (h : jdu c day = true) (hr : 0 <= rd /\ rd <= 1099511627776) :
  FL 9 (errF c rd day) /\ FL 4 (Rat.divInt (c.perMille * rd) 1000) /\ FL 4 ((c.grams + c.drift * (day - c.fr) : Int) : Rat) /\ (0 <= c.perMille * rd /\ c.perMille * rd <= 1099511627776000) /\ (0 <= c.drift * (day - c.fr) /\ c.drift * (day - c.fr) <= 1000000000000) /\
  (0 <= c.grams /\ c.grams <= 1099511627776) /\ (0 <= day - c.fr /\ day - c.fr <= 100000) := by
 simp only [jdu, jfd, jm2, Bool.and_eq_true, decide_eq_true_eq, btw_iff] at h; obtain ⟨⟨⟨⟨⟨⟨⟨⟨a1, a2⟩, a3⟩, _⟩, g1, g2⟩, p1, p2⟩, d1, d2⟩, f1⟩, u1⟩ := h; have m1 : 0 <= c.perMille * rd := Int.mul_nonneg p1 hr.1; have m2 : c.perMille * rd <= 1000 * 1099511627776 := Int.mul_le_mul p2 hr.2 hr.1 (by omega); have n1 : 0 <= c.drift * (day - c.fr) := Int.mul_nonneg d1 (by omega); have n2 : c.drift * (day - c.fr) <= 10000000 * 100000 := Int.mul_le_mul d2 (by omega) (by omega) (by omega); have k1 : FL 4 (Rat.divInt (c.perMille * rd) 1000) := jhu (by omega) (jjn (by omega)) (jjn (by omega)); have k2 : FL 4 ((c.grams + c.drift * (day - c.fr) : Int) : Rat) := jce (by omega); exact ⟨jk8 k1 k2, k1, k2, by omega, by omega, by omega, by omega⟩
def errIV (c : Cert) (rd day : Int) : IV := if (jdu c day && btw rd 0 1099511627776) = true then .tup [frac (errF c rd day), .bool true] else .tup [zf, .bool false]
set_option maxHeartbeats 1000000 in
theorem h_error (c : Cert) (rd day : Int) : Ctr G.P 63 [.agg c.c, .int rd, .int day] (· = errIV c rd day) := by
 have hc := jp2 c day; have hw := jhi rd 1099511627776; unfold errIV; rcases hv : jdu c day with _ | _
 ·rw [hv] at hc; rw [Bool.false_and, if_neg Bool.false_ne_true]; unfold zf; simp only [Cert.c] at hc ⊢; refine jac good _ _ [.cell 6 42, .tmp 7] Tryz.func63 rfl rfl (by decide +kernel) rfl ?_; simp only [go_sem]; refine ja1 hc (by decide) ?_; simp only [go_sem]
 ·rw [hv] at hc; rw [Bool.true_and]; rcases hb : btw rd 0 1099511627776 with _ | _
  ·rw [hb] at hw; rw [if_neg Bool.false_ne_true]; unfold zf; simp only [Cert.c] at hc ⊢; refine jac good _ _ [.cell 6 42, .tmp 7] Tryz.func63 rfl rfl (by decide +kernel) rfl ?_; simp only [go_sem]; refine ja1 hc (by decide) ?_; simp only [go_sem]; refine ja1 hw (by decide) ?_; simp only [go_sem]
  ·rw [hb] at hw; rw [if_pos rfl]; obtain ⟨k0, k1, k2, m1, m2, m3, m4⟩ := FL_err hv (btw_iff.1 hb); have ho := t_poff (c.perMille * rd) 1000 (by omega) (by omega) (by omega); have hi := jc6 (c.grams + c.drift * (day - c.fr)) (by omega); have hs := f_add (k1.mono (by omega : 4 <= 19000000000)) (k2.mono (by omega : 4 <= 19000000000)); have w1 := jaa (n := c.perMille * rd) (by omega); have w2 := jaa (n := day - c.fr) (by omega); have w3 := jaa (n := c.drift * (day - c.fr)) (by omega); have w4 := jaa (n := c.grams + c.drift * (day - c.fr)) (by omega); unfold errF; generalize Rat.divInt (c.perMille * rd) 1000 = r1 at *; generalize ((c.grams + c.drift * (day - c.fr) : Int) : Rat) = r2 at *; generalize r1 + r2 = r3 at *; simp only [Cert.c, big, frac, ints] at hc ho hi hs ⊢; refine jac good _ _ [.cell 6 42, .tmp 7] Tryz.func63 rfl rfl (by decide +kernel) rfl ?_; simp only [go_sem]; refine ja1 hc (by decide) ?_; simp only [go_sem]; refine ja1 hw (by decide) ?_; simp only [w1, go_sem]; refine ja1 ho (by decide) ?_; simp only [go_sem]; refine jay (by decide +kernel) ?_; simp only [w2, w3, w4, go_sem]; refine ja4 hi (by decide) ?_; simp only [go_sem]; refine ja4 hs (by decide) ?_; simp only [go_sem]
def ivlF (cs : List Cert) (rs : List Recall) (sc rd day : Int) : Option (Rat × Rat) :=
 if (findF cs sc day).2 = false then none
 else if rs.any (recF sc day) = true then none
 else match cs[(findF cs sc day).1]? with
  | none => none
  | some c => if (jdu c day && btw rd 0 1099511627776) = true then
    some (if (rd : Rat) - errF c rd day < ((0 : Int) : Rat) then ((0 : Int) : Rat) else (rd : Rat) - errF c rd day, (rd : Rat) + errF c rd day) else none
def ivlIV (r : Option (Rat × Rat)) : IV := match r with
 | none => .tup [zf, zf, .bool false]
 | some (a, b) => .tup [frac a, frac b, .bool true]
set_option maxHeartbeats 2000000 in
theorem h_ivl (cs : List Cert) (rs : List Recall) (sc rd day : Int) (l1 : cs.length <= 100000) (l2 : rs.length <= 100000) :
  Ctr G.P 14 [.sl (cs.map Cert.c), .sl (rs.map Recall.c), .int sc, .int rd, .int day] (· = ivlIV (ivlF cs rs sc rd day)) := by
 have hf := h_find cs sc day l1; have hr := h_recalled rs sc day l2; have hsp := jjt cs sc day cs.length; unfold ivlF; rw [show jed cs sc day cs.length = findF cs sc day from rfl] at hsp; generalize findF cs sc day = bf at *; obtain ⟨b, f⟩ := bf; dsimp only at hf hsp ⊢; rcases f with _ | _
 ·rw [if_pos rfl]; unfold ivlIV zf; refine jac good _ _ [.cell 10 42, .cell 11 42, .tmp 12] Tryz.func14 rfl rfl (by decide +kernel) rfl ?_; simp only [go_sem]; refine ja1 hf (by decide) ?_; simp only [go_sem]
 rw [if_neg (by decide)]; rcases ha : rs.any (recF sc day) with _ | _
 ·rw [ha] at hr; rw [if_neg (by decide)]; obtain ⟨_, c, hx, _⟩ := hsp rfl; rw [hx]; dsimp only; have he := h_error c rd day; unfold errIV at he; rcases hv : (jdu c day && btw rd 0 1099511627776) with _ | _
  ·rw [hv, if_neg Bool.false_ne_true] at he; rw [if_neg Bool.false_ne_true]; unfold ivlIV; unfold zf at he ⊢; simp only [Cert.c] at he; refine jac good _ _ [.cell 10 42, .cell 11 42, .tmp 12] Tryz.func14 rfl rfl (by decide +kernel) rfl ?_; simp only [go_sem]; refine ja1 hf (by decide) ?_; simp only [go_sem]; refine ja1 hr (by decide) ?_; simp only [List.getElem?_map, hx, go_sem]; refine ja1 he (by decide) ?_; simp only [go_sem]
  ·rw [hv, if_pos rfl] at he; rw [if_pos rfl]; unfold ivlIV; rw [Bool.and_eq_true] at hv; have hb := btw_iff.1 hv.2; obtain ⟨k0, _⟩ := FL_err hv.1 hb; have k4 : FL 4 (rd : Rat) := jce (by omega); have o1 := jc6 rd (by omega); have o2 := jc6 0 (by omega); have z4 : FL 4 ((0 : Int) : Rat) := jce (by omega); generalize errF c rd day = e at *; have s1 := f_sub (k4.mono (by omega : 4 <= 19000000000)) (k0.mono (by omega : 9 <= 19000000000)); have s2 := f_add (k4.mono (by omega : 4 <= 19000000000)) (k0.mono (by omega : 9 <= 19000000000)); have s3 := f_max ((FL_sub k4 k0).mono (by omega : 14 <= 19000000000)) (z4.mono (by omega : 4 <= 19000000000)); generalize hzz : ((0 : Int) : Rat) = zz at *; generalize (rd : Rat) = rr at *; generalize rr - e = lo at *; generalize rr + e = hi at *; dsimp only; generalize (if lo < zz then zz else lo) = mx at *; simp only [Cert.c, big, frac, ints] at he o1 o2 s1 s2 s3 ⊢; refine jac good _ _ [.cell 10 42, .cell 11 42, .tmp 12] Tryz.func14 rfl rfl (by decide +kernel) rfl ?_; simp only [go_sem]; refine ja1 hf (by decide) ?_; simp only [go_sem]; refine ja1 hr (by decide) ?_; simp only [List.getElem?_map, hx, go_sem]; refine ja1 he (by decide) ?_; simp only [go_sem]; refine ja1 o1 (by decide) ?_; simp only [go_sem]; refine ja1 s1 (by decide) ?_; simp only [go_sem]; refine ja1 s2 (by decide) ?_; simp only [go_sem]; refine jay (by decide +kernel) ?_; simp only [go_sem]; refine ja4 o2 (by decide) ?_; simp only [go_sem]; refine ja4 s3 (by decide) ?_; simp only [go_sem]
   refine DrawE_of ?_; refine jps 0 1 (by decide +kernel) rfl rfl ?_ ?_
   ·simp only [go_sem]; refine jps 1 2 (by decide +kernel) rfl rfl ?_ ?_
    ·simp only [go_sem]; refine je2 2 (by decide +kernel) rfl ?_; simp only [go_sem]; refine je2 3 (by decide +kernel) rfl ?_; simp only [go_sem]; refine je2 4 (by decide +kernel) rfl ?_; simp only [go_sem]; refine jmb (by decide +kernel) ?_; simp only [go_sem]
    ·simp only [go_sem]; refine je2 1 (by decide +kernel) rfl ?_; simp only [go_sem]; refine je2 3 (by decide +kernel) rfl ?_; simp only [go_sem]; refine je2 4 (by decide +kernel) rfl ?_; simp only [go_sem]; refine jmb (by decide +kernel) ?_; simp only [go_sem]
   ·simp only [go_sem]; refine je2 0 (by decide +kernel) rfl ?_; simp only [go_sem]; refine je2 2 (by decide +kernel) rfl ?_; simp only [go_sem]; refine je2 3 (by decide +kernel) rfl ?_; simp only [go_sem]; refine je2 4 (by decide +kernel) rfl ?_; simp only [go_sem]; refine jmb (by decide +kernel) ?_; simp only [go_sem]
 ·rw [ha] at hr; rw [if_pos rfl]; unfold ivlIV zf; refine jac good _ _ [.cell 10 42, .cell 11 42, .tmp 12] Tryz.func14 rfl rfl (by decide +kernel) rfl ?_; simp only [go_sem]; refine ja1 hf (by decide) ?_; simp only [go_sem]; refine ja1 hr (by decide) ?_; simp only [go_sem]
end
end Go.Proofs.YtfahloobpegieaaGreat
