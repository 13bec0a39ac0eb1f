/- A part of the proof. No further condition. -/
import Derived.Test.YtfahloobpegieaaGreatKX16
set_option linter.all false
set_option maxRecDepth 100000
namespace Go.Proofs.YtfahloobpegieaaGreat
section
open Go.Abs
open Go.LP (Dic)
attribute [local go_sem] ints ic big frac fc
def jbp (vars : Nat -> Nat) (ch : Nat -> Bool) : Nat -> Int
 | 0 => -1
 | k + 1 => if (ch k && (decide (jbp vars ch k < 0) || decide (vars k < vars (jbp vars ch k).toNat))) = true then (k : Int) else jbp vars ch k
theorem jd6 (vars : Nat -> Nat) (ch : Nat -> Bool) : ∀ k, -1 <= jbp vars ch k /\ jbp vars ch k < k
 | 0 => by simp [jbp]
 | k + 1 => by
  have := jd6 vars ch k; rw [jbp]; split <;> omega
theorem jcm {vars : Nat -> Nat} {ch : Nat -> Bool} : ∀ {k}, jbp vars ch k < 0 -> ∀ i, i < k -> ch i = false
 | k + 1, h, i, hi => by
  rw [jbp] at h; split at h
  ·omega
  ·rename_i hc; rcases Nat.lt_or_eq_of_le (Nat.le_of_lt_succ hi) with h1 | h1
   ·exact jcm h i h1
   ·subst h1; rw [decide_eq_true h, Bool.true_or, Bool.and_true] at hc
    simpa using hc
theorem jd2 {vars : Nat -> Nat} {ch : Nat -> Bool} : ∀ {k}, 0 <= jbp vars ch k -> ch (jbp vars ch k).toNat = true /\ ∀ i, i < k -> ch i = true -> vars (jbp vars ch k).toNat <= vars i
 | 0, h => by simp [jbp] at h
 | k + 1, h => by
  have hl := jd6 vars ch k; rw [jbp] at h ⊢; split at h
  ·rename_i hc; rw [if_pos hc, Int.toNat_natCast]; rw [Bool.and_eq_true, Bool.or_eq_true, decide_eq_true_eq, decide_eq_true_eq] at hc; refine ⟨hc.1, fun i hi hch => ?_⟩; rcases Nat.lt_or_eq_of_le (Nat.le_of_lt_succ hi) with h1 | h1
   ·rcases hc.2 with h2 | h2
    ·rw [jcm h2 i h1] at hch; cases hch
    ·by_cases h0 : 0 <= jbp vars ch k
     ·have := (jd2 h0).2 i h1 hch; omega
     ·rw [jcm (vars := vars) (ch := ch) (k := k) (by omega) i h1] at hch; cases hch
   ·subst h1; exact Nat.le_refl _
  ·rename_i hc; rw [if_neg hc]; obtain ⟨h1, h2⟩ := jd2 h; refine ⟨h1, fun i hi hch => ?_⟩; rcases Nat.lt_or_eq_of_le (Nat.le_of_lt_succ hi) with h3 | h3
   ·exact h2 i h3 hch
   ·subst h3; rw [hch, Bool.true_and, Bool.or_eq_true, decide_eq_true_eq, decide_eq_true_eq] at hc; omega
theorem caps_toH (caps : List IV) : (caps.map AV.im).map AV.toH = caps.map AV.im := by simp [AV.toH, Function.comp_def]
set_option maxHeartbeats 2000000 in
theorem jfj (L : Abs.Rows) (O m : Nat) (vars : Nat -> Nat) (ch : Nat -> Bool) (g : Nat) (caps : List IV) (hg : 3 <= g /\ g < G.fns) (hL : blks L) (hO : m ≠ 0 -> Abs.look L (hp O) = some (1, tab m fun i => oc (vars i))) (hm : m <= 100000) (hv : ∀ i, i < m -> vars i <= 1000000)
  (hc : ∀ i, i < m -> CtrH G.P g (.im (.int (i : Int)) :: caps.map .im) L (fun r L' => r = .im (.bool (ch i)) /\ L' = L)) :
  CtrH G.P 194 [.im (sl0 O 3 1 m), .im (.clo g caps)] L (fun r L' => r = .im (.int (jbp vars ch m)) /\ L' = L) := by
 have F1 := bF hL; have K1 := bK hL; have G1 := bN hL; rcases Nat.eq_zero_or_pos m with h0 | h0
 ·subst h0; rw [jb9]; refine jb7 (goodH [] []) _ _ [.tmp 4] Tryz.func194 rfl rfl (by decide +kernel) rfl ?_; simp only [F1, K1, go_sem]; refine jb4 [5, 10, 9] (fun g : Unit => ⟨[(5, .im (.int (-1))), (10, .im (.int 0)), (9, .im (.int 0))], L, []⟩) (fun _ => True) (fun _ => 0) () ?_ ?_ rfl trivial ?_
  ·simp only [go_sem]
  ·exact SubR.of_eq rfl
  ·intro _ _; simp only [go_sem]; refine jbd L hL (SubR.of_eq rfl) ?_; simp only [jbp, go_sem]
 ·rw [jal (by omega)]; have hO := hO (by omega); refine jb7 (goodH [] []) _ _ [.tmp 4] Tryz.func194 rfl rfl (by decide +kernel) rfl ?_; simp only [F1, K1, go_sem]; refine jb4 [0, 1, 5, 8, 9, 10] (fun k : Nat => ⟨[(0, .im (.ref O 3 1 m)), (1, .im (.clo g caps)), (5, .im (.int (jbp vars ch k))), (8, .im (.ref O 3 1 m)), (9, .im (.int m)), (10, .im (.int k))], L, []⟩)
   (fun k => k <= m) (fun k => m - k) 0 ?_ ?_ rfl (Nat.zero_le _) ?_
  ·simp only [Int.natCast_zero, jbp, go_sem]
  ·exact SubR.of_eq rfl
  ·intro k hk; by_cases hlt : k < m
   ·have hd : decide ((k : Int) < m) = true := decide_eq_true (by omega); have hkm : (k : Int) < m := by omega
    have h1 := jaa (n := (k : Int) + 1) (by omega); have hlf := jd6 vars ch k; have hgk := oget (o := vars) hlt; have hck := hc k hlt; have hls : jbp vars ch (k + 1) = if (ch k && (decide (jbp vars ch k < 0) || decide (vars k < vars (jbp vars ch k).toNat))) = true then (k : Int) else jbp vars ch k := rfl
    generalize hr0 : jbp vars ch k = r0 at *; have hgr : 0 <= r0 -> (tab m fun i => oc (vars i))[r0.toNat]? = some [.int (vars r0.toNat : Int)] := fun h => oget (by omega); have hv1 := hv k hlt; generalize ch k = c at *; have hw : -9223372036854775808 <= (k : Int) + 1 := by omega
    simp only [hd, hO, hgk, hkm, ja8, Int.toNat_natCast, F1, K1, G1, go_sem]; refine jcy hck hg (by rw [List.map_append, caps_toH]; rfl) hL (SubR.of_eq rfl) ?_; rintro r L' ⟨rfl, rfl⟩ hfr; refine ⟨L', jbg, ?_⟩; cases c
    ·rw [Bool.false_and, if_neg Bool.false_ne_true] at hls; simp only [hd, hO, hgk, hkm, ja8, Int.toNat_natCast, F1, K1, G1, go_sem]; refine jab (k + 1) ?_ (SubR.of_eq rfl) rfl (by omega) hlt; simp only [h1, hls, Int.natCast_add, go_sem]
    ·rw [Bool.true_and] at hls; by_cases hneg : r0 < 0
     ·have hd1 : decide (r0 < 0) = true := decide_eq_true hneg; rw [hd1, Bool.true_or, if_pos rfl] at hls; simp only [hd, hd1, hO, hgk, hkm, ja8, Int.toNat_natCast, F1, K1, G1, go_sem]; refine jab (k + 1) ?_ (SubR.of_eq rfl) rfl (by omega) hlt; simp only [h1, hls, Int.natCast_add, go_sem]
     ·have hd1 : decide (r0 < 0) = false := decide_eq_false hneg; have hgr := hgr (by omega); have hr1 : 0 <= r0 := by omega
      have hr2 : r0 < m := by omega
      rw [hd1, Bool.false_or] at hls; by_cases hlt2 : vars k < vars r0.toNat
      ·have hd2 : decide ((vars k : Int) < vars r0.toNat) = true := decide_eq_true (by omega); rw [decide_eq_true hlt2, if_pos rfl] at hls; simp only [hd, hd1, hd2, hO, hgk, hgr, hr1, hr2, hkm, ja8, Int.toNat_natCast, F1, K1, G1, go_sem]; refine jab (k + 1) ?_ (SubR.of_eq rfl) rfl (by omega) hlt; simp only [h1, hls, Int.natCast_add, go_sem]
      ·have hd2 : decide ((vars k : Int) < vars r0.toNat) = false := decide_eq_false (by omega); rw [decide_eq_false hlt2, if_neg Bool.false_ne_true] at hls; simp only [hd, hd1, hd2, hO, hgk, hgr, hr1, hr2, hkm, ja8, Int.toNat_natCast, F1, K1, G1, go_sem]; refine jab (k + 1) ?_ (SubR.of_eq rfl) rfl (by omega) hlt; simp only [h1, hls, Int.natCast_add, go_sem]
   ·have hd : decide ((k : Int) < m) = false := decide_eq_false (by omega); have hkm : k = m := by omega
    subst hkm; simp only [hd, go_sem]; refine jbd L hL (SubR.of_eq rfl) ?_; simp only [go_sem]
end
end Go.Proofs.YtfahloobpegieaaGreat
namespace Go.Abs
section
theorem CtrH.loc {P : Program} {f : FuncId} {b s i j : Nat} {args : List AV} {L : Rows} {φ : AV -> Rows -> Prop} (h : CtrH P f (.im (.pr b s i j) :: args) L φ) : CtrH P f (.loc (hp b) s i j :: args) L φ :=
 fun w M vs h1 h2 h3 h4 => h w M vs h1 h2 (by simpa using h3) fun k av v hk hv => by
  cases k with
  | zero =>
   simp at hk; subst hk; obtain ⟨b', e1, e2⟩ := h4 0 (.loc (hp b) s i j) v rfl hv; rw [pβ_hp] at e1; cases e1; rw [e2]; exact Rep.pr b s i j
  | succ k => exact h4 (k + 1) av v (by simpa using hk) hv
theorem St.le_lend (s : St) (d : Nat) : St.Le s (s.lend d) := fun _ _ _ β _ _ h => ⟨β, h.lend d⟩
theorem jif {G : Ctx} {c : Code} {Q : Exit -> St -> Prop} {st : St} (d : Nat) (h : @LoopP G ⟨c⟩ ⟨Q⟩ (st.lend d)) : @LoopP G ⟨c⟩ ⟨Q⟩ st := by
 obtain ⟨I, n, ⟨s0, h1, h2⟩, h3⟩ := h; exact ⟨I, n, ⟨s0, (St.le_lend st d).trans h1, h2⟩, h3⟩
end
end Go.Abs
namespace Go.Proofs.YtfahloobpegieaaGreat
section
open Go.Abs
open Go.LP (Dic)
attribute [local go_sem] ints ic big frac fc
section
variable {L : Abs.Rows} {nm : DN} {N : Nat} {D : Dic} {src : Nat -> Int × Bool}
theorem x_c1 (h : HasD L nm N D src) {i : Nat} (hi : i < D.m) :
  CtrH G.P 195 [.im (.int i), .im (.ip [.pr nm.d 6 0 0] 0)] L (fun r L' => r = .im (.bool (decide (D.v i < 0))) /\ L' = L) := by
 have hb := h.blk; have F1 := bF hb; have G1 := bN hb; have h1 := h.hd; have h2 := h.hr (by omega); have hm0 : D.m ≠ 0 := by omega
 have hi' : (i : Int) < D.m := by omega
 have hg := lget (v := D.v) (A := nm.a) (n := D.n) hi; have e : decide (D.v i < 0) = decide ((D.v i).num.sign < 0) := decide_eq_decide.2 sign_neg.symm; rw [e]; refine jb7 (goodH [] []) _ _ [.tmp 3] Tryz.func195 rfl rfl (by decide +kernel) rfl ?_; simp only [h1, h2, hg, hi', jal hm0, ja8, Int.toNat_natCast, F1, G1, go_sem]; refine jbd L hb (SubR.of_eq rfl) ?_; simp only [go_sem]
theorem x_c2 (h : HasD L nm N D src) {j : Nat} (hj : j < D.n) :
  CtrH G.P 196 [.im (.int j), .im (.ip [.pr nm.d 6 0 0] 0)] L (fun r L' => r = .im (.bool (decide (0 < D.g j))) /\ L' = L) := by
 have hb := h.blk; have F1 := bF hb; have G1 := bN hb; have h1 := h.hd; have h2 := h.hg; have hj' : (j : Int) < D.n := by omega
 have hg := qget (f := D.g) hj; have e : decide (0 < D.g j) = decide (0 < (D.g j).num.sign) := decide_eq_decide.2 sign_pos.symm; rw [e]; refine jb7 (goodH [] []) _ _ [.tmp 3] Tryz.func196 rfl rfl (by decide +kernel) rfl ?_; simp only [h1, h2, hg, hj', ja8, Int.toNat_natCast, F1, G1, go_sem]; refine jbd L hb (SubR.of_eq rfl) ?_; simp only [go_sem]
theorem x_c3 (h : HasD L nm N D src) {r : Nat} (hr : r < D.m) {j : Nat} (hj : j < D.n) :
  CtrH G.P 197 [.im (.int j), .im (.ip [.pr nm.d 6 0 0] 0), .im (.ip [.int (r : Int)] 0)] L (fun x L' => x = .im (.bool (decide (D.a r j < 0))) /\ L' = L) := by
 have hb := h.blk; have F1 := bF hb; have G1 := bN hb; have h1 := h.hd; have h2 := h.hr (by omega); have h3 := h.ha r hr; have hm0 : D.m ≠ 0 := by omega
 have hr' : (r : Int) < D.m := by omega
 have hj' : (j : Int) < D.n := by omega
 have hg := lget (v := D.v) (A := nm.a) (n := D.n) hr; have hg2 := qget (f := D.a r) hj; have e : decide (D.a r j < 0) = decide ((D.a r j).num.sign < 0) := decide_eq_decide.2 sign_neg.symm; rw [e]; refine jb7 (goodH [] []) _ _ [.tmp 4] Tryz.func197 rfl rfl (by decide +kernel) rfl ?_; simp only [F1, go_sem]; refine jau 15 (by decide +kernel) ?_; simp only [h1, h2, h3, hg, hg2, hr', hj', jal hm0, ja8, Int.toNat_natCast, F1, G1, go_sem]; refine jbd L hb (SubR.of_eq rfl) ?_; simp only [go_sem]
theorem x_c4 (h : HasD L nm N D src) {s : Nat} (hs : s < D.n) {i : Nat} (hi : i < D.m) :
  CtrH G.P 198 [.im (.int i), .im (.ip [.pr nm.d 6 0 0] 0), .im (.ip [.int (s : Int)] 0)] L (fun x L' => x = .im (.bool (decide (0 < D.a i s))) /\ L' = L) := by
 have hb := h.blk; have F1 := bF hb; have G1 := bN hb; have h1 := h.hd; have h2 := h.hr (by omega); have h3 := h.ha i hi; have hm0 : D.m ≠ 0 := by omega
 have hi' : (i : Int) < D.m := by omega
 have hs' : (s : Int) < D.n := by omega
 have hg := lget (v := D.v) (A := nm.a) (n := D.n) hi; have hg2 := qget (f := D.a i) hs; have e : decide (0 < D.a i s) = decide (0 < (D.a i s).num.sign) := decide_eq_decide.2 sign_pos.symm; rw [e]; refine jb7 (goodH [] []) _ _ [.tmp 4] Tryz.func198 rfl rfl (by decide +kernel) rfl ?_; simp only [F1, go_sem]; refine jau 15 (by decide +kernel) ?_; simp only [h1, h2, h3, hg, hg2, hi', hs', jal hm0, ja8, Int.toNat_natCast, F1, G1, go_sem]; refine jbd L hb (SubR.of_eq rfl) ?_; simp only [go_sem]
end
end
section
open Go.Abs
open Go.LP (Dic)
attribute [local go_sem] ints ic big frac fc
theorem HasD.congr {L : Abs.Rows} {nm : DN} {N : Nat} {D E : Dic} {src : Nat -> Int × Bool} (h : HasD L nm N D src) (hm : E.m = D.m) (hn : E.n = D.n) (hv : ∀ i, i < D.m -> E.v i = D.v i) (hg : ∀ j, j < D.n -> E.g j = D.g j)
  (ho : ∀ i, i < D.m -> E.own i = D.own i) (hf : ∀ j, j < D.n -> E.free j = D.free j) (ha : ∀ i j, i < D.m -> j < D.n -> E.a i j = D.a i j) : HasD L nm N E src := by
 refine ⟨h.blk, by rw [hm]; exact h.nd, by rw [hm, hn]; exact h.hd, ?_, fun h0 => ?_, fun h0 => ?_, fun h0 => ?_, fun h0 => ?_, fun i hi => ?_⟩
 ·rw [hn, h.hg]; congr 2; exact jar fun k hk => by rw [hg k hk]
 ·rw [hm, hn, h.hr (by omega)]; congr 2; exact jar fun k hk => by rw [hv k hk]
 ·rw [hm, h.ho (by omega)]; congr 2; exact jar fun k hk => by rw [ho k hk]
 ·rw [hn, h.hf (by omega)]; congr 2; exact jar fun k hk => by rw [hf k hk]
 ·rw [hm]; exact h.hs (by omega)
 ·rw [hn, h.ha i (by omega)]; congr 2; exact jar fun k hk => by rw [ha i k (by omega) hk]
structure SmD (D : Dic) : Prop where
 v : ∀ i, i < D.m -> FL 100000000 (D.v i)
 g : ∀ j, j < D.n -> FL 100000000 (D.g j)
 a : ∀ i j, i < D.m -> j < D.n -> FL 100000000 (D.a i j)
theorem lset {m r n : Nat} {v : Nat -> Rat} {A : Nat -> Nat} {x : Rat} : (tab m fun i => lineC (v i) (A i) n).set r (fc x ++ [.ref (A r) 42 4 n]) = tab m fun i => lineC (if i = r then x else v i) (A i) n := by
 rw [jlc]; refine jar fun k _ => ?_; by_cases e : k = r
 ·subst e; rw [if_pos rfl, if_pos rfl]; rfl
 ·rw [if_neg e, if_neg e]
theorem oset {m r x : Nat} {o : Nat -> Nat} : (tab m fun i => oc (o i)).set r [.int (x : Int)] = tab m fun i => oc (if i = r then x else o i) := by
 rw [jlc]; refine jar fun k _ => ?_; by_cases e : k = r
 ·subst e; rw [if_pos rfl, if_pos rfl]; rfl
 ·rw [if_neg e, if_neg e]
section
variable {L : Abs.Rows} {nm : DN} {N : Nat} {D : Dic} {src : Nat -> Int × Bool}
set_option maxHeartbeats 4000000 in
theorem jgh (h : HasD L nm N D src) {r s : Nat} (hr : r < D.m) (hs : s < D.n) (hp0 : D.a r s ≠ 0) (hm : D.m <= 100000) (hn : D.n <= 100000) (sm : SmD D) (sp : SmD (D.pivot r s)) :
  CtrH G.P 199 [.im (.pr nm.d 6 0 0), .im (.int r), .im (.int s)] L (fun x L' => x = .im (.tup []) /\ HasD L' nm N (D.pivot r s) src) := by
 have hm0 : D.m ≠ 0 := by omega
 have hn0 : D.n ≠ 0 := by omega
 have hb := h.blk; have F1 := bF hb; have K1 := bK hb; have G1 := bN hb; have h1 := h.hd; have h2 := h.hr hm0; have h3 := h.ha r hr; have hr0 : (0 : Int) <= r := by omega
 have hs0 : (0 : Int) <= s := by omega
 have hr' : (r : Int) < D.m := by omega
 have hs' : (s : Int) < D.n := by omega
 have g1 := lget (v := D.v) (A := nm.a) (n := D.n) hr; have g2 := qget (f := D.a r) hs; have ko := x_over hp0 (sm.v r hr |>.mono (by omega)) (sm.a r s hr hs |>.mono (by omega)); generalize hp : D.a r s = p at *; generalize hvr : D.v r / p = vr at *; simp only [frac, ints] at ko; obtain ⟨M1, hM1, H1⟩ : ∃ M1, M1 = L.map (fun q => if q.1 = Abs.hp nm.r then (q.1, 5, (tab D.m fun i => lineC (D.v i) (nm.a i) D.n).set r (fc vr ++ [.ref (nm.a r) 42 4 D.n])) else q) /\
   HasD M1 nm N { D with v := fun i => if i = r then vr else D.v i } src :=
  ⟨_, rfl, h.withV (jb5 hb) ((ja9 h2).trans (by rw [lset])) fun k hk => jae hk⟩
 refine jb7 (goodH [] []) _ _ [] Tryz.func199 rfl rfl (by decide +kernel) rfl ?_; simp only [h1, h2, h3, g1, g2, hr', hs', hr0, hs0, jal hm0, jal hn0, ja8, Int.toNat_natCast, F1, K1, G1, go_sem]; refine jay (by decide +kernel) ?_; simp only [h1, h2, h3, g1, g2, hr', hs', hr0, hs0, jal hm0, jal hn0, ja8, Int.toNat_natCast, F1, K1, G1, go_sem]; refine ja4 ko (by decide) ?_; have e1 := hM1.symm; simp only [fc, List.cons_append, List.nil_append] at e1; have F2 := bF H1.blk; have K2 := bK H1.blk; have G2 := bN H1.blk; have i2 := H1.hr hm0; have j1 := lget (v := fun i => if i = r then vr else D.v i) (A := nm.a) (n := D.n) hr; dsimp only at i2; simp only [h1, h2, h3, g1, g2, hr', hs', hr0, hs0, jal hm0, jal hn0, ja8, Int.toNat_natCast, F1, K1, G1, e1, F2, K2, G2, i2, j1, go_sem]; clear e1 hM1 F1 K1 G1 h1 h2 h3 hb; refine jb4 [0, 1, 2, 6, 7, 37, 38] (fun g : Nat × Abs.Rows => ⟨[(0, .im (.pr nm.d 6 0 0)), (1, .im (.int r)), (2, .im (.int s)), (6, .loc (Abs.hp nm.r) 5 r 0), (7, .loc 7 4 0 0), (37, .im (.int D.n)), (38, .im (.int g.1))], (7, 4, [fc p]) :: g.2, []⟩)
  (fun g => g.1 <= D.n /\ HasD g.2 nm N { D with v := fun i => if i = r then vr else D.v i, a := fun i => if i = r then (fun k => if k < g.1 /\ k ≠ s then D.a r k / p else D.a r k) else D.a i } src) (fun g => D.n - g.1) (0, M1) ?_ ?_ rfl
  ⟨Nat.zero_le _, H1.congr rfl rfl (fun _ _ => rfl) (fun _ _ => rfl) (fun _ _ => rfl) (fun _ _ => rfl) (fun i j _ _ => by by_cases e : i = r <;> simp [e])⟩ ?_
 ·simp only [Int.natCast_zero, go_sem]
 ·exact SubR.of_eq rfl
 clear i2 j1 F2 K2 G2 H1 M1; intro ⟨j, M⟩ ⟨hj, H⟩; dsimp only at hj H; have F2 := bF H.blk; have K2 := bK H.blk; have G2 := bN H.blk; have m2 := H.hr hm0; have m3 : Abs.look M (Abs.hp (nm.a r)) = some (4, tab D.n fun k => qc (if k < j /\ k ≠ s then D.a r k / p else D.a r k)) := (H.ha r hr).trans (by dsimp only; rw [if_pos rfl]); have m1 := lget (v := fun i => if i = r then vr else D.v i) (A := nm.a) (n := D.n) hr; dsimp only at m2; by_cases hlt : j < D.n
 ·have hd : decide ((j : Int) < D.n) = true := decide_eq_true (by omega); have hjn : (j : Int) < D.n := by omega
  have hj0 : (0 : Int) <= j := by omega
  have w1 := jaa (n := (j : Int) + 1) (by omega); have ga : (tab D.n fun k => qc (if k < j /\ k ≠ s then D.a r k / p else D.a r k))[j]? = some (fc (D.a r j)) := by
   rw [qget hlt, if_neg (by omega)]
  by_cases hjs : j = s
  ·have hd2 : decide ((j : Int) = s) = true := decide_eq_true (by omega); simp only [hd, hd2, F2, K2, go_sem]; refine jab (j + 1, M) ?_ (SubR.of_eq rfl) rfl (by show D.n - (j + 1) < D.n - j; omega) ⟨hlt, H.congr rfl rfl (fun _ _ => rfl) (fun _ _ => rfl) (fun _ _ => rfl) (fun _ _ => rfl) (fun i k _ _ => ?_)⟩
   ·simp only [w1, Int.natCast_add, go_sem]
   ·dsimp only; have e : (k < j + 1 /\ k ≠ s) ↔ (k < j /\ k ≠ s) := by omega
    by_cases hi : i = r
    ·rw [if_pos hi, if_pos hi]; simp only [e]
    ·rw [if_neg hi, if_neg hi]
  ·have hd2 : decide ((j : Int) = s) = false := decide_eq_false (by omega); have kz := jme (D.a r j); by_cases hz : D.a r j = 0
   ·rw [decide_eq_true hz] at kz; simp only [frac, ints] at kz; simp only [hd, hd2, m2, m3, m1, ga, hjn, hj0, ja8, Int.toNat_natCast, F2, K2, G2, go_sem]; refine ja1 kz (by decide) ?_; simp only [hd, hd2, m2, m3, m1, ga, hjn, hj0, ja8, Int.toNat_natCast, F2, K2, G2, go_sem]; refine jab (j + 1, M) ?_ (SubR.of_eq rfl) rfl (by show D.n - (j + 1) < D.n - j; omega) ⟨hlt, H.congr rfl rfl (fun _ _ => rfl) (fun _ _ => rfl) (fun _ _ => rfl) (fun _ _ => rfl) (fun i k _ _ => ?_)⟩
    ·simp only [w1, Int.natCast_add, go_sem]
    ·dsimp only; by_cases hi : i = r
     ·rw [if_pos hi, if_pos hi]; by_cases hk : k = j
      ·subst hk; rw [if_pos ⟨by omega, hjs⟩, if_neg (by omega), hz, Rat.div_def]; grind
      ·have e : (k < j + 1 /\ k ≠ s) ↔ (k < j /\ k ≠ s) := by omega
       simp only [e]
     ·rw [if_neg hi, if_neg hi]
   ·rw [decide_eq_false hz] at kz; have ko2 := x_over hp0 (sm.a r j hr hlt |>.mono (by omega)) (b := p) (by rw [<- hp]; exact sm.a r s hr hs |>.mono (by omega)); generalize hx : D.a r j / p = x at *; simp only [frac, ints] at kz ko2; obtain ⟨M', hM', H'⟩ : ∃ M', M' = M.map (fun q => if q.1 = Abs.hp (nm.a r) then (q.1, 4, (tab D.n fun k => qc (if k < j /\ k ≠ s then D.a r k / p else D.a r k)).set j (fc x)) else q) /\
      HasD M' nm N { D with v := fun i => if i = r then vr else D.v i, a := fun i => if i = r then (fun k => if k < j + 1 /\ k ≠ s then D.a r k / p else D.a r k) else D.a i } src := by
     refine ⟨_, rfl, (H.withA (jb5 H.blk) hr ((ja9 m3).trans (by rw [qset])) fun k hk => jae hk).congr rfl rfl (fun _ _ => rfl) (fun _ _ => rfl) (fun _ _ => rfl) (fun _ _ => rfl) (fun i k _ _ => ?_)⟩; dsimp only; by_cases hi : i = r
     ·rw [if_pos hi, if_pos hi]; by_cases hk : k = j
      ·subst hk; rw [if_pos ⟨by omega, hjs⟩, if_pos rfl, hx]
      ·have e : (k < j + 1 /\ k ≠ s) ↔ (k < j /\ k ≠ s) := by omega
       rw [if_neg hk]; simp only [e]
     ·rw [if_neg hi, if_neg hi, if_neg hi]
    simp only [hd, hd2, m2, m3, m1, ga, hjn, hj0, ja8, Int.toNat_natCast, F2, K2, G2, go_sem]; refine ja1 kz (by decide) ?_; simp only [hd, hd2, m2, m3, m1, ga, hjn, hj0, ja8, Int.toNat_natCast, F2, K2, G2, go_sem]; refine jay (by decide +kernel) ?_; simp only [hd, hd2, m2, m3, m1, ga, hjn, hj0, ja8, Int.toNat_natCast, F2, K2, G2, go_sem]; refine ja4 ko2 (by decide) ?_; simp only [hd, hd2, m2, m3, m1, ga, hjn, hj0, ja8, Int.toNat_natCast, F2, K2, G2, go_sem]; refine jab (j + 1, M') ?_ ?_ rfl (by show D.n - (j + 1) < D.n - j; omega) ⟨hlt, H'⟩
    ·simp only [w1, Int.natCast_add, go_sem]
    ·exact SubR.of_eq (by rw [hM']; rfl)
 have hd : decide ((j : Int) < D.n) = false := decide_eq_false (by omega); have hjn : j = D.n := by omega
 subst hjn; have o1 := jc6 1 (by omega); have ko3 := x_over hp0 (a := ((1 : Int) : Rat)) ((jce (by omega)).mono (by omega)) (b := p) (by rw [<- hp]; exact sm.a r s hr hs |>.mono (by omega)); have hone : ((1 : Int) : Rat) / p = 1 / p := rfl; generalize ((1 : Int) : Rat) = one at *; generalize hx : one / p = x at *; simp only [frac, ints] at o1 ko3; obtain ⟨M', hM', H'⟩ : ∃ M', M' = M.map (fun q => if q.1 = Abs.hp (nm.a r) then (q.1, 4, (tab D.n fun k => qc (if k < D.n /\ k ≠ s then D.a r k / p else D.a r k)).set s (fc x)) else q) /\
   HasD M' nm N { D with v := fun i => if i = r then vr else D.v i, a := fun i => if i = r then (fun k => if k = s then 1 / p else D.a r k / p) else D.a i } src := by
  refine ⟨_, rfl, (H.withA (jb5 H.blk) hr ((ja9 m3).trans (by rw [qset])) fun k hk => jae hk).congr rfl rfl (fun _ _ => rfl) (fun _ _ => rfl) (fun _ _ => rfl) (fun _ _ => rfl) (fun i k _ hk => ?_)⟩; dsimp only; by_cases hi : i = r
  ·rw [if_pos hi, if_pos hi]; by_cases hks : k = s
   ·rw [if_pos hks, if_pos hks, hone]
   ·rw [if_neg hks, if_neg hks, if_pos ⟨hk, hks⟩]
  ·rw [if_neg hi, if_neg hi, if_neg hi]
 simp only [hd, go_sem]; refine jay (by decide +kernel) ?_; simp only [m2, m3, m1, hs', hs0, ja8, Int.toNat_natCast, F2, K2, G2, go_sem]; refine ja4 o1 (by decide) ?_; simp only [m2, m3, m1, hs', hs0, ja8, Int.toNat_natCast, F2, K2, G2, go_sem]; refine ja4 ko3 (by decide) ?_; have e1 := hM'.symm; simp only [fc] at e1; have ga : (tab D.n fun k => qc (if k < D.n /\ k ≠ s then D.a r k / p else D.a r k))[s]? = some (fc p) := by
  rw [qget hs, if_neg (by omega), hp]
 have F3 := fun (d : Nat) (h : d < 100000) => jdw (L := M') (d := d) H'.blk h; have K3 := fun (d s : Nat) (es : List (List IV)) (h : d < 100000) => jm3 (L := M') (d := d) (s := s) (es := es) H'.blk h; have G3 := fun (d : Nat) (h : d < 100000) => jax (L := M') (d := d) H'.blk h; have n1 := H'.hd; dsimp only at n1; simp only [m2, m3, m1, ga, hs', hs0, ja8, Int.toNat_natCast, F2, K2, G2, e1, n1, jal hm0, F3, K3, G3, go_sem]; clear e1 ga F2 K2 G2 m1 m2 m3 o1 ko3 F3 K3 G3 n1 ko; obtain ⟨nr, hnr⟩ : ∃ nr : Nat -> Rat, nr = fun k => if k = s then 1 / p else D.a r k / p := ⟨_, rfl⟩
 rw [<- hnr] at H'; have hpiv : ∀ k, (D.pivot r s).a r k = nr k := fun k => by rw [hnr, <- hp]; simp [LP.Dic.pivot]
 have hnrF : ∀ k, k < D.n -> FL 1000000000 (nr k) := fun k hk => by rw [<- hpiv]; exact (sp.a r k hr hk).mono (by omega)
 have hvrF : FL 1000000000 vr := by
  have := sp.v r hr; simp only [LP.Dic.pivot, if_true] at this; rw [hp, hvr] at this; exact this.mono (by omega)
 refine jb4 [0, 1, 2, 6, 84, 85] (fun g : Nat × Abs.Rows => ⟨[(0, .im (.pr nm.d 6 0 0)), (1, .im (.int r)), (2, .im (.int s)), (6, .loc (Abs.hp nm.r) 5 r 0), (84, .im (.int D.m)), (85, .im (.int g.1))], g.2, []⟩)
  (fun g => g.1 <= D.m /\ HasD g.2 nm N { D with v := fun k => if k = r then vr else if k < g.1 then D.v k - D.a k s * vr else D.v k, a := fun k => if k = r then nr else if k < g.1 then tkF (D.a k) nr s else D.a k } src) (fun g => D.m - g.1) (0, M') ?_ ?_ rfl
  ⟨Nat.zero_le _, H'.congr rfl rfl (fun i _ => by simp) (fun _ _ => rfl) (fun _ _ => rfl) (fun _ _ => rfl) (fun i j _ _ => by by_cases e : i = r <;> simp [e])⟩ ?_
 ·simp only [Int.natCast_zero, go_sem]
 ·exact ja3 (by decide) H'.blk (SubR.of_eq rfl)
 clear H' hM' M' H hx hone x one M; intro ⟨i, M⟩ ⟨hi, H⟩; dsimp only at hi H; have F2 := bF H.blk; have K2 := bK H.blk; have G2 := bN H.blk; have m0 := H.hd; have m2 := H.hr hm0; have m1 := lget (v := fun k => if k = r then vr else if k < i then D.v k - D.a k s * vr else D.v k) (A := nm.a) (n := D.n) hr; rw [if_pos rfl] at m1; dsimp only at m0 m2; by_cases hlt : i < D.m
 ·have hd : decide ((i : Int) < D.m) = true := decide_eq_true (by omega); have him : (i : Int) < D.m := by omega
  have hi0 : (0 : Int) <= i := by omega
  have w1 := jaa (n := (i : Int) + 1) (by omega); by_cases hir : i = r
  ·have hd2 : decide ((i : Int) = r) = true := decide_eq_true (by omega); simp only [hd, hd2, m0, m2, m1, him, hi0, jal hm0, ja8, Int.toNat_natCast, F2, K2, G2, go_sem]; refine jab (i + 1, M) ?_ (SubR.of_eq rfl) rfl (by show D.m - (i + 1) < D.m - i; omega) ⟨hlt, H.congr rfl rfl (fun k _ => ?_) (fun _ _ => rfl) (fun _ _ => rfl) (fun _ _ => rfl) (fun k j _ _ => ?_)⟩
   ·simp only [w1, Int.natCast_add, go_sem]
   ·dsimp only; by_cases hk : k = r
    ·rw [if_pos hk, if_pos hk]
    ·have e : (k < i + 1) ↔ (k < i) := by omega
     simp only [hk, e]
   ·dsimp only; by_cases hk : k = r
    ·rw [if_pos hk, if_pos hk]
    ·have e : (k < i + 1) ↔ (k < i) := by omega
     simp only [hk, e]
  ·have hd2 : decide ((i : Int) = r) = false := decide_eq_false (by omega); have mi := lget (v := fun k => if k = r then vr else if k < i then D.v k - D.a k s * vr else D.v k) (A := nm.a) (n := D.n) hlt; rw [if_neg hir, if_neg (Nat.lt_irrefl _)] at mi; have m3 : Abs.look M (Abs.hp (nm.a i)) = some (4, tab D.n fun k => qc (D.a i k)) := (H.ha i hlt).trans (by dsimp only; rw [if_neg hir, if_neg (Nat.lt_irrefl _)]); have ga := qget (f := D.a i) hs; have kz := jme (D.a i s); by_cases hz : D.a i s = 0
   ·rw [decide_eq_true hz] at kz; simp only [frac, ints] at kz; simp only [hd, hd2, m0, m2, m1, mi, m3, ga, him, hi0, hs', hs0, jal hm0, ja8, Int.toNat_natCast, F2, K2, G2, go_sem]; refine ja1 kz (by decide) ?_; simp only [hd, hd2, m0, m2, m1, him, hi0, jal hm0, ja8, Int.toNat_natCast, F2, K2, G2, go_sem]; refine jab (i + 1, M) ?_ (SubR.of_eq rfl) rfl (by show D.m - (i + 1) < D.m - i; omega) ⟨hlt, H.congr rfl rfl (fun k _ => ?_) (fun _ _ => rfl) (fun _ _ => rfl) (fun _ _ => rfl) (fun k j _ _ => ?_)⟩
    ·simp only [w1, Int.natCast_add, go_sem]
    ·dsimp only; by_cases hk : k = r
     ·rw [if_pos hk, if_pos hk]
     ·by_cases hki : k = i
      ·subst hki; rw [if_neg hk, if_neg hk, if_pos (by omega), if_neg (by omega), hz]; grind
      ·have e : (k < i + 1) ↔ (k < i) := by omega
       simp only [hk, e]
    ·dsimp only; by_cases hk : k = r
     ·rw [if_pos hk, if_pos hk]
     ·by_cases hki : k = i
      ·subst hki; rw [if_neg hk, if_neg hk, if_pos (by omega), if_neg (by omega), tkF, hz]; split
       ·rename_i e; rw [e, hz]; grind
       ·grind
      ·have e : (k < i + 1) ↔ (k < i) := by omega
       simp only [hk, e]
   ·rw [decide_eq_false hz] at kz; have kl := x_less (sm.v i hlt |>.mono (by omega)) (sm.a i s hlt hs |>.mono (by omega)) (hvrF.mono (by omega)); generalize hx : D.v i - D.a i s * vr = x at *; simp only [frac, ints] at kz kl; obtain ⟨M', hM', H'⟩ : ∃ M', M' = M.map (fun q => if q.1 = Abs.hp nm.r then (q.1, 5, (tab D.m fun k => lineC (if k = r then vr else if k < i then D.v k - D.a k s * vr else D.v k) (nm.a k) D.n).set i (fc x ++ [.ref (nm.a i) 42 4 D.n])) else q) /\
      HasD M' nm N { D with v := fun k => if k = r then vr else if k < i + 1 then D.v k - D.a k s * vr else D.v k, a := fun k => if k = r then nr else if k < i then tkF (D.a k) nr s else D.a k } src := by
     refine ⟨_, rfl, (H.withV (v := fun k => if k = i then x else if k = r then vr else if k < i then D.v k - D.a k s * vr else D.v k) (jb5 H.blk) ((ja9 m2).trans (by rw [lset])) fun k hk => jae hk).congr rfl rfl (fun k _ => ?_) (fun _ _ => rfl) (fun _ _ => rfl) (fun _ _ => rfl) (fun _ _ _ _ => rfl)⟩; dsimp only; by_cases hk : k = r
     ·rw [if_pos hk, if_pos hk]; rw [if_neg (by omega)]
     ·by_cases hki : k = i
      ·subst hki; rw [if_neg hk, if_pos (by omega), if_pos rfl, hx]
      ·have e : (k < i + 1) ↔ (k < i) := by omega
       simp only [hk, hki, e, if_false]
    simp only [hd, hd2, m0, m2, m1, mi, m3, ga, him, hi0, hs', hs0, jal hm0, ja8, Int.toNat_natCast, F2, K2, G2, go_sem]; refine ja1 kz (by decide) ?_; simp only [hd, hd2, m0, m2, m1, mi, m3, ga, him, hi0, hs', hs0, jal hm0, ja8, Int.toNat_natCast, F2, K2, G2, go_sem]; refine jay (by decide +kernel) ?_; simp only [hd, hd2, m0, m2, m1, mi, m3, ga, him, hi0, hs', hs0, jal hm0, ja8, Int.toNat_natCast, F2, K2, G2, go_sem]; refine ja4 kl (by decide) ?_; have e1 := hM'.symm; simp only [fc, List.cons_append, List.nil_append] at e1; have F3 := fun (d : Nat) (h : d < 100000) => jdw (L := M') (d := d) H'.blk h; have K3 := fun (d s : Nat) (es : List (List IV)) (h : d < 100000) => jm3 (L := M') (d := d) (s := s) (es := es) H'.blk h; have G3 := fun (d : Nat) (h : d < 100000) => jax (L := M') (d := d) H'.blk h; simp only [hd, hd2, m0, m2, m1, mi, m3, ga, him, hi0, hs', hs0, jal hm0, ja8, Int.toNat_natCast, F2, K2, G2, e1, F3, K3, G3, go_sem]; have p2 := H'.hr hm0; have p1 := lget (v := fun k => if k = r then vr else if k < i + 1 then D.v k - D.a k s * vr else D.v k) (A := nm.a) (n := D.n) hr; have pi := lget (v := fun k => if k = r then vr else if k < i + 1 then D.v k - D.a k s * vr else D.v k) (A := nm.a) (n := D.n) hlt; dsimp only at p2; have q1 : Abs.look M' (Abs.hp (nm.a i)) = some (4, tab D.n fun k => qc (D.a i k)) := (H'.ha i hlt).trans (by dsimp only; rw [if_neg hir, if_neg (Nat.lt_irrefl _)])
    have q2 : Abs.look M' (Abs.hp (nm.a r)) = some (4, tab D.n fun k => qc (nr k)) := (H'.ha r hr).trans (by dsimp only; rw [if_pos rfl]); have kt := x_take M' (nm.a i) (nm.a r) D.n s (D.a i) nr H'.blk q1 q2 (fun e => hir (H'.ap.aa i r hlt hr e)) hs hn (fun k hk => (sm.a i k hlt hk).mono (by omega)) hnrF; refine jau 9 (by decide +kernel) ?_; simp only [p2, p1, pi, hr', hr0, him, hi0, hs', hs0, jal hm0, ja8, Int.toNat_natCast, F3, K3, G3, go_sem]; refine jai kt (by decide) rfl H'.blk (SubR.of_eq rfl) ?_; rintro _ L2 ⟨rfl, t1, t2, t3⟩ hfr; refine ⟨L2, jbg, ?_⟩; have F4 := bF t1; have H2 := (H'.withA t1 hlt t2 t3).congr (E := { D with v := fun k => if k = r then vr else if k < i + 1 then D.v k - D.a k s * vr else D.v k, a := fun k => if k = r then nr else if k < i + 1 then tkF (D.a k) nr s else D.a k }) rfl rfl (fun _ _ => rfl) (fun _ _ => rfl) (fun _ _ => rfl) (fun _ _ => rfl) (fun k j _ _ => by
     dsimp only; by_cases hk : k = r
     ·rw [if_pos hk, if_pos hk, if_neg (by omega)]
     ·by_cases hki : k = i
      ·subst hki; rw [if_neg hk, if_pos (by omega), if_pos rfl]
      ·have e : (k < i + 1) ↔ (k < i) := by omega
       simp only [hk, hki, e, if_false])
    simp only [F4, go_sem]; refine jab (i + 1, L2) ?_ (SubR.of_eq rfl) rfl (by show D.m - (i + 1) < D.m - i; omega) ⟨hlt, H2⟩; simp only [w1, Int.natCast_add, go_sem]
 have hd : decide ((i : Int) < D.m) = false := decide_eq_false (by omega); have him : i = D.m := by omega
 subst him; have m3 : Abs.look M (Abs.hp nm.g) = some (4, tab D.n fun j => qc (D.g j)) := H.hg; have ga := qget (f := D.g) hs; have kz := jme (D.g s); have pv : ∀ i, i < D.m -> (D.pivot r s).v i = (if i = r then vr else if i < D.m then D.v i - D.a i s * vr else D.v i) := fun i hi => by
  rw [<- hvr, <- hp]; simp only [LP.Dic.pivot, hi, if_true]
 have tk : ∀ (c : Nat -> Rat) (j : Nat), LP.exch p (D.a r) s c j = tkF c nr s j := fun c j => by
  rw [tkF, LP.exch, hnr]; by_cases e : j = s
  ·rw [if_pos e, if_pos e]; dsimp only; rw [if_pos rfl]
  ·rw [if_neg e, if_neg e]; dsimp only; rw [if_neg e]
 have pg : ∀ j, j < D.n -> (D.pivot r s).g j = tkF D.g nr s j := fun j hj => by rw [<- tk, <- hp]; rfl
 have pa : ∀ i j, i < D.m -> j < D.n -> (D.pivot r s).a i j = (if i = r then nr else if i < D.m then tkF (D.a i) nr s else D.a i) j := fun i j hi hj => by
  by_cases e : i = r
  ·subst e; rw [if_pos rfl]; exact hpiv j
  ·rw [if_neg e, if_pos hi, <- tk, <- hp]; simp [LP.Dic.pivot, e]
 by_cases hz : D.g s = 0
 ·rw [decide_eq_true hz] at kz; simp only [frac, ints] at kz; have HX : HasD M nm N { D with v := fun k => if k = r then vr else if k < D.m then D.v k - D.a k s * vr else D.v k, a := fun k => if k = r then nr else if k < D.m then tkF (D.a k) nr s else D.a k, g := tkF D.g nr s } src :=
   H.congr rfl rfl (fun _ _ => rfl) (fun j _ => by
    show tkF D.g nr s j = D.g j; rw [tkF, hz]; split
    ·rename_i e; rw [e, hz]; grind
    ·grind) (fun _ _ => rfl) (fun _ _ => rfl) (fun _ _ _ _ => rfl)
  simp only [hd, m0, m3, ga, hs', hs0, ja8, Int.toNat_natCast, F2, K2, G2, go_sem]; refine ja1 kz (by decide) ?_; simp only [hd, go_sem]; have o1 := HX.ho hm0; have f1 := HX.hf hn0; have c0 := HX.hd; dsimp only at o1 f1 c0; have og := oget (o := D.own) hr; have fg := oget (o := D.free) hs; have F5 := bF HX.blk; have G5 := bN HX.blk; obtain ⟨Y, hY, HY⟩ : ∃ Y, Y = M.map (fun q => if q.1 = Abs.hp nm.o then (q.1, 1, (tab D.m fun i => oc (D.own i)).set r [.int (D.free s : Int)]) else q) /\ HasD Y nm N { D with v := fun k => if k = r then vr else if k < D.m then D.v k - D.a k s * vr else D.v k, a := fun k => if k = r then nr else if k < D.m then tkF (D.a k) nr s else D.a k, g := tkF D.g nr s, own := fun i => if i = r then D.free s else D.own i } src :=
   ⟨_, rfl, HX.withO (jb5 HX.blk) ((ja9 o1).trans (by rw [oset])) fun k hk => jae hk⟩
  have f2 := HY.hf hn0; dsimp only at f2; have F6 := bF HY.blk; have G6 := bN HY.blk; obtain ⟨Z, hZ, HZ⟩ : ∃ Z, Z = Y.map (fun q => if q.1 = Abs.hp nm.f then (q.1, 1, (tab D.n fun i => oc (D.free i)).set s [.int (D.own r : Int)]) else q) /\ HasD Z nm N { D with v := fun k => if k = r then vr else if k < D.m then D.v k - D.a k s * vr else D.v k, a := fun k => if k = r then nr else if k < D.m then tkF (D.a k) nr s else D.a k, g := tkF D.g nr s, own := fun i => if i = r then D.free s else D.own i, free := fun i => if i = s then D.own r else D.free i } src :=
   ⟨_, rfl, HY.withF (jb5 HY.blk) ((ja9 f2).trans (by rw [oset])) fun k hk => jae hk⟩
  have e1 := hY.symm; have e2 := hZ.symm; refine jay (by decide +kernel) ?_; simp only [c0, o1, f1, og, fg, f2, hr', hr0, hs', hs0, jal hm0, jal hn0, ja8, Int.toNat_natCast, F5, G5, e1, F6, G6, e2, go_sem]; refine jbd Z HZ.blk (SubR.of_eq rfl) ?_; simp only [go_sem]; exact HZ.congr rfl rfl (fun i hi => by rw [pv i hi]) (fun j hj => by rw [pg j hj]) (fun i hi => rfl) (fun j hj => rfl) (fun i j hi hj => by rw [pa i j hi hj])
 ·rw [decide_eq_false hz] at kz; simp only [frac, ints] at kz; have m4 : Abs.look M (Abs.hp (nm.a r)) = some (4, tab D.n fun k => qc (nr k)) := (H.ha r hr).trans (by dsimp only; rw [if_pos rfl]); have kt := x_take M nm.g (nm.a r) D.n s D.g nr H.blk m3 m4 (H.ap.ga r hr) hs hn (fun k hk => (sm.g k hk).mono (by omega)) hnrF; simp only [hd, m0, m3, ga, hs', hs0, ja8, Int.toNat_natCast, F2, K2, G2, go_sem]; refine ja1 kz (by decide) ?_; simp only [hd, go_sem]; refine jau 9 (by decide +kernel) ?_; simp only [m0, m2, m1, hr', hr0, hs', hs0, jal hm0, ja8, Int.toNat_natCast, F2, K2, G2, go_sem]; refine jai kt (by decide) rfl H.blk (SubR.of_eq rfl) ?_; rintro _ X ⟨rfl, t1, t2, t3⟩ hfr; refine ⟨X, jbg, ?_⟩; have HX := H.withG t1 t2 t3; have F4 := bF t1; simp only [F4, go_sem]; have o1 := HX.ho hm0; have f1 := HX.hf hn0; have c0 := HX.hd; dsimp only at o1 f1 c0; have og := oget (o := D.own) hr; have fg := oget (o := D.free) hs; have F5 := bF HX.blk; have G5 := bN HX.blk; obtain ⟨Y, hY, HY⟩ : ∃ Y, Y = X.map (fun q => if q.1 = Abs.hp nm.o then (q.1, 1, (tab D.m fun i => oc (D.own i)).set r [.int (D.free s : Int)]) else q) /\ HasD Y nm N { D with v := fun k => if k = r then vr else if k < D.m then D.v k - D.a k s * vr else D.v k, a := fun k => if k = r then nr else if k < D.m then tkF (D.a k) nr s else D.a k, g := tkF D.g nr s, own := fun i => if i = r then D.free s else D.own i } src :=
   ⟨_, rfl, HX.withO (jb5 HX.blk) ((ja9 o1).trans (by rw [oset])) fun k hk => jae hk⟩
  have f2 := HY.hf hn0; dsimp only at f2; have F6 := bF HY.blk; have G6 := bN HY.blk; obtain ⟨Z, hZ, HZ⟩ : ∃ Z, Z = Y.map (fun q => if q.1 = Abs.hp nm.f then (q.1, 1, (tab D.n fun i => oc (D.free i)).set s [.int (D.own r : Int)]) else q) /\ HasD Z nm N { D with v := fun k => if k = r then vr else if k < D.m then D.v k - D.a k s * vr else D.v k, a := fun k => if k = r then nr else if k < D.m then tkF (D.a k) nr s else D.a k, g := tkF D.g nr s, own := fun i => if i = r then D.free s else D.own i, free := fun i => if i = s then D.own r else D.free i } src :=
   ⟨_, rfl, HY.withF (jb5 HY.blk) ((ja9 f2).trans (by rw [oset])) fun k hk => jae hk⟩
  have e1 := hY.symm; have e2 := hZ.symm; refine jay (by decide +kernel) ?_; simp only [c0, o1, f1, og, fg, f2, hr', hr0, hs', hs0, jal hm0, jal hn0, ja8, Int.toNat_natCast, F5, G5, e1, F6, G6, e2, go_sem]; refine jbd Z HZ.blk (SubR.of_eq rfl) ?_; simp only [go_sem]; exact HZ.congr rfl rfl (fun i hi => by rw [pv i hi]) (fun j hj => by rw [pg j hj]) (fun i hi => rfl) (fun j hj => rfl) (fun i j hi hj => by rw [pa i j hi hj])
end
end
section
open Go.Abs
open Go.LP (Dic find)
attribute [local go_sem] ints ic big frac fc
theorem jc3 {R L0 : Abs.Rows} {b s : Nat} {es : List (List IV)} (h : Abs.look L0 (hp b) = some (s, es)) : jfh R [] L0 ((hp b, s, es) :: R) := fun k x hk => by
 by_cases e : k = hp b
 ·subst e; rw [ja2] at hk; rw [h, hk]; exact .inl rfl
 ·rw [ja0 _ _ e] at hk; exact .inr ⟨rfl, hk⟩
theorem jfv {L M : Abs.Rows} {b s : Nat} {es : List (List IV)} (hL : Abs.look L (hp b) = none) (h : SubR L M) : SubR L (M.map (fun p => if p.1 = hp b then (p.1, s, es) else p)) := fun k x hk => by
 rw [jae (fun e => by subst e; rw [hL] at hk; cases hk)]; exact h k x hk
def ptU (D : Dic) (i k : Nat) : Rat := match find D.own k i with
 | some i' => D.v i'
 | none => 0
theorem jom {D : Dic} {i k : Nat} : ptU D (i + 1) k = if D.own i = k then D.v i else ptU D i k := by
 unfold ptU; rw [LP.find]; split
 ·rename_i h; split at h
  ·rename_i e; cases h; rw [if_pos e]
  ·rename_i e; rw [if_neg e, h]
 ·rename_i h; split at h
  ·cases h
  ·rename_i e; rw [if_neg e, h]
section
variable {L : Abs.Rows} {nm : DN} {N : Nat} {D : Dic} {src : Nat -> Int × Bool}
set_option maxHeartbeats 4000000 in
theorem x_point (h : HasD L nm N D src) (hN : N <= 100000) (hm : D.m <= 100000) (ho : ∀ i, i < D.m -> D.own i <= 1000000) :
  CtrH G.P 149 [.loc (hp nm.d) 6 0 0] L (fun x L' => ∃ b, x = .im (.ref b 42 4 N) /\ blks L' /\ SubR L L' /\ Abs.look L (hp b) = none /\ Abs.look L' (hp b) = some (4, tab N fun k => qc (D.pt k))) := by
 have hb := h.blk; have F1 := bF hb; have K1 := bK hb; have G1 := bN hb; have c0 := h.hd; have kz := jgw N hN; by_cases hm0 : D.m = 0
 ·rw [hm0, jb9, jb9, jb9] at c0; refine jb7 (goodH [] []) _ _ [.tmp 2] Tryz.func149 rfl rfl (by decide +kernel) rfl ?_; simp only [c0, F1, K1, G1, go_sem]; refine jcy kz (by decide) rfl jby jc8 ?_; rintro _ L0 ⟨b, rfl, hb0, hb1, hb2⟩ hfr; have hnew := (hfr (hp b) (by rw [hb1]; rfl)).resolve_left (by simp [Abs.look]); refine ⟨(hp b, 4, tab N fun _ => qc 0) :: L, ?_, ?_⟩
  ·simp only [c0, F1, K1, G1, go_sem]; exact jc3 hb1
  have hLb : Abs.look L (hp b) = none := by
   revert hnew; simp only [c0, F1, K1, G1, go_sem]; exact fun h => h
  clear hnew hfr kz; have hbM : blks ((hp b, 4, tab N fun _ => qc 0) :: L) := jan hb; have F2 := fun (d : Nat) (h : d < 100000) => jdw (L := (hp b, 4, tab N fun _ => qc 0) :: L) (d := d) hbM h; have ndb : ¬ nm.d = b := fun e => by rw [e, hLb] at c0; cases c0
  simp only [c0, ndb, F1, K1, G1, go_sem]; refine jb4 [3, 15, 16] (fun g : Unit => ⟨[(3, .im (.ref b 42 4 N)), (15, .im (.int 0)), (16, .im (.int 0))], (hp b, 4, tab N fun _ => qc 0) :: L, []⟩) (fun _ => True) (fun _ => 0) () ?_ (SubR.of_eq rfl) rfl trivial ?_
  ·simp only [go_sem]
  intro _ _; have hpt : (tab N fun k => qc (D.pt k)) = tab N fun _ => qc 0 := jar fun k _ => by
   rw [show D.pt k = ptU D D.m k from rfl, hm0]; rfl
  simp only [go_sem]; refine jbd _ hbM (SubR.of_eq rfl) ?_; rw [hpt]; simp only [go_sem]; exact ⟨b, rfl, hbM, jam hLb (SubR.of_eq rfl), hLb, if_pos rfl⟩
 ·rw [jal hm0, jal hm0, jal hm0] at c0; have c1 := h.ho hm0; have c2 := h.hr hm0; refine jb7 (goodH [] []) _ _ [.tmp 2] Tryz.func149 rfl rfl (by decide +kernel) rfl ?_; simp only [c0, F1, K1, G1, go_sem]; refine jcy kz (by decide) rfl jby jc8 ?_; rintro _ L0 ⟨b, rfl, hb0, hb1, hb2⟩ hfr; have hnew := (hfr (hp b) (by rw [hb1]; rfl)).resolve_left (by simp [Abs.look]); refine ⟨(hp b, 4, tab N fun _ => qc 0) :: L, ?_, ?_⟩
  ·simp only [c0, F1, K1, G1, go_sem]; exact jc3 hb1
  have hLb : Abs.look L (hp b) = none := by
   revert hnew; simp only [c0, F1, K1, G1, go_sem]; exact fun h => h
  clear hnew hfr kz; have hbM : blks ((hp b, 4, tab N fun _ => qc 0) :: L) := jan hb; have ndb : ¬ nm.d = b := fun e => by rw [e, hLb] at c0; cases c0
  simp only [c0, ndb, F1, K1, G1, go_sem]; refine jb4 [0, 3, 14, 15, 16] (fun g : Nat × Abs.Rows => ⟨[(0, .loc (hp nm.d) 6 0 0), (3, .im (.ref b 42 4 N)), (14, .im (.ref nm.o 3 1 D.m)), (15, .im (.int D.m)), (16, .im (.int g.1))], g.2, []⟩)
   (fun g => g.1 <= D.m /\ blks g.2 /\ SubR L g.2 /\ Abs.look g.2 (hp b) = some (4, tab N fun k => qc (ptU D g.1 k))) (fun g => D.m - g.1) (0, (hp b, 4, tab N fun _ => qc 0) :: L) ?_ (SubR.of_eq rfl) rfl
   ⟨Nat.zero_le _, hbM, jam hLb (SubR.of_eq rfl), ja2 _ _ _⟩ ?_
  ·simp only [Int.natCast_zero, go_sem]
  rintro ⟨i, M⟩ ⟨hi, hM, hs, hl⟩; dsimp only at hi hM hs hl; have F2 := bF hM; have K2 := bK hM; have G2 := bN hM; have d0 := hs _ _ c0; have d1 := hs _ _ c1; have d2 := hs _ _ c2; by_cases hlt : i < D.m
  ·have hd : decide ((i : Int) < D.m) = true := decide_eq_true (by omega); have him : (i : Int) < D.m := by omega
   have hi0 : (0 : Int) <= i := by omega
   have w1 := jaa (n := (i : Int) + 1) (by omega); have og := oget (o := D.own) hlt; have rg := lget (v := D.v) (A := nm.a) (n := D.n) hlt; by_cases hv : D.own i < N
   ·have hd2 : decide ((D.own i : Int) < N) = true := decide_eq_true (by omega); have hvN : (D.own i : Int) < N := by omega
    have hv0 : (0 : Int) <= D.own i := by omega
    have hq := qget (f := ptU D i) hv; simp only [hd, hd2, d0, d1, d2, og, rg, hl, hq, hvN, hv0, him, hi0, ja8, Int.toNat_natCast, F2, K2, G2, go_sem]; refine jab (i + 1, M.map (fun p => if p.1 = hp b then (p.1, 4, (tab N fun k => qc (ptU D i k)).set (D.own i) (fc (D.v i))) else p)) ?_ (SubR.of_eq rfl) rfl (by show D.m - (i + 1) < D.m - i; omega) ⟨hlt, jb5 hM, jfv hLb hs, (ja9 hl).trans ?_⟩
    ·simp only [w1, Int.natCast_add, go_sem]
    ·rw [qset]; congr 2; refine jar fun k hk => congrArg qc ?_; rw [jom]; by_cases e : k = D.own i
     ·rw [if_pos e, if_pos e.symm]
     ·rw [if_neg e, if_neg fun h => e h.symm]
   ·have hd2 : decide ((D.own i : Int) < N) = false := decide_eq_false (by omega); simp only [hd, hd2, d0, d1, d2, og, rg, him, hi0, ja8, Int.toNat_natCast, F2, K2, G2, go_sem]; refine jab (i + 1, M) ?_ (SubR.of_eq rfl) rfl (by show D.m - (i + 1) < D.m - i; omega) ⟨hlt, hM, hs, hl.trans ?_⟩
    ·simp only [w1, Int.natCast_add, go_sem]
    ·congr 2; refine jar fun k hk => congrArg qc ?_; rw [jom, if_neg (by omega)]
  ·have hd : decide ((i : Int) < D.m) = false := decide_eq_false (by omega); have him : i = D.m := by omega
   subst him; simp only [hd, go_sem]; refine jbd M hM (SubR.of_eq rfl) ?_; simp only [go_sem]; exact ⟨b, rfl, hM, hs, hLb, hl⟩
end
end
section
open Go.Abs
open Go.LP (Dic find)
attribute [local go_sem] ints ic big frac fc
section
variable {L : Abs.Rows} {nm : DN} {N : Nat} {D : Dic} {src : Nat -> Int × Bool}
def chU (turned : Bool) (y : Nat -> Rat) (r : Nat) (price : Rat) (k : Nat) : Rat := if k = r then y k + (if turned then price else -price) else y k
set_option maxHeartbeats 4000000 in
theorem jir (h : HasD L nm N D src) {i r R Y : Nat} (hi : i < D.m) (hsr : (src i).1 = (r : Int)) (hr : r < R) (y : Nat -> Rat) (hY : Abs.look L (hp Y) = some (4, tab R fun k => qc (y k))) (price : Rat) (hR : R <= 100000) (hm : D.m <= 100000) (ky : FL 18000000000 (y r)) (kp : FL 100000000 price) :
  CtrH G.P 200 [.loc (hp nm.d) 6 0 0, .im (.ref Y 42 4 R), .im (.int i), .im (frac price)] L
   (fun x L' => x = .im (.tup []) /\ blks L' /\ Abs.look L' (hp Y) = some (4, tab R fun k => qc (chU (src i).2 y r price k)) /\ ∀ k, k ≠ hp Y -> Abs.look L' k = Abs.look L k) := by
 have hb := h.blk; have F1 := bF hb; have K1 := bK hb; have G1 := bN hb; have hm0 : D.m ≠ 0 := by omega
 have c0 := h.hd; rw [jal hm0, jal hm0, jal hm0] at c0; have c1 := h.hs hm0; have hi' : (i : Int) < D.m := by omega
 have hi0 : (0 : Int) <= i := by omega
 have hr' : (r : Int) < R := by omega
 have hr0 : (0 : Int) <= r := by omega
 have sg := sget (o := src) hi; rw [hsr] at sg; have yg := qget (f := y) hr; have kn := f_neg (kp.mono (by omega : 100000000 <= 19000000000)); rcases ht : (src i).2 with _ | _
 ·rw [ht] at sg; have ka := f_add (ky.mono (by omega : 18000000000 <= 19000000000)) ((jl6 kp).mono (by omega : 100000000 <= 19000000000)); generalize hx : y r + -price = x at *; generalize hnp : -price = np at *; obtain ⟨L', hL', hb', hl', ho'⟩ : ∃ L', L' = L.map (fun p => if p.1 = hp Y then (p.1, 4, (tab R fun k => qc (y k)).set r (fc x)) else p) /\ blks L' /\ Abs.look L' (hp Y) = some (4, tab R fun k => qc (chU false y r price k)) /\ ∀ k, k ≠ hp Y -> Abs.look L' k = Abs.look L k := by
   refine ⟨_, rfl, jb5 hb, (ja9 hY).trans ?_, fun k hk => jae hk⟩; rw [qset]; congr 2; refine jar fun k hk => congrArg qc ?_; unfold chU; by_cases e : k = r
   ·rw [if_pos e, if_pos e, e, if_neg Bool.false_ne_true, hnp, hx]
   ·rw [if_neg e, if_neg e]
  simp only [frac, ints] at kn ka; refine jb7 (goodH [] []) _ _ [] Tryz.func200 rfl rfl (by decide +kernel) rfl ?_; unfold frac; simp only [c0, c1, sg, hi', hi0, ja8, Int.toNat_natCast, F1, K1, G1, go_sem]; refine ja1 kn (by decide) ?_; simp only [c0, c1, sg, hi', hi0, ja8, Int.toNat_natCast, F1, K1, G1, go_sem]; refine jay (by decide +kernel) ?_; simp only [c0, c1, sg, hY, yg, hi', hi0, hr', hr0, ja8, Int.toNat_natCast, F1, K1, G1, go_sem]; refine ja4 ka (by decide) ?_; simp only [c0, c1, sg, hY, yg, hi', hi0, hr', hr0, ja8, Int.toNat_natCast, F1, K1, G1, go_sem]; refine jbd L' hb' (ja3 (by decide) hb' (ja3 (by decide) hb' (SubR.of_eq hL'))) ?_; simp only [go_sem]; exact ⟨hb', hl', ho'⟩
 ·rw [ht] at sg; have ka := f_add (ky.mono (by omega : 18000000000 <= 19000000000)) (kp.mono (by omega : 100000000 <= 19000000000)); generalize hx : y r + price = x at *; obtain ⟨L', hL', hb', hl', ho'⟩ : ∃ L', L' = L.map (fun p => if p.1 = hp Y then (p.1, 4, (tab R fun k => qc (y k)).set r (fc x)) else p) /\ blks L' /\ Abs.look L' (hp Y) = some (4, tab R fun k => qc (chU true y r price k)) /\ ∀ k, k ≠ hp Y -> Abs.look L' k = Abs.look L k := by
   refine ⟨_, rfl, jb5 hb, (ja9 hY).trans ?_, fun k hk => jae hk⟩; rw [qset]; congr 2; refine jar fun k hk => congrArg qc ?_; unfold chU; by_cases e : k = r
   ·rw [if_pos e, if_pos e, e, if_pos rfl, hx]
   ·rw [if_neg e, if_neg e]
  simp only [frac, ints] at ka; refine jb7 (goodH [] []) _ _ [] Tryz.func200 rfl rfl (by decide +kernel) rfl ?_; unfold frac; simp only [c0, c1, sg, hi', hi0, ja8, Int.toNat_natCast, F1, K1, G1, go_sem]; refine jay (by decide +kernel) ?_; simp only [c0, c1, sg, hY, yg, hi', hi0, hr', hr0, ja8, Int.toNat_natCast, F1, K1, G1, go_sem]; refine ja4 ka (by decide) ?_; simp only [c0, c1, sg, hY, yg, hi', hi0, hr', hr0, ja8, Int.toNat_natCast, F1, K1, G1, go_sem]; refine jbd L' hb' (ja3 (by decide) hb' (ja3 (by decide) hb' (SubR.of_eq hL'))) ?_; simp only [go_sem]; exact ⟨hb', hl', ho'⟩
end
end
section
open Go.Abs
open Go.LP (Dic find)
attribute [local go_sem] ints ic big frac fc
theorem jav (b s i j : Nat) : AV.toH (.loc (hp b) s i j) = .loc (hp b) s i j := by simp only [AV.toH, hp_ge, if_true]
def prU (D : Dic) (N : Nat) (src : Nat -> Int × Bool) (y0 : Nat -> Rat) (pr : Nat -> Rat) : Nat -> Nat -> Rat
 | 0 => y0
 | j + 1 => if D.free j < N then prU D N src y0 pr j else chU (src (D.free j - N)).2 (prU D N src y0 pr j) (src (D.free j - N)).1.toNat (pr j)
theorem FL_chU {t : Bool} {y : Nat -> Rat} {r : Nat} {p : Rat} {k c : Nat} (hy : FL c (y k)) (hp : FL 100000000 p) : FL (c + 100000001) (chU t y r p k) := by
 unfold chU; split
 ·cases t
  ·exact (jk8 hy (jl6 hp)).mono (by omega)
  ·exact (jk8 hy hp).mono (by omega)
 ·exact hy.mono (by omega)
theorem jpq {D : Dic} {N : Nat} {src : Nat -> Int × Bool} {y0 pr : Nat -> Rat} {c : Nat} (h0 : ∀ k, FL c (y0 k)) (hp : ∀ j, j < D.n -> FL 100000000 (pr j)) : ∀ j, j <= D.n -> ∀ k, FL (c + j * 100000001) (prU D N src y0 pr j k)
 | 0, _, k => (h0 k).mono (by omega)
 | j + 1, hj, k => by
  have ih := jpq (D := D) (N := N) (src := src) h0 hp j (by omega); rw [prU]; split
  ·exact (ih k).mono (by omega)
  ·exact (FL_chU (ih k) (hp j (by omega))).mono (by omega)
section
variable {L : Abs.Rows} {nm : DN} {N : Nat} {D : Dic} {src : Nat -> Int × Bool}
structure Srcs (D : Dic) (N R : Nat) (src : Nat -> Int × Bool) : Prop where
 free : ∀ j, j < D.n -> N <= D.free j -> D.free j - N < D.m
 own : ∀ i, i < D.m -> N <= D.own i -> D.own i - N < D.m
 row : ∀ i, i < D.m -> 0 <= (src i).1 /\ (src i).1 < (R : Int)
set_option maxHeartbeats 4000000 in
theorem x_prices (h : HasD L nm N D src) (R : Nat) (hR : R <= 100000) (hm : D.m <= 100000) (hn : D.n <= 100) (hN : N <= 100000) (hs : Srcs D N R src) (hf : ∀ j, j < D.n -> D.free j <= 1000000) (sm : SmD D) :
  CtrH G.P 152 [.loc (hp nm.d) 6 0 0, .im (.int R)] L (fun x L' => ∃ b, x = .im (.ref b 42 4 R) /\ blks L' /\ SubR L L' /\ Abs.look L (hp b) = none /\ Abs.look L' (hp b) = some (4, tab R fun k => qc (prU D N src (fun _ => 0) (fun j => -D.g j) D.n k))) := by
 have hb := h.blk; have F1 := bF hb; have K1 := bK hb; have G1 := bN hb; have c0 := h.hd; have kz := jgw R hR; by_cases hn0 : D.n = 0
 ·rw [hn0, jb9] at c0; refine jb7 (goodH [] []) _ _ [.tmp 4] Tryz.func152 rfl rfl (by decide +kernel) rfl ?_; simp only [F1, K1, G1, go_sem]; refine jcy kz (by decide) rfl jby jc8 ?_; rintro _ L0 ⟨b, rfl, hb0, hb1, hb2⟩ hfr; have hnew := (hfr (hp b) (by rw [hb1]; rfl)).resolve_left (by simp [Abs.look]); refine ⟨(hp b, 4, tab R fun _ => qc 0) :: L, ?_, ?_⟩
  ·simp only [F1, K1, G1, go_sem]; exact jc3 hb1
  have hLb : Abs.look L (hp b) = none := by
   revert hnew; simp only [F1, K1, G1, go_sem]; exact fun h => h
  clear hnew hfr kz; have ndb : ¬ nm.d = b := fun e => by rw [e, hLb] at c0; cases c0
  have hbM : blks ((hp b, 4, tab R fun _ => qc 0) :: L) := jan hb; simp only [c0, ndb, F1, K1, G1, go_sem]; refine jb4 [5, 14, 15] (fun g : Unit => ⟨[(5, .im (.ref b 42 4 R)), (14, .im (.int 0)), (15, .im (.int 0))], (hp b, 4, tab R fun _ => qc 0) :: L, []⟩) (fun _ => True) (fun _ => 0) () ?_ (SubR.of_eq rfl) rfl trivial ?_
  ·simp only [go_sem]
  intro _ _; have hpt : (tab R fun k => qc (prU D N src (fun _ => 0) (fun j => -D.g j) D.n k)) = tab R fun _ => qc 0 := by rw [hn0]; rfl
  simp only [go_sem]; refine jbd _ hbM (SubR.of_eq rfl) ?_; rw [hpt]; simp only [go_sem]; exact ⟨b, rfl, hbM, jam hLb (SubR.of_eq rfl), hLb, if_pos rfl⟩
 ·rw [jal hn0] at c0; have cf := h.hf hn0; refine jb7 (goodH [] []) _ _ [.tmp 4] Tryz.func152 rfl rfl (by decide +kernel) rfl ?_; simp only [F1, K1, G1, go_sem]; refine jcy kz (by decide) rfl jby jc8 ?_; rintro _ L0 ⟨b, rfl, hb0, hb1, hb2⟩ hfr; have hnew := (hfr (hp b) (by rw [hb1]; rfl)).resolve_left (by simp [Abs.look]); refine ⟨(hp b, 4, tab R fun _ => qc 0) :: L, ?_, ?_⟩
  ·simp only [F1, K1, G1, go_sem]; exact jc3 hb1
  have hLb : Abs.look L (hp b) = none := by
   revert hnew; simp only [F1, K1, G1, go_sem]; exact fun h => h
  clear hnew hfr kz; have ndb : ¬ nm.d = b := fun e => by rw [e, hLb] at c0; cases c0
  have hbM : blks ((hp b, 4, tab R fun _ => qc 0) :: L) := jan hb; simp only [c0, ndb, F1, K1, G1, go_sem]; refine jb4 [0, 5, 13, 14, 15] (fun g : Nat × Abs.Rows => ⟨[(0, .loc (hp nm.d) 6 0 0), (5, .im (.ref b 42 4 R)), (13, .im (.ref nm.f 3 1 D.n)), (14, .im (.int D.n)), (15, .im (.int g.1))], g.2, []⟩)
   (fun g => g.1 <= D.n /\ blks g.2 /\ SubR L g.2 /\ Abs.look g.2 (hp b) = some (4, tab R fun k => qc (prU D N src (fun _ => 0) (fun j => -D.g j) g.1 k))) (fun g => D.n - g.1) (0, (hp b, 4, tab R fun _ => qc 0) :: L) ?_ (SubR.of_eq rfl) rfl
   ⟨Nat.zero_le _, hbM, jam hLb (SubR.of_eq rfl), ja2 _ _ _⟩ ?_
  ·simp only [Int.natCast_zero, go_sem]
  rintro ⟨j, M⟩ ⟨hj, hM, hsM, hl⟩; dsimp only at hj hM hsM hl; have F2 := bF hM; have K2 := bK hM; have G2 := bN hM; have d0 := hsM _ _ c0; have df := hsM _ _ cf; have dg := hsM _ _ h.hg; rcases Nat.lt_or_ge j D.n with hlt | hlt
  ·have hd : decide ((j : Int) < D.n) = true := decide_eq_true (by omega); have hjn : (j : Int) < D.n := by omega
   have hj0 : (0 : Int) <= j := by omega
   have w1 := jaa (n := (j : Int) + 1) (by omega); have fg := oget (o := D.free) hlt; have gg := qget (f := D.g) hlt; have hfj := hf j hlt; rcases Nat.lt_or_ge (D.free j) N with hv | hv
   ·have hd2 : decide ((N : Int) <= D.free j) = false := decide_eq_false (by omega); simp only [hd, hd2, d0, df, fg, hjn, hj0, ja8, Int.toNat_natCast, F2, K2, G2, go_sem]; refine jab (j + 1, M) ?_ (SubR.of_eq rfl) rfl (by show D.n - (j + 1) < D.n - j; omega) ⟨hlt, hM, hsM, hl.trans ?_⟩
    ·simp only [w1, Int.natCast_add, go_sem]
    ·congr 2; refine jar fun k hk => congrArg qc ?_; rw [prU, if_pos hv]
   ·have hd2 : decide ((N : Int) <= D.free j) = true := decide_eq_true (by omega); have him := hs.free j hlt hv; have hsr := hs.row _ him; have w2 := jaa (n := ((D.free j - N : Nat) : Int)) (by omega); have w3 : (D.free j : Int) - N = ((D.free j - N : Nat) : Int) := by omega
    have HM := h.sub hM hsM; have kn := f_neg (sm.g j hlt |>.mono (by omega : 100000000 <= 19000000000)); have ky := jpq (D := D) (N := N) (src := src) (y0 := fun _ => 0) (pr := fun j => -D.g j) (c := 4) (fun _ => jce (n := 0) (by omega)) (fun j hj => jl6 (sm.g j hj)) j hj (src (D.free j - N)).1.toNat; have kc := jir HM him (r := (src (D.free j - N)).1.toNat) (by omega) (by omega : (src (D.free j - N)).1.toNat < R) _ hl (-D.g j) hR hm (ky.mono (by
     have : j * 100000001 <= 100 * 100000001 := Nat.mul_le_mul_right _ (by omega); omega)) (jl6 (sm.g j hlt))
    have hps : prU D N src (fun _ => 0) (fun j => -D.g j) (j + 1) = chU (src (D.free j - N)).2 (prU D N src (fun _ => 0) (fun j => -D.g j) j) (src (D.free j - N)).1.toNat (-D.g j) := by
     rw [prU, if_neg (by omega)]
    generalize -D.g j = ng at *; simp only [frac, ints] at kn kc; simp only [hd, hd2, d0, df, fg, hjn, hj0, ja8, Int.toNat_natCast, F2, K2, G2, go_sem]; refine jau 16 (by decide +kernel) ?_; simp only [hd, hd2, d0, df, dg, fg, gg, hjn, hj0, w2, w3, ja8, Int.toNat_natCast, F2, K2, G2, go_sem]; refine ja4 kn (by decide) ?_; simp only [hd, hd2, d0, df, dg, fg, gg, hjn, hj0, w2, w3, ja8, Int.toNat_natCast, F2, K2, G2, go_sem]; refine jai kc (by decide) (by simp only [List.map_cons, List.map_nil, jav]; rfl) hM (SubR.of_eq rfl) ?_; rintro _ L2 ⟨rfl, t1, t2, t3⟩ _; refine ⟨L2, jbg, ?_⟩; have F3 := bF t1; simp only [F3, go_sem]; refine jab (j + 1, L2) ?_ (SubR.of_eq rfl) rfl (by show D.n - (j + 1) < D.n - j; omega) ⟨hlt, t1, fun k x hk => ?_, t2.trans ?_⟩
    ·simp only [w1, Int.natCast_add, go_sem]
    ·rw [t3 k (fun e => by subst e; rw [hLb] at hk; cases hk)]; exact hsM k x hk
    ·dsimp only; rw [hps]
  ·have hd : decide ((j : Int) < D.n) = false := decide_eq_false (by omega); have hjn : j = D.n := by omega
   subst hjn; simp only [hd, go_sem]; refine jbd M hM (SubR.of_eq rfl) ?_; simp only [go_sem]; exact ⟨b, rfl, hM, hsM, hLb, hl⟩
end
end
end Go.Proofs.YtfahloobpegieaaGreat
