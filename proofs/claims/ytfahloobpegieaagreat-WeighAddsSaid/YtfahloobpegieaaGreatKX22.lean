/- A part of the proof. No further condition. -/
import Derived.Test.YtfahloobpegieaaGreatKX17
import Derived.Test.YtfahloobpegieaaGreatKX15
set_option linter.all false
set_option maxRecDepth 100000
namespace Go.Proofs.YtfahloobpegieaaGreat
section
open Go.Abs
open Go.LP (Dic Eqv SameV Rule Final Own Free)
attribute [local go_sem] ints ic big frac fc
theorem nneg {a : Rat} (h : ¬ a < 0) : 0 <= a := by grind
theorem npos {a : Rat} (h : ¬ 0 < a) : a <= 0 := by grind
section
variable {L : Abs.Rows} {nm : DN} {N : Nat} {D : Dic} {src : Nat -> Int × Bool}
set_option maxHeartbeats 4000000 in
theorem x_search_main (h : HasD L nm N D src) (hD : D.Ok) (hm0 : D.m ≠ 0) (hn0 : D.n ≠ 0) (hm : D.m <= 100000) (hn : D.n <= 100000) (K : Nat) (hK : K <= 1000000) (hv : ∀ k, (Own D k \/ Free D k) -> k < K)
  (sm : ∀ E : Dic, E.Ok -> Eqv D E -> SameV D E -> E.m = D.m -> E.n = D.n -> SmD E) :
  CtrH G.P 148 [.im (.pr nm.d 6 0 0)] L (fun x L' => ∃ (E : Dic) (row col : Int), x = .im (.tup [.int row, .int col]) /\ HasD L' nm N E src /\ (∃ T, LP.Reach D T E) /\ Final E row col) := by
 have hb := h.blk; have F1 := bF hb; have K1 := bK hb; have G1 := bN hb; refine jb7 (goodH [] []) _ _ [.tmp 2, .tmp 3] Tryz.func148 rfl rfl (by decide +kernel) rfl ?_; simp only [F1, K1, G1, go_sem]; refine jif 1 ?_; simp only [F1, K1, G1, go_sem]; refine jb4 [1] (fun g : (Nat × Dic) × Abs.Rows => ⟨[(1, .im (.ip [.pr nm.d 6 0 0] 0))], g.2, []⟩)
  (fun g => LP.Reach D g.1.1 g.1.2 /\ HasD g.2 nm N g.1.2 src) (fun g => 2 ^ K - g.1.1) ((0, D), L) ?_ ?_ rfl ⟨.zero hD, h⟩ ?_
 ·simp only [go_sem]
 ·exact SubR.of_eq rfl
 clear F1 K1 G1 hb h; rintro ⟨⟨T, E⟩, M⟩ ⟨hR, H⟩; dsimp only at hR H; obtain ⟨hE, hq, hsv, hEm, hEn⟩ := hR.facts; have hT := hR.bound hv; have smE := sm E hE hq hsv hEm hEn; have hm0' : E.m ≠ 0 := by omega
 have hn0' : E.n ≠ 0 := by omega
 have F2 := bF H.blk; have K2 := bK H.blk; have G2 := bN H.blk; have ho : ∀ i, i < E.m -> E.own i <= 1000000 := fun i hi => by have := hv _ ((hsv _).2 (.inl ⟨i, hi, rfl⟩)); omega
 have hf : ∀ i, i < E.n -> E.free i <= 1000000 := fun i hi => by have := hv _ ((hsv _).2 (.inr ⟨i, hi, rfl⟩)); omega
 have c0 := H.hd; have c1 := H.ho hm0'; have c2 := H.hf hn0'; rw [jal hm0', jal hm0', jal hn0', jal hm0'] at c0; have k1 := jfj M nm.o E.m E.own (fun i => decide (E.v i < 0)) 195 [.ip [.pr nm.d 6 0 0] 0] (by decide) H.blk H.ho (by omega) ho (fun i hi => x_c1 H hi); have k2 := jfj M nm.f E.n E.free (fun j => decide (0 < E.g j)) 196 [.ip [.pr nm.d 6 0 0] 0] (by decide) H.blk H.hf (by omega) hf (fun i hi => x_c2 H hi); rw [jal hm0'] at k1; rw [jal hn0'] at k2; have lr := jd6 E.own (fun i => decide (E.v i < 0)) E.m; have ls := jd6 E.free (fun j => decide (0 < E.g j)) E.n; have lr1 := jcm (vars := E.own) (ch := fun i => decide (E.v i < 0)) (k := E.m); have ls1 := jcm (vars := E.free) (ch := fun j => decide (0 < E.g j)) (k := E.n); have lr2 := jd2 (vars := E.own) (ch := fun i => decide (E.v i < 0)) (k := E.m); have ls2 := jd2 (vars := E.free) (ch := fun j => decide (0 < E.g j)) (k := E.n); generalize jbp E.own (fun i => decide (E.v i < 0)) E.m = r0 at *; generalize jbp E.free (fun j => decide (0 < E.g j)) E.n = s0 at *; simp only [c0, c1, c2, F2, K2, G2, go_sem]; refine jai k1 (by decide) rfl H.blk (SubR.of_eq rfl) ?_; rintro _ _ ⟨rfl, rfl⟩ _; refine ⟨_, jbg, ?_⟩; simp only [c0, c1, c2, F2, K2, G2, go_sem]; refine jai k2 (by decide) rfl H.blk (ja3 (by decide) H.blk (SubR.of_eq rfl)) ?_; rintro _ L' ⟨rfl, rfl⟩ _; refine ⟨(4, 1, [[.int r0]]) :: L', jbt [_] (by intro p hp; rw [List.mem_singleton.1 hp]; exact jax H.blk (by dsimp only; decide)), ?_⟩; by_cases hr0 : r0 < 0
 ·have hd1 : decide (r0 < 0) = true := decide_eq_true hr0; by_cases hs0 : s0 < 0
  ·have hd2 : decide (s0 < 0) = true := decide_eq_true hs0; simp only [hd1, hd2, c0, c1, c2, F2, K2, G2, go_sem]; refine jbd L' H.blk (ja3 (by decide) H.blk (ja3 (by decide) H.blk (SubR.of_eq rfl))) ?_; simp only [go_sem]; exact ⟨E, -1, -1, rfl, H, ⟨T, hR⟩, .best (fun i hi => nneg (of_decide_eq_false (lr1 hr0 i hi))) fun j hj => npos (of_decide_eq_false (ls1 hs0 j hj))⟩
  ·have hd2 : decide (s0 < 0) = false := decide_eq_false hs0; have hd3 : decide (0 <= r0) = false := decide_eq_false (by omega); obtain ⟨s, rfl⟩ : ∃ s : Nat, s0 = s := ⟨s0.toNat, by omega⟩; obtain ⟨lx1, lx2⟩ := ls2 (by omega); rw [Int.toNat_natCast] at lx1 lx2; have hsn : s < E.n := by omega
   have hsg : 0 < E.g s := of_decide_eq_true lx1; have hsl : ∀ j, j < E.n -> 0 < E.g j -> E.free s <= E.free j := fun j hj hg => lx2 j hj (decide_eq_true hg); have hsf : ∀ i, i < E.m -> E.v i < 0 -> E.free s < E.own i := fun i hi hv => by have := of_decide_eq_false (lr1 hr0 i hi); exact absurd hv this
   simp only [hd1, hd2, c0, c1, c2, F2, K2, G2, go_sem]; refine jau 24 (by decide +kernel) ?_; simp only [hd1, hd2, hd3, c0, c1, c2, F2, K2, G2, go_sem]; have k3 := jfj L' nm.o E.m E.own (fun i => decide (0 < E.a i s)) 198 [.ip [.pr nm.d 6 0 0] 0, .ip [.int (s : Int)] 0] (by decide) H.blk H.ho (by omega) ho (fun i hi => x_c4 H hsn hi); rw [jal hm0'] at k3; have la := jd6 E.own (fun i => decide (0 < E.a i s)) E.m; have lb := jcm (vars := E.own) (ch := fun i => decide (0 < E.a i s)) (k := E.m); have lc := jd2 (vars := E.own) (ch := fun i => decide (0 < E.a i s)) (k := E.m); generalize jbp E.own (fun i => decide (0 < E.a i s)) E.m = r1 at *; refine jai k3 (by decide) rfl H.blk (ja3 (by decide) H.blk (SubR.of_eq rfl)) ?_; rintro _ L1 ⟨rfl, rfl⟩ _; refine ⟨(4, 1, [[.int r0]]) :: L1, jbt [_] (by intro p hp; rw [List.mem_singleton.1 hp]; exact jax H.blk (by dsimp only; decide)), ?_⟩; by_cases hs1 : r1 < 0
   ·have hd5 : decide (r1 < 0) = true := decide_eq_true hs1; simp only [hd5, c0, c1, c2, F2, K2, G2, go_sem]; refine jau 3 (by decide +kernel) ?_; simp only [hd5, c0, c1, c2, F2, K2, G2, go_sem]; refine jbd L1 H.blk (ja3 (by decide) H.blk (SubR.of_eq rfl)) ?_; simp only [go_sem]; exact ⟨E, -1, s, rfl, H, ⟨T, hR⟩, .free s hsn hsg hsl hsf fun i hi => npos (of_decide_eq_false (lb hs1 i hi))⟩
   ·have hd5 : decide (r1 < 0) = false := decide_eq_false hs1; obtain ⟨r, rfl⟩ : ∃ r : Nat, r1 = r := ⟨r1.toNat, by omega⟩; obtain ⟨lc1, lc2⟩ := lc (by omega); rw [Int.toNat_natCast] at lc1 lc2; have hrm : r < E.m := by omega
    have hsa : 0 < E.a r s := of_decide_eq_true lc1; have hrule : Rule E r s := ⟨hrm, hsn, .inr ⟨hsg, hsl, hsf, hsa, fun i hi ha => lc2 i hi (decide_eq_true ha)⟩⟩; have hR' := hR.step hrule; obtain ⟨hE', hq', hsv', hEm', hEn'⟩ := hR'.facts; have k4 := jgh H hrm hsn hrule.ne (by omega) (by omega) smE (sm _ hE' hq' hsv' hEm' hEn'); simp only [hd5, c0, c1, c2, F2, K2, G2, go_sem]; refine jai k4 (by decide) rfl H.blk (ja3 (by decide) H.blk (SubR.of_eq rfl)) ?_; rintro _ L2 ⟨rfl, H2⟩ _; refine ⟨L2, jbg, ?_⟩; have F3 := bF H2.blk; simp only [F3, go_sem]; refine jab ((T + 1, E.pivot r s), L2) ?_ (SubR.of_eq rfl) rfl ?_ ⟨hR', H2⟩
    ·simp only [go_sem]
    ·show 2 ^ K - (T + 1) < 2 ^ K - T; omega
 ·have hd1 : decide (r0 < 0) = false := decide_eq_false hr0; have hd3 : decide (0 <= r0) = true := decide_eq_true (by omega); obtain ⟨r, rfl⟩ : ∃ r : Nat, r0 = r := ⟨r0.toNat, by omega⟩; obtain ⟨lx1, lx2⟩ := lr2 (by omega); rw [Int.toNat_natCast] at lx1 lx2; have hrm : r < E.m := by omega
  have hrm' : (r : Int) < E.m := by omega
  have hr00 : (0 : Int) <= r := by omega
  have hrv : E.v r < 0 := of_decide_eq_true lx1; have hrl : ∀ i, i < E.m -> E.v i < 0 -> E.own r <= E.own i := fun i hi hv => lx2 i hi (decide_eq_true hv); have og := oget (o := E.own) hrm; by_cases hs0 : s0 < 0
  ·have hd2 : decide (s0 < 0) = true := decide_eq_true hs0; have hrf : ∀ j, j < E.n -> 0 < E.g j -> E.own r < E.free j := fun j hj hg => absurd hg (of_decide_eq_false (ls1 hs0 j hj)); simp only [hd1, hd2, c0, c1, c2, F2, K2, G2, go_sem]; refine jau 24 (by decide +kernel) ?_; simp only [hd1, hd2, hd3, c0, c1, c2, F2, K2, G2, go_sem]; have k3 := jfj L' nm.f E.n E.free (fun j => decide (E.a r j < 0)) 197 [.ip [.pr nm.d 6 0 0] 0, .ip [.int (r : Int)] 0] (by decide) H.blk H.hf (by omega) hf (fun j hj => x_c3 H hrm hj); rw [jal hn0'] at k3; have la := jd6 E.free (fun j => decide (E.a r j < 0)) E.n; have lb := jcm (vars := E.free) (ch := fun j => decide (E.a r j < 0)) (k := E.n); have lc := jd2 (vars := E.free) (ch := fun j => decide (E.a r j < 0)) (k := E.n); generalize jbp E.free (fun j => decide (E.a r j < 0)) E.n = s1 at *; refine jai k3 (by decide) rfl H.blk (ja3 (by decide) H.blk (SubR.of_eq rfl)) ?_; rintro _ L1 ⟨rfl, rfl⟩ _; refine ⟨(5, 1, [[.int s0]]) :: L1, jbt [_] (by intro p hp; rw [List.mem_singleton.1 hp]; exact jax H.blk (by dsimp only; decide)), ?_⟩; by_cases hs1 : s1 < 0
   ·have hd5 : decide (s1 < 0) = true := decide_eq_true hs1; simp only [hd5, c0, c1, c2, F2, K2, G2, go_sem]; refine jbd L1 H.blk (ja3 (by decide) H.blk (SubR.of_eq rfl)) ?_; simp only [go_sem]; exact ⟨E, r, -1, rfl, H, ⟨T, hR⟩, .none r hrm hrv hrl hrf fun j hj => nneg (of_decide_eq_false (lb hs1 j hj))⟩
   ·have hd5 : decide (s1 < 0) = false := decide_eq_false hs1; obtain ⟨s, rfl⟩ : ∃ s : Nat, s1 = s := ⟨s1.toNat, by omega⟩; obtain ⟨lc1, lc2⟩ := lc (by omega); rw [Int.toNat_natCast] at lc1 lc2; have hsn : s < E.n := by omega
    have hsa : E.a r s < 0 := of_decide_eq_true lc1; have hrule : Rule E r s := ⟨hrm, hsn, .inl ⟨hrv, hrl, hrf, hsa, fun j hj ha => lc2 j hj (decide_eq_true ha)⟩⟩; have hR' := hR.step hrule; obtain ⟨hE', hq', hsv', hEm', hEn'⟩ := hR'.facts; have k4 := jgh H hrm hsn hrule.ne (by omega) (by omega) smE (sm _ hE' hq' hsv' hEm' hEn'); simp only [hd5, c0, c1, c2, F2, K2, G2, go_sem]; refine jai k4 (by decide) rfl H.blk (ja3 (by decide) H.blk (SubR.of_eq rfl)) ?_; rintro _ L2 ⟨rfl, H2⟩ _; refine ⟨L2, jbg, ?_⟩; have F3 := bF H2.blk; simp only [F3, go_sem]; refine jab ((T + 1, E.pivot r s), L2) ?_ (SubR.of_eq rfl) rfl ?_ ⟨hR', H2⟩
    ·simp only [go_sem]
    ·show 2 ^ K - (T + 1) < 2 ^ K - T; omega
  ·have hd2 : decide (s0 < 0) = false := decide_eq_false hs0; obtain ⟨s, rfl⟩ : ∃ s : Nat, s0 = s := ⟨s0.toNat, by omega⟩; obtain ⟨ly1, ly2⟩ := ls2 (by omega); rw [Int.toNat_natCast] at ly1 ly2; have hsn : s < E.n := by omega
   have hsn' : (s : Int) < E.n := by omega
   have hs00 : (0 : Int) <= s := by omega
   have fg := oget (o := E.free) hsn; by_cases hlt : E.own r < E.free s
   ·have hd4 : decide ((E.own r : Int) < E.free s) = true := decide_eq_true (by omega); have hrf : ∀ j, j < E.n -> 0 < E.g j -> E.own r < E.free j := fun j hj hg => by have := ly2 j hj (decide_eq_true hg); omega
    simp only [hd1, hd2, c0, c1, c2, F2, K2, G2, go_sem]; refine jau 24 (by decide +kernel) ?_; simp only [hd1, hd2, hd3, hd4, c0, c1, c2, og, fg, hrm', hr00, hsn', hs00, ja8, Int.toNat_natCast, F2, K2, G2, go_sem]; obtain ⟨s0, hs0e⟩ : ∃ s0 : Int, s0 = s := ⟨_, rfl⟩; rw [<- hs0e]; have k3 := jfj L' nm.f E.n E.free (fun j => decide (E.a r j < 0)) 197 [.ip [.pr nm.d 6 0 0] 0, .ip [.int (r : Int)] 0] (by decide) H.blk H.hf (by omega) hf (fun j hj => x_c3 H hrm hj); rw [jal hn0'] at k3; have la := jd6 E.free (fun j => decide (E.a r j < 0)) E.n; have lb := jcm (vars := E.free) (ch := fun j => decide (E.a r j < 0)) (k := E.n); have lc := jd2 (vars := E.free) (ch := fun j => decide (E.a r j < 0)) (k := E.n); generalize jbp E.free (fun j => decide (E.a r j < 0)) E.n = s1 at *; refine jai k3 (by decide) rfl H.blk (ja3 (by decide) H.blk (SubR.of_eq rfl)) ?_; rintro _ L1 ⟨rfl, rfl⟩ _; refine ⟨(5, 1, [[.int s0]]) :: L1, jbt [_] (by intro p hp; rw [List.mem_singleton.1 hp]; exact jax H.blk (by dsimp only; decide)), ?_⟩; by_cases hs1 : s1 < 0
    ·have hd5 : decide (s1 < 0) = true := decide_eq_true hs1; simp only [hd5, c0, c1, c2, F2, K2, G2, go_sem]; refine jbd L1 H.blk (ja3 (by decide) H.blk (SubR.of_eq rfl)) ?_; simp only [go_sem]; exact ⟨E, r, -1, rfl, H, ⟨T, hR⟩, .none r hrm hrv hrl hrf fun j hj => nneg (of_decide_eq_false (lb hs1 j hj))⟩
    ·have hd5 : decide (s1 < 0) = false := decide_eq_false hs1; obtain ⟨s, rfl⟩ : ∃ s : Nat, s1 = s := ⟨s1.toNat, by omega⟩; obtain ⟨lc1, lc2⟩ := lc (by omega); rw [Int.toNat_natCast] at lc1 lc2; have hsn : s < E.n := by omega
     have hsa : E.a r s < 0 := of_decide_eq_true lc1; have hrule : Rule E r s := ⟨hrm, hsn, .inl ⟨hrv, hrl, hrf, hsa, fun j hj ha => lc2 j hj (decide_eq_true ha)⟩⟩; have hR' := hR.step hrule; obtain ⟨hE', hq', hsv', hEm', hEn'⟩ := hR'.facts; have k4 := jgh H hrm hsn hrule.ne (by omega) (by omega) smE (sm _ hE' hq' hsv' hEm' hEn'); simp only [hd5, c0, c1, c2, F2, K2, G2, go_sem]; refine jai k4 (by decide) rfl H.blk (ja3 (by decide) H.blk (SubR.of_eq rfl)) ?_; rintro _ L2 ⟨rfl, H2⟩ _; refine ⟨L2, jbg, ?_⟩; have F3 := bF H2.blk; simp only [F3, go_sem]; refine jab ((T + 1, E.pivot r s), L2) ?_ (SubR.of_eq rfl) rfl ?_ ⟨hR', H2⟩
     ·simp only [go_sem]
     ·show 2 ^ K - (T + 1) < 2 ^ K - T; omega
   ·have hd4 : decide ((E.own r : Int) < E.free s) = false := decide_eq_false (by omega); have hsg : 0 < E.g s := of_decide_eq_true ly1; have hsl : ∀ j, j < E.n -> 0 < E.g j -> E.free s <= E.free j := fun j hj hg => ly2 j hj (decide_eq_true hg); have hsf : ∀ i, i < E.m -> E.v i < 0 -> E.free s < E.own i := fun i hi hv => by
     have h1 := hrl i hi hv; have h2 := hE.apart i s hi hsn; have h3 := hE.apart r s hrm hsn; omega
    simp only [hd1, hd2, c0, c1, c2, F2, K2, G2, go_sem]; refine jau 24 (by decide +kernel) ?_; simp only [hd1, hd2, hd3, hd4, c0, c1, c2, og, fg, hrm', hr00, hsn', hs00, ja8, Int.toNat_natCast, F2, K2, G2, go_sem]; obtain ⟨r0, hr0e⟩ : ∃ r0 : Int, r0 = r := ⟨_, rfl⟩; rw [<- hr0e]; clear hrm hrm' hrv hrl og hr00 hd1 hd3 hd4 hr0e; have k3 := jfj L' nm.o E.m E.own (fun i => decide (0 < E.a i s)) 198 [.ip [.pr nm.d 6 0 0] 0, .ip [.int (s : Int)] 0] (by decide) H.blk H.ho (by omega) ho (fun i hi => x_c4 H hsn hi); rw [jal hm0'] at k3; have la := jd6 E.own (fun i => decide (0 < E.a i s)) E.m; have lb := jcm (vars := E.own) (ch := fun i => decide (0 < E.a i s)) (k := E.m); have lc := jd2 (vars := E.own) (ch := fun i => decide (0 < E.a i s)) (k := E.m); generalize jbp E.own (fun i => decide (0 < E.a i s)) E.m = r1 at *; refine jai k3 (by decide) rfl H.blk (ja3 (by decide) H.blk (SubR.of_eq rfl)) ?_; rintro _ L1 ⟨rfl, rfl⟩ _; refine ⟨(4, 1, [[.int r0]]) :: L1, jbt [_] (by intro p hp; rw [List.mem_singleton.1 hp]; exact jax H.blk (by dsimp only; decide)), ?_⟩; by_cases hs1 : r1 < 0
    ·have hd5 : decide (r1 < 0) = true := decide_eq_true hs1; simp only [hd5, c0, c1, c2, F2, K2, G2, go_sem]; refine jau 3 (by decide +kernel) ?_; simp only [hd5, c0, c1, c2, F2, K2, G2, go_sem]; refine jbd L1 H.blk (ja3 (by decide) H.blk (SubR.of_eq rfl)) ?_; simp only [go_sem]; exact ⟨E, -1, s, rfl, H, ⟨T, hR⟩, .free s hsn hsg hsl hsf fun i hi => npos (of_decide_eq_false (lb hs1 i hi))⟩
    ·have hd5 : decide (r1 < 0) = false := decide_eq_false hs1; obtain ⟨r, rfl⟩ : ∃ r : Nat, r1 = r := ⟨r1.toNat, by omega⟩; obtain ⟨lc1, lc2⟩ := lc (by omega); rw [Int.toNat_natCast] at lc1 lc2; have hrm : r < E.m := by omega
     have hsa : 0 < E.a r s := of_decide_eq_true lc1; have hrule : Rule E r s := ⟨hrm, hsn, .inr ⟨hsg, hsl, hsf, hsa, fun i hi ha => lc2 i hi (decide_eq_true ha)⟩⟩; have hR' := hR.step hrule; obtain ⟨hE', hq', hsv', hEm', hEn'⟩ := hR'.facts; have k4 := jgh H hrm hsn hrule.ne (by omega) (by omega) smE (sm _ hE' hq' hsv' hEm' hEn'); simp only [hd5, c0, c1, c2, F2, K2, G2, go_sem]; refine jai k4 (by decide) rfl H.blk (ja3 (by decide) H.blk (SubR.of_eq rfl)) ?_; rintro _ L2 ⟨rfl, H2⟩ _; refine ⟨L2, jbg, ?_⟩; have F3 := bF H2.blk; simp only [F3, go_sem]; refine jab ((T + 1, E.pivot r s), L2) ?_ (SubR.of_eq rfl) rfl ?_ ⟨hR', H2⟩
     ·simp only [go_sem]
     ·show 2 ^ K - (T + 1) < 2 ^ K - T; omega
end
end
section
open Go.Abs
open Go.LP (Dic Eqv SameV Rule Final Own Free)
attribute [local go_sem] ints ic big frac fc
section
variable {L : Abs.Rows} {nm : DN} {N : Nat} {D : Dic} {src : Nat -> Int × Bool}
set_option maxHeartbeats 4000000 in
theorem x_search_empty (h : HasD L nm N D src) (hD : D.Ok) (hm0 : D.m = 0) (hn : D.n <= 100000) (K : Nat) (hK : K <= 1000000) (hv : ∀ k, (Own D k \/ Free D k) -> k < K) :
  CtrH G.P 148 [.im (.pr nm.d 6 0 0)] L (fun x L' => ∃ (E : Dic) (row col : Int), x = .im (.tup [.int row, .int col]) /\ HasD L' nm N E src /\ (∃ T, LP.Reach D T E) /\ Final E row col) := by
 have hb := h.blk; have F1 := bF hb; have K1 := bK hb; have G1 := bN hb; have hf : ∀ i, i < D.n -> D.free i <= 1000000 := fun i hi => by have := hv _ (.inr ⟨i, hi, rfl⟩); omega
 have c0 := h.hd; rw [hm0, jb9, jb9, jb9] at c0; have k1 := jfj L nm.o 0 D.own (fun i => decide (D.v i < 0)) 195 [.ip [.pr nm.d 6 0 0] 0] (by decide) hb (fun h => absurd rfl h) (by omega) (fun i hi => absurd hi (by omega)) (fun i hi => absurd hi (by omega)); have k2 := jfj L nm.f D.n D.free (fun j => decide (0 < D.g j)) 196 [.ip [.pr nm.d 6 0 0] 0] (by decide) hb h.hf (by omega) hf (fun i hi => x_c2 h hi); rw [jb9] at k1; rcases Nat.eq_zero_or_pos D.n with hn0 | hn0
 ·rw [hn0, jb9] at c0 k2; refine jb7 (goodH [] []) _ _ [.tmp 2, .tmp 3] Tryz.func148 rfl rfl (by decide +kernel) rfl ?_; simp only [F1, K1, G1, go_sem]; refine jif 1 ?_; simp only [F1, K1, G1, go_sem]; refine jb4 [1] (fun g : Unit => ⟨[(1, .im (.ip [.pr nm.d 6 0 0] 0))], L, []⟩) (fun g => True) (fun g => 0) () ?_ (SubR.of_eq rfl) rfl trivial ?_
  ·simp only [go_sem]
  intro _ _; simp only [c0, F1, K1, G1, go_sem]; refine jcy k1 (by decide) rfl hb (SubR.of_eq rfl) ?_; rintro _ _ ⟨rfl, rfl⟩ _; refine ⟨_, jbg, ?_⟩; simp only [c0, jbp, F1, K1, G1, go_sem]; refine jcy k2 (by decide) rfl h.blk ?_ ?_
  ·simp only [F1, K1, G1, go_sem]; exact ja3 (by decide) h.blk (SubR.of_eq rfl)
  rintro _ L' ⟨rfl, rfl⟩ _; refine ⟨(4, 1, [[.int (-1)]]) :: L', ?_, ?_⟩
  ·simp only [F1, K1, G1, go_sem]; exact jbt [(4, 1, [[.int (-1)]])] (by intro p hp; rw [List.mem_singleton.1 hp]; exact jax h.blk (by dsimp only; decide))
  simp only [c0, jbp, F1, K1, G1, go_sem]; refine jbd L' h.blk (ja3 (by decide) h.blk (ja3 (by decide) h.blk (SubR.of_eq rfl))) ?_; simp only [go_sem]; exact ⟨D, -1, -1, rfl, h, ⟨0, .zero hD⟩, .best (fun i hi => absurd hi (by omega)) fun j hj => absurd hj (by omega)⟩
 ·rw [jal (by omega)] at c0 k2; have ls := jd6 D.free (fun j => decide (0 < D.g j)) D.n; have ls1 := jcm (vars := D.free) (ch := fun j => decide (0 < D.g j)) (k := D.n); have ls2 := jd2 (vars := D.free) (ch := fun j => decide (0 < D.g j)) (k := D.n); generalize jbp D.free (fun j => decide (0 < D.g j)) D.n = s0 at *; refine jb7 (goodH [] []) _ _ [.tmp 2, .tmp 3] Tryz.func148 rfl rfl (by decide +kernel) rfl ?_; simp only [F1, K1, G1, go_sem]; refine jif 1 ?_; simp only [F1, K1, G1, go_sem]; refine jb4 [1] (fun g : Unit => ⟨[(1, .im (.ip [.pr nm.d 6 0 0] 0))], L, []⟩) (fun g => True) (fun g => 0) () ?_ (SubR.of_eq rfl) rfl trivial ?_
  ·simp only [go_sem]
  intro _ _; simp only [c0, F1, K1, G1, go_sem]; refine jcy k1 (by decide) rfl hb (SubR.of_eq rfl) ?_; rintro _ _ ⟨rfl, rfl⟩ _; refine ⟨_, jbg, ?_⟩; simp only [c0, jbp, F1, K1, G1, go_sem]; refine jai k2 (by decide) rfl h.blk (ja3 (by decide) h.blk (SubR.of_eq rfl)) ?_; rintro _ L' ⟨rfl, rfl⟩ _; refine ⟨(4, 1, [[.int (-1)]]) :: L', jbt [_] (by intro p hp; rw [List.mem_singleton.1 hp]; exact jax h.blk (by dsimp only; decide)), ?_⟩; by_cases hs0 : s0 < 0
  ·have hd2 : decide (s0 < 0) = true := decide_eq_true hs0; simp only [c0, hd2, jbp, F1, K1, G1, go_sem]; refine jbd L' h.blk (ja3 (by decide) h.blk (ja3 (by decide) h.blk (SubR.of_eq rfl))) ?_; simp only [go_sem]; exact ⟨D, -1, -1, rfl, h, ⟨0, .zero hD⟩, .best (fun i hi => absurd hi (by omega)) fun j hj => npos (of_decide_eq_false (ls1 hs0 j hj))⟩
  ·have hd2 : decide (s0 < 0) = false := decide_eq_false hs0; obtain ⟨s, rfl⟩ : ∃ s : Nat, s0 = s := ⟨s0.toNat, by omega⟩; obtain ⟨lx1, lx2⟩ := ls2 (by omega); rw [Int.toNat_natCast] at lx1; have hsn : s < D.n := by omega
   have k3 := jfj L' nm.o 0 D.own (fun i => decide (0 < D.a i s)) 198 [.ip [.pr nm.d 6 0 0] 0, .ip [.int (s : Int)] 0] (by decide) h.blk (fun h => absurd rfl h) (by omega) (fun i hi => absurd hi (by omega)) (fun i hi => absurd hi (by omega)); rw [jb9] at k3; simp only [c0, hd2, jbp, F1, K1, G1, go_sem]; refine jau 24 (by decide +kernel) ?_; simp only [c0, hd2, jbp, F1, K1, G1, go_sem]; refine jcy k3 (by decide) rfl h.blk ?_ ?_
   ·simp only [F1, K1, G1, go_sem]; exact ja3 (by decide) h.blk (SubR.of_eq rfl)
   rintro _ L1 ⟨rfl, rfl⟩ _; refine ⟨(4, 1, [[.int (-1)]]) :: L1, ?_, ?_⟩
   ·simp only [F1, K1, G1, go_sem]; exact jbt [(4, 1, [[.int (-1)]])] (by intro p hp; rw [List.mem_singleton.1 hp]; exact jax h.blk (by dsimp only; decide))
   simp only [c0, hd2, jbp, F1, K1, G1, go_sem]; refine jau 3 (by decide +kernel) ?_; simp only [c0, hd2, jbp, F1, K1, G1, go_sem]; refine jbd L1 h.blk (ja3 (by decide) h.blk (SubR.of_eq rfl)) ?_; simp only [go_sem]; exact ⟨D, -1, s, rfl, h, ⟨0, .zero hD⟩, .free s hsn (of_decide_eq_true lx1) (fun j hj hg => lx2 j hj (decide_eq_true hg)) (fun i hi => absurd hi (by omega)) fun i hi => absurd hi (by omega)⟩
theorem x_search (h : HasD L nm N D src) (hD : D.Ok) (hmn : D.m ≠ 0 -> D.n ≠ 0) (hm : D.m <= 100000) (hn : D.n <= 100000) (K : Nat) (hK : K <= 1000000) (hv : ∀ k, (Own D k \/ Free D k) -> k < K)
  (sm : ∀ E : Dic, E.Ok -> Eqv D E -> SameV D E -> E.m = D.m -> E.n = D.n -> SmD E) :
  CtrH G.P 148 [.loc (hp nm.d) 6 0 0] L (fun x L' => ∃ (E : Dic) (row col : Int), x = .im (.tup [.int row, .int col]) /\ HasD L' nm N E src /\ (∃ T, LP.Reach D T E) /\ Final E row col) := by
 refine CtrH.loc ?_; by_cases h0 : D.m = 0
 ·exact x_search_empty h hD h0 hn K hK hv
 ·exact x_search_main h hD h0 (hmn h0) hm hn K hK hv sm
end
end
section
open Go.Abs
open Go.LP (Dic find)
attribute [local go_sem] ints ic big frac fc
def rayU (D : Dic) (s i k : Nat) : Rat := match find D.own k i with
 | some i' => -(D.a i' s)
 | none => if k = D.free s then 1 else 0
theorem jhd {D : Dic} {s i k : Nat} : rayU D s (i + 1) k = if D.own i = k then -(D.a i s) else rayU D s i k := by
 unfold rayU; rw [LP.find]; split
 ·rename_i h; split at h
  ·rename_i e; cases h; rw [if_pos e]
  ·rename_i e; rw [if_neg e, h]
 ·rename_i h; split at h
  ·cases h
  ·rename_i e; rw [if_neg e, h]
section
variable {L : Abs.Rows} {nm : DN} {N : Nat} {D : Dic} {src : Nat -> Int × Bool}
set_option maxHeartbeats 4000000 in
theorem x_ray (h : HasD L nm N D src) {s : Nat} (hsn : s < D.n) (hN : N <= 100000) (hm : D.m <= 100000) (ho : ∀ i, i < D.m -> D.own i <= 1000000) (hf : D.free s <= 1000000) (sm : SmD D) :
  CtrH G.P 150 [.loc (hp nm.d) 6 0 0, .im (.int s)] L (fun x L' => ∃ b, x = .im (.ref b 42 4 N) /\ blks L' /\ SubR L L' /\ Abs.look L (hp b) = none /\ Abs.look L' (hp b) = some (4, tab N fun k => qc (D.dir s k))) := by
 have hb := h.blk; have F1 := bF hb; have K1 := bK hb; have G1 := bN hb; have c0 := h.hd; have hn0 : D.n ≠ 0 := by omega
 have cf := h.hf hn0; have fg := oget (o := D.free) hsn; have hsn' : (s : Int) < D.n := by omega
 have hs00 : (0 : Int) <= s := by omega
 have kz := jgw N hN; have o1 := jc6 1 (by omega); rw [show ((1 : Int) : Rat) = 1 from rfl] at o1; generalize hone : (1 : Rat) = one at o1; simp only [frac, ints] at o1; rw [jal hn0] at c0; by_cases hm0 : D.m = 0
 ·rw [hm0, jb9, jb9, jb9] at c0; rcases Nat.lt_or_ge (D.free s) N with hv | hv
  ·refine jb7 (goodH [] []) _ _ [.tmp 4] Tryz.func150 rfl rfl (by decide +kernel) rfl ?_; simp only [c0, F1, K1, G1, go_sem]; refine jcy kz (by decide) rfl jby jc8 ?_; rintro _ L0 ⟨b, rfl, hb0, hb1, hb2⟩ hfr; have hnew := (hfr (hp b) (by rw [hb1]; rfl)).resolve_left (by simp [Abs.look]); refine ⟨(hp b, 4, tab N fun _ => qc 0) :: L, ?_, ?_⟩
   ·simp only [c0, F1, K1, G1, go_sem]; exact jc3 hb1
   have hLb : Abs.look L (hp b) = none := by
    revert hnew; simp only [c0, F1, K1, G1, go_sem]; exact fun h => h
   clear hnew hfr kz; have ndb : ¬ nm.d = b := fun e => by rw [e, hLb] at c0; cases c0
   have nfb : ¬ nm.f = b := fun e => by rw [e, hLb] at cf; cases cf
   have ndb' : ¬ b = nm.d := fun e => ndb e.symm; have hbM : blks ((hp b, 4, tab N fun _ => qc 0) :: L) := jan hb; have zg : ∀ k, k < N -> (tab N fun _ => qc 0)[k]? = some (fc 0) := fun k hk => qget (f := fun _ => 0) hk; have hvN : (D.free s : Int) < N := by omega
   have hd2 : decide ((D.free s : Int) < N) = true := decide_eq_true hvN; have hv0 : (0 : Int) <= D.free s := by omega
   have zg1 := zg _ hv; have hmb := fun (s : Nat) (es : List (List IV)) => jep (L := L) (d := hp b) (s := s) (es := es) hLb; simp only [c0, cf, fg, ndb, nfb, hd2, hsn', hs00, ja8, Int.toNat_natCast, F1, K1, G1, go_sem]; refine ja1 o1 (by decide) ?_; simp only [c0, cf, fg, ndb, ndb', nfb, hvN, hv0, zg1, hsn', hs00, ja8, Int.toNat_natCast, hmb, F1, K1, G1, go_sem]; obtain ⟨M1, hM1e, hM1, hs1, hl1⟩ : ∃ M1, M1 = (hp b, 4, (tab N fun _ => qc 0).set (D.free s) (fc one)) :: L /\ blks M1 /\ SubR L M1 /\ Abs.look M1 (hp b) = some (4, tab N fun k => qc (rayU D s 0 k)) := by
    refine ⟨_, rfl, jan hb, jam hLb (SubR.of_eq rfl), ?_⟩; rw [ja2, qset (f := fun _ => 0), <- hone]; rfl
   refine jb4 [5, 35, 36] (fun g : Unit => ⟨[(5, .im (.ref b 42 4 N)), (35, .im (.int 0)), (36, .im (.int 0))], M1, []⟩) (fun _ => True) (fun _ => 0) () ?_ (SubR.of_eq hM1e) rfl trivial ?_
   ·simp only [go_sem]
   intro _ _; have hpt : (tab N fun k => qc (D.dir s k)) = tab N fun k => qc (rayU D s 0 k) := jar fun k _ => by
    rw [show D.dir s k = rayU D s D.m k from rfl, hm0]
   simp only [go_sem]; refine jbd _ hM1 (SubR.of_eq rfl) ?_; rw [hpt]; simp only [go_sem]; exact ⟨b, rfl, hM1, hs1, hLb, hl1⟩
  ·refine jb7 (goodH [] []) _ _ [.tmp 4] Tryz.func150 rfl rfl (by decide +kernel) rfl ?_; simp only [c0, F1, K1, G1, go_sem]; refine jcy kz (by decide) rfl jby jc8 ?_; rintro _ L0 ⟨b, rfl, hb0, hb1, hb2⟩ hfr; have hnew := (hfr (hp b) (by rw [hb1]; rfl)).resolve_left (by simp [Abs.look]); refine ⟨(hp b, 4, tab N fun _ => qc 0) :: L, ?_, ?_⟩
   ·simp only [c0, F1, K1, G1, go_sem]; exact jc3 hb1
   have hLb : Abs.look L (hp b) = none := by
    revert hnew; simp only [c0, F1, K1, G1, go_sem]; exact fun h => h
   clear hnew hfr kz; have ndb : ¬ nm.d = b := fun e => by rw [e, hLb] at c0; cases c0
   have nfb : ¬ nm.f = b := fun e => by rw [e, hLb] at cf; cases cf
   have ndb' : ¬ b = nm.d := fun e => ndb e.symm; have hbM : blks ((hp b, 4, tab N fun _ => qc 0) :: L) := jan hb; have zg : ∀ k, k < N -> (tab N fun _ => qc 0)[k]? = some (fc 0) := fun k hk => qget (f := fun _ => 0) hk; have hd2 : decide ((D.free s : Int) < N) = false := decide_eq_false (by omega); simp only [c0, cf, fg, ndb, nfb, hd2, hsn', hs00, ja8, Int.toNat_natCast, F1, K1, G1, go_sem]; obtain ⟨M1, hM1e, hM1, hs1, hl1⟩ : ∃ M1, M1 = (hp b, 4, (tab N fun _ => qc 0)) :: L /\ blks M1 /\ SubR L M1 /\ Abs.look M1 (hp b) = some (4, tab N fun k => qc (rayU D s 0 k)) := by
    refine ⟨_, rfl, jan hb, jam hLb (SubR.of_eq rfl), ?_⟩; rw [ja2]; congr 2; exact jar fun k hk => congrArg qc (by show (0 : Rat) = if k = D.free s then 1 else 0; rw [if_neg (by omega)])
   refine jb4 [5, 35, 36] (fun g : Unit => ⟨[(5, .im (.ref b 42 4 N)), (35, .im (.int 0)), (36, .im (.int 0))], M1, []⟩) (fun _ => True) (fun _ => 0) () ?_ (SubR.of_eq hM1e) rfl trivial ?_
   ·simp only [go_sem]
   intro _ _; have hpt : (tab N fun k => qc (D.dir s k)) = tab N fun k => qc (rayU D s 0 k) := jar fun k _ => by
    rw [show D.dir s k = rayU D s D.m k from rfl, hm0]
   simp only [go_sem]; refine jbd _ hM1 (SubR.of_eq rfl) ?_; rw [hpt]; simp only [go_sem]; exact ⟨b, rfl, hM1, hs1, hLb, hl1⟩
 ·rw [jal hm0, jal hm0, jal hm0] at c0; have c1 := h.ho hm0; have c2 := h.hr hm0; rcases Nat.lt_or_ge (D.free s) N with hv | hv
  ·refine jb7 (goodH [] []) _ _ [.tmp 4] Tryz.func150 rfl rfl (by decide +kernel) rfl ?_; simp only [c0, F1, K1, G1, go_sem]; refine jcy kz (by decide) rfl jby jc8 ?_; rintro _ L0 ⟨b, rfl, hb0, hb1, hb2⟩ hfr; have hnew := (hfr (hp b) (by rw [hb1]; rfl)).resolve_left (by simp [Abs.look]); refine ⟨(hp b, 4, tab N fun _ => qc 0) :: L, ?_, ?_⟩
   ·simp only [c0, F1, K1, G1, go_sem]; exact jc3 hb1
   have hLb : Abs.look L (hp b) = none := by
    revert hnew; simp only [c0, F1, K1, G1, go_sem]; exact fun h => h
   clear hnew hfr kz; have ndb : ¬ nm.d = b := fun e => by rw [e, hLb] at c0; cases c0
   have nfb : ¬ nm.f = b := fun e => by rw [e, hLb] at cf; cases cf
   have ndb' : ¬ b = nm.d := fun e => ndb e.symm; have hbM : blks ((hp b, 4, tab N fun _ => qc 0) :: L) := jan hb; have zg : ∀ k, k < N -> (tab N fun _ => qc 0)[k]? = some (fc 0) := fun k hk => qget (f := fun _ => 0) hk; have hvN : (D.free s : Int) < N := by omega
   have hd2 : decide ((D.free s : Int) < N) = true := decide_eq_true hvN; have hv0 : (0 : Int) <= D.free s := by omega
   have zg1 := zg _ hv; have hmb := fun (s : Nat) (es : List (List IV)) => jep (L := L) (d := hp b) (s := s) (es := es) hLb; simp only [c0, cf, fg, ndb, nfb, hd2, hsn', hs00, ja8, Int.toNat_natCast, F1, K1, G1, go_sem]; refine ja1 o1 (by decide) ?_; simp only [c0, cf, fg, ndb, ndb', nfb, hvN, hv0, zg1, hsn', hs00, ja8, Int.toNat_natCast, hmb, F1, K1, G1, go_sem]; obtain ⟨M1, hM1e, hM1, hs1, hl1⟩ : ∃ M1, M1 = (hp b, 4, (tab N fun _ => qc 0).set (D.free s) (fc one)) :: L /\ blks M1 /\ SubR L M1 /\ Abs.look M1 (hp b) = some (4, tab N fun k => qc (rayU D s 0 k)) := by
    refine ⟨_, rfl, jan hb, jam hLb (SubR.of_eq rfl), ?_⟩; rw [ja2, qset (f := fun _ => 0), <- hone]; rfl
   refine jb4 [0, 1, 5, 34, 35, 36] (fun g : Nat × Abs.Rows => ⟨[(0, .loc (hp nm.d) 6 0 0), (1, .im (.int s)), (5, .im (.ref b 42 4 N)), (34, .im (.ref nm.o 3 1 D.m)), (35, .im (.int D.m)), (36, .im (.int g.1))], g.2, []⟩)
    (fun g => g.1 <= D.m /\ blks g.2 /\ SubR L g.2 /\ Abs.look g.2 (hp b) = some (4, tab N fun k => qc (rayU D s g.1 k))) (fun g => D.m - g.1) (0, M1) ?_ (SubR.of_eq hM1e) rfl
    ⟨Nat.zero_le _, hM1, hs1, hl1⟩ ?_
   ·simp only [Int.natCast_zero, go_sem]
   rintro ⟨i, M⟩ ⟨hi, hM, hs, hl⟩; dsimp only at hi hM hs hl; have F2 := bF hM; have K2 := bK hM; have G2 := bN hM; have d0 := hs _ _ c0; have d1 := hs _ _ c1; have d2 := hs _ _ c2; by_cases hlt : i < D.m
   ·have hd : decide ((i : Int) < D.m) = true := decide_eq_true (by omega); have him : (i : Int) < D.m := by omega
    have hi0 : (0 : Int) <= i := by omega
    have w1 := jaa (n := (i : Int) + 1) (by omega); have og := oget (o := D.own) hlt; have rg := lget (v := D.v) (A := nm.a) (n := D.n) hlt; have d3 := hs _ _ (h.ha i hlt); have ag := qget (f := D.a i) hsn; by_cases hv : D.own i < N
    ·have hd2 : decide ((D.own i : Int) < N) = true := decide_eq_true (by omega); have hvN : (D.own i : Int) < N := by omega
     have hv0 : (0 : Int) <= D.own i := by omega
     have hq := qget (f := rayU D s i) hv; have kn := f_neg (sm.a i s hlt hsn |>.mono (by omega)); generalize hx : -(D.a i s) = x at *; simp only [frac, ints] at kn; simp only [hd, hd2, d0, d1, d2, d3, og, rg, ag, hl, hq, hvN, hv0, hsn', hs00, him, hi0, ja8, Int.toNat_natCast, F2, K2, G2, go_sem]; refine ja1 kn (by decide) ?_; simp only [hd, hd2, d0, d1, d2, d3, og, rg, ag, hl, hq, hvN, hv0, hsn', hs00, him, hi0, ja8, Int.toNat_natCast, F2, K2, G2, go_sem]; refine jab (i + 1, M.map (fun p => if p.1 = hp b then (p.1, 4, (tab N fun k => qc (rayU D s i k)).set (D.own i) (fc x)) else p)) ?_ (SubR.of_eq rfl) rfl (by show D.m - (i + 1) < D.m - i; omega) ⟨hlt, jb5 hM, jfv hLb hs, (ja9 hl).trans ?_⟩
     ·simp only [w1, Int.natCast_add, go_sem]
     ·rw [qset]; congr 2; refine jar fun k hk => congrArg qc ?_; rw [jhd, hx]; by_cases e : k = D.own i
      ·rw [if_pos e, if_pos e.symm]
      ·rw [if_neg e, if_neg fun h => e h.symm]
    ·have hd2 : decide ((D.own i : Int) < N) = false := decide_eq_false (by omega); simp only [hd, hd2, d0, d1, d2, og, rg, him, hi0, ja8, Int.toNat_natCast, F2, K2, G2, go_sem]; refine jab (i + 1, M) ?_ (SubR.of_eq rfl) rfl (by show D.m - (i + 1) < D.m - i; omega) ⟨hlt, hM, hs, hl.trans ?_⟩
     ·simp only [w1, Int.natCast_add, go_sem]
     ·congr 2; refine jar fun k hk => congrArg qc ?_; rw [jhd, if_neg (by omega)]
   ·have hd : decide ((i : Int) < D.m) = false := decide_eq_false (by omega); have him : i = D.m := by omega
    subst him; simp only [hd, go_sem]; refine jbd M hM (SubR.of_eq rfl) ?_; simp only [go_sem]; exact ⟨b, rfl, hM, hs, hLb, hl⟩
  ·refine jb7 (goodH [] []) _ _ [.tmp 4] Tryz.func150 rfl rfl (by decide +kernel) rfl ?_; simp only [c0, F1, K1, G1, go_sem]; refine jcy kz (by decide) rfl jby jc8 ?_; rintro _ L0 ⟨b, rfl, hb0, hb1, hb2⟩ hfr; have hnew := (hfr (hp b) (by rw [hb1]; rfl)).resolve_left (by simp [Abs.look]); refine ⟨(hp b, 4, tab N fun _ => qc 0) :: L, ?_, ?_⟩
   ·simp only [c0, F1, K1, G1, go_sem]; exact jc3 hb1
   have hLb : Abs.look L (hp b) = none := by
    revert hnew; simp only [c0, F1, K1, G1, go_sem]; exact fun h => h
   clear hnew hfr kz; have ndb : ¬ nm.d = b := fun e => by rw [e, hLb] at c0; cases c0
   have nfb : ¬ nm.f = b := fun e => by rw [e, hLb] at cf; cases cf
   have ndb' : ¬ b = nm.d := fun e => ndb e.symm; have hbM : blks ((hp b, 4, tab N fun _ => qc 0) :: L) := jan hb; have zg : ∀ k, k < N -> (tab N fun _ => qc 0)[k]? = some (fc 0) := fun k hk => qget (f := fun _ => 0) hk; have hd2 : decide ((D.free s : Int) < N) = false := decide_eq_false (by omega); simp only [c0, cf, fg, ndb, nfb, hd2, hsn', hs00, ja8, Int.toNat_natCast, F1, K1, G1, go_sem]; obtain ⟨M1, hM1e, hM1, hs1, hl1⟩ : ∃ M1, M1 = (hp b, 4, (tab N fun _ => qc 0)) :: L /\ blks M1 /\ SubR L M1 /\ Abs.look M1 (hp b) = some (4, tab N fun k => qc (rayU D s 0 k)) := by
    refine ⟨_, rfl, jan hb, jam hLb (SubR.of_eq rfl), ?_⟩; rw [ja2]; congr 2; exact jar fun k hk => congrArg qc (by show (0 : Rat) = if k = D.free s then 1 else 0; rw [if_neg (by omega)])
   refine jb4 [0, 1, 5, 34, 35, 36] (fun g : Nat × Abs.Rows => ⟨[(0, .loc (hp nm.d) 6 0 0), (1, .im (.int s)), (5, .im (.ref b 42 4 N)), (34, .im (.ref nm.o 3 1 D.m)), (35, .im (.int D.m)), (36, .im (.int g.1))], g.2, []⟩)
    (fun g => g.1 <= D.m /\ blks g.2 /\ SubR L g.2 /\ Abs.look g.2 (hp b) = some (4, tab N fun k => qc (rayU D s g.1 k))) (fun g => D.m - g.1) (0, M1) ?_ (SubR.of_eq hM1e) rfl
    ⟨Nat.zero_le _, hM1, hs1, hl1⟩ ?_
   ·simp only [Int.natCast_zero, go_sem]
   rintro ⟨i, M⟩ ⟨hi, hM, hs, hl⟩; dsimp only at hi hM hs hl; have F2 := bF hM; have K2 := bK hM; have G2 := bN hM; have d0 := hs _ _ c0; have d1 := hs _ _ c1; have d2 := hs _ _ c2; by_cases hlt : i < D.m
   ·have hd : decide ((i : Int) < D.m) = true := decide_eq_true (by omega); have him : (i : Int) < D.m := by omega
    have hi0 : (0 : Int) <= i := by omega
    have w1 := jaa (n := (i : Int) + 1) (by omega); have og := oget (o := D.own) hlt; have rg := lget (v := D.v) (A := nm.a) (n := D.n) hlt; have d3 := hs _ _ (h.ha i hlt); have ag := qget (f := D.a i) hsn; by_cases hv : D.own i < N
    ·have hd2 : decide ((D.own i : Int) < N) = true := decide_eq_true (by omega); have hvN : (D.own i : Int) < N := by omega
     have hv0 : (0 : Int) <= D.own i := by omega
     have hq := qget (f := rayU D s i) hv; have kn := f_neg (sm.a i s hlt hsn |>.mono (by omega)); generalize hx : -(D.a i s) = x at *; simp only [frac, ints] at kn; simp only [hd, hd2, d0, d1, d2, d3, og, rg, ag, hl, hq, hvN, hv0, hsn', hs00, him, hi0, ja8, Int.toNat_natCast, F2, K2, G2, go_sem]; refine ja1 kn (by decide) ?_; simp only [hd, hd2, d0, d1, d2, d3, og, rg, ag, hl, hq, hvN, hv0, hsn', hs00, him, hi0, ja8, Int.toNat_natCast, F2, K2, G2, go_sem]; refine jab (i + 1, M.map (fun p => if p.1 = hp b then (p.1, 4, (tab N fun k => qc (rayU D s i k)).set (D.own i) (fc x)) else p)) ?_ (SubR.of_eq rfl) rfl (by show D.m - (i + 1) < D.m - i; omega) ⟨hlt, jb5 hM, jfv hLb hs, (ja9 hl).trans ?_⟩
     ·simp only [w1, Int.natCast_add, go_sem]
     ·rw [qset]; congr 2; refine jar fun k hk => congrArg qc ?_; rw [jhd, hx]; by_cases e : k = D.own i
      ·rw [if_pos e, if_pos e.symm]
      ·rw [if_neg e, if_neg fun h => e h.symm]
    ·have hd2 : decide ((D.own i : Int) < N) = false := decide_eq_false (by omega); simp only [hd, hd2, d0, d1, d2, og, rg, him, hi0, ja8, Int.toNat_natCast, F2, K2, G2, go_sem]; refine jab (i + 1, M) ?_ (SubR.of_eq rfl) rfl (by show D.m - (i + 1) < D.m - i; omega) ⟨hlt, hM, hs, hl.trans ?_⟩
     ·simp only [w1, Int.natCast_add, go_sem]
     ·congr 2; refine jar fun k hk => congrArg qc ?_; rw [jhd, if_neg (by omega)]
   ·have hd : decide ((i : Int) < D.m) = false := decide_eq_false (by omega); have him : i = D.m := by omega
    subst him; simp only [hd, go_sem]; refine jbd M hM (SubR.of_eq rfl) ?_; simp only [go_sem]; exact ⟨b, rfl, hM, hs, hLb, hl⟩
end
end
section
open Go.Abs
open Go.LP (Dic find)
attribute [local go_sem] ints ic big frac fc
section
variable {L : Abs.Rows} {nm : DN} {N : Nat} {D : Dic} {src : Nat -> Int × Bool}
def rf0 (D : Dic) (N r : Nat) (src : Nat -> Int × Bool) : Nat -> Rat := if D.own r < N then fun _ => 0 else chU (src (D.own r - N)).2 (fun _ => 0) (src (D.own r - N)).1.toNat 1
theorem FL_rf0 {D : Dic} {N r : Nat} {src : Nat -> Int × Bool} (k : Nat) : FL 100000005 (rf0 D N r src k) := by
 have h0 : FL 4 (0 : Rat) := jce (n := 0) (by omega); have h1 : FL 4 (1 : Rat) := jce (n := 1) (by omega); unfold rf0; split
 ·exact h0.mono (by omega)
 ·exact (FL_chU (y := fun _ => 0) (c := 4) h0 (h1.mono (by omega))).mono (by omega)
set_option maxHeartbeats 4000000 in
theorem jig (h : HasD L nm N D src) (R : Nat) {r : Nat} (hrm : r < D.m) (hn0 : D.n ≠ 0) (hR : R <= 100000) (hm : D.m <= 100000) (hn : D.n <= 100) (hN : N <= 100000) (hs : Srcs D N R src) (hf : ∀ j, j < D.n -> D.free j <= 1000000) (ho : ∀ i, i < D.m -> D.own i <= 1000000) (sm : SmD D) :
  CtrH G.P 151 [.loc (hp nm.d) 6 0 0, .im (.int R), .im (.int r)] L (fun x L' => ∃ b, x = .im (.ref b 42 4 R) /\ blks L' /\ SubR L L' /\ Abs.look L (hp b) = none /\
   Abs.look L' (hp b) = some (4, tab R fun k => qc (prU D N src (rf0 D N r src) (fun j => D.a r j) D.n k))) := by
 have hb := h.blk; have F1 := bF hb; have K1 := bK hb; have G1 := bN hb; have hm0 : D.m ≠ 0 := by omega
 have c0 := h.hd; rw [jal hn0, jal hm0, jal hm0, jal hm0] at c0; have c1 := h.ho hm0; have c2 := h.hr hm0; have cf := h.hf hn0; have rg := lget (v := D.v) (A := nm.a) (n := D.n) hrm; have og := oget (o := D.own) hrm; have hrm' : (r : Int) < D.m := by omega
 have hr00 : (0 : Int) <= r := by omega
 have hor := ho r hrm; have kz := jgw R hR; have o1 := jc6 1 (by omega); rw [show ((1 : Int) : Rat) = 1 from rfl] at o1; rcases Nat.lt_or_ge (D.own r) N with hv | hv
 ·have hd2 : decide ((N : Int) <= D.own r) = false := decide_eq_false (by omega); have hrf : rf0 D N r src = fun _ => 0 := by unfold rf0; rw [if_pos hv]
  refine jb7 (goodH [] []) _ _ [.tmp 6] Tryz.func151 rfl rfl (by decide +kernel) rfl ?_; simp only [F1, K1, G1, go_sem]; refine jcy kz (by decide) rfl jby jc8 ?_; rintro _ L0 ⟨b, rfl, hb0, hb1, hb2⟩ hfr; have hnew := (hfr (hp b) (by rw [hb1]; rfl)).resolve_left (by simp [Abs.look]); refine ⟨(hp b, 4, tab R fun _ => qc 0) :: L, ?_, ?_⟩
  ·simp only [F1, K1, G1, go_sem]; exact jc3 hb1
  have hLb : Abs.look L (hp b) = none := by
   revert hnew; simp only [F1, K1, G1, go_sem]; exact fun h => h
  clear hnew hfr kz; have ndb : ¬ nm.d = b := fun e => by rw [e, hLb] at c0; cases c0
  have nob : ¬ nm.o = b := fun e => by rw [e, hLb] at c1; cases c1
  have hbM : blks ((hp b, 4, tab R fun _ => qc 0) :: L) := jan hb; have F5 := fun (d : Nat) (h : d < 100000) => jdw (L := (hp b, 4, tab R fun _ => qc 0) :: L) (d := d) hbM h; simp only [c0, c1, og, ndb, nob, hd2, hrm', hr00, ja8, Int.toNat_natCast, F1, K1, G1, go_sem]; obtain ⟨M1, hM1e, hM1, hs1, hl1⟩ : ∃ M1, M1 = (hp b, 4, (tab R fun _ => qc 0)) :: L /\ blks M1 /\ SubR L M1 /\ Abs.look M1 (hp b) = some (4, tab R fun k => qc (prU D N src (rf0 D N r src) (fun j => D.a r j) 0 k)) := by
   refine ⟨_, rfl, jan hb, jam hLb (SubR.of_eq rfl), ?_⟩; rw [ja2, prU, hrf]
  clear hrf; refine jb4 [0, 2, 7, 39, 40, 41] (fun g : Nat × Abs.Rows => ⟨[(0, .loc (hp nm.d) 6 0 0), (2, .im (.int r)), (7, .im (.ref b 42 4 R)), (39, .im (.ref nm.f 3 1 D.n)), (40, .im (.int D.n)), (41, .im (.int g.1))], g.2, []⟩)
   (fun g => g.1 <= D.n /\ blks g.2 /\ SubR L g.2 /\ Abs.look g.2 (hp b) = some (4, tab R fun k => qc (prU D N src (rf0 D N r src) (fun j => D.a r j) g.1 k))) (fun g => D.n - g.1) (0, M1) ?_ (SubR.of_eq hM1e) rfl
   ⟨Nat.zero_le _, hM1, hs1, hl1⟩ ?_
  ·simp only [Int.natCast_zero, go_sem]
  rintro ⟨j, M⟩ ⟨hj, hM, hsM, hl⟩; dsimp only at hj hM hsM hl; have F2 := bF hM; have K2 := bK hM; have G2 := bN hM; have d0 := hsM _ _ c0; have df := hsM _ _ cf; have dr := hsM _ _ c2; have da := hsM _ _ (h.ha r hrm); rcases Nat.lt_or_ge j D.n with hlt | hlt
  ·have hd : decide ((j : Int) < D.n) = true := decide_eq_true (by omega); have hjn : (j : Int) < D.n := by omega
   have hj0 : (0 : Int) <= j := by omega
   have w1 := jaa (n := (j : Int) + 1) (by omega); have fg := oget (o := D.free) hlt; have ag := qget (f := D.a r) hlt; have hfj := hf j hlt; rcases Nat.lt_or_ge (D.free j) N with hv | hv
   ·have hd2 : decide ((N : Int) <= D.free j) = false := decide_eq_false (by omega); simp only [hd, hd2, d0, df, fg, hjn, hj0, ja8, Int.toNat_natCast, F2, K2, G2, go_sem]; refine jab (j + 1, M) ?_ (SubR.of_eq rfl) rfl (by show D.n - (j + 1) < D.n - j; omega) ⟨hlt, hM, hsM, hl.trans ?_⟩
    ·simp only [w1, Int.natCast_add, go_sem]
    ·congr 2; refine jar fun k hk => congrArg qc ?_; rw [prU, if_pos hv]
   ·have hd2 : decide ((N : Int) <= D.free j) = true := decide_eq_true (by omega); have him := hs.free j hlt hv; have hsr := hs.row _ him; have w2 := jaa (n := ((D.free j - N : Nat) : Int)) (by omega); have w3 : (D.free j : Int) - N = ((D.free j - N : Nat) : Int) := by omega
    have HM := h.sub hM hsM; have ky := jpq (D := D) (N := N) (src := src) (y0 := rf0 D N r src) (pr := fun j => D.a r j) (c := 100000005) (fun k => FL_rf0 k) (fun j hj => sm.a r j hrm hj) j hj (src (D.free j - N)).1.toNat; have kc := jir HM him (r := (src (D.free j - N)).1.toNat) (by omega) (by omega : (src (D.free j - N)).1.toNat < R) _ hl (D.a r j) hR hm (ky.mono (by
     have : j * 100000001 <= 100 * 100000001 := Nat.mul_le_mul_right _ (by omega); omega)) (sm.a r j hrm hlt)
    have hps : prU D N src (rf0 D N r src) (fun j => D.a r j) (j + 1) = chU (src (D.free j - N)).2 (prU D N src (rf0 D N r src) (fun j => D.a r j) j) (src (D.free j - N)).1.toNat (D.a r j) := by
     rw [prU, if_neg (by omega)]
    simp only [frac, ints] at kc; simp only [hd, hd2, d0, df, fg, hjn, hj0, ja8, Int.toNat_natCast, F2, K2, G2, go_sem]; refine jau 19 (by decide +kernel) ?_; simp only [hd, hd2, d0, df, dr, da, fg, rg, ag, hrm', hr00, hjn, hj0, w2, w3, ja8, Int.toNat_natCast, F2, K2, G2, go_sem]; refine jai kc (by decide) (by simp only [List.map_cons, List.map_nil, jav]; rfl) hM (SubR.of_eq rfl) ?_; rintro _ L2 ⟨rfl, t1, t2, t3⟩ _; refine ⟨L2, jbg, ?_⟩; have F3 := bF t1; simp only [F3, go_sem]; refine jab (j + 1, L2) ?_ (SubR.of_eq rfl) rfl (by show D.n - (j + 1) < D.n - j; omega) ⟨hlt, t1, fun k x hk => ?_, t2.trans ?_⟩
    ·simp only [w1, Int.natCast_add, go_sem]
    ·rw [t3 k (fun e => by subst e; rw [hLb] at hk; cases hk)]; exact hsM k x hk
    ·dsimp only; rw [hps]
  ·have hd : decide ((j : Int) < D.n) = false := decide_eq_false (by omega); have hjn : j = D.n := by omega
   subst hjn; simp only [hd, go_sem]; refine jbd M hM (SubR.of_eq rfl) ?_; simp only [go_sem]; exact ⟨b, rfl, hM, hsM, hLb, hl⟩
 ·have hd2 : decide ((N : Int) <= D.own r) = true := decide_eq_true (by omega); have him0 := hs.own r hrm hv; have hsr0 := hs.row _ him0; have hrf : rf0 D N r src = chU (src (D.own r - N)).2 (fun _ => 0) (src (D.own r - N)).1.toNat 1 := by unfold rf0; rw [if_neg (by omega)]
  have v2 := jaa (n := ((D.own r - N : Nat) : Int)) (by omega); have v3 : (D.own r : Int) - N = ((D.own r - N : Nat) : Int) := by omega
  refine jb7 (goodH [] []) _ _ [.tmp 6] Tryz.func151 rfl rfl (by decide +kernel) rfl ?_; simp only [F1, K1, G1, go_sem]; refine jcy kz (by decide) rfl jby jc8 ?_; rintro _ L0 ⟨b, rfl, hb0, hb1, hb2⟩ hfr; have hnew := (hfr (hp b) (by rw [hb1]; rfl)).resolve_left (by simp [Abs.look]); refine ⟨(hp b, 4, tab R fun _ => qc 0) :: L, ?_, ?_⟩
  ·simp only [F1, K1, G1, go_sem]; exact jc3 hb1
  have hLb : Abs.look L (hp b) = none := by
   revert hnew; simp only [F1, K1, G1, go_sem]; exact fun h => h
  clear hnew hfr kz; have ndb : ¬ nm.d = b := fun e => by rw [e, hLb] at c0; cases c0
  have nob : ¬ nm.o = b := fun e => by rw [e, hLb] at c1; cases c1
  have hbM : blks ((hp b, 4, tab R fun _ => qc 0) :: L) := jan hb; have F5 := fun (d : Nat) (h : d < 100000) => jdw (L := (hp b, 4, tab R fun _ => qc 0) :: L) (d := d) hbM h; have HM0 : HasD ((hp b, 4, tab R fun _ => qc 0) :: L) nm N D src := h.sub hbM (jam hLb (SubR.of_eq rfl)); have kc := jir HM0 him0 (r := (src (D.own r - N)).1.toNat) (by omega) (by omega : (src (D.own r - N)).1.toNat < R) (fun _ => 0) (ja2 _ _ _) 1 hR hm ((jce (n := 0) (by omega) : FL 4 ((0 : Int) : Rat)).mono (by omega)) ((jce (n := 1) (by omega) : FL 4 ((1 : Int) : Rat)).mono (by omega)); rw [<- hrf] at kc; generalize (1 : Rat) = one at o1 kc; simp only [frac, ints] at o1 kc; simp only [c0, c1, og, ndb, nob, hd2, hrm', hr00, ja8, Int.toNat_natCast, F1, K1, G1, go_sem]; refine jau 9 (by decide +kernel) ?_; simp only [c0, c1, og, ndb, nob, hd2, v2, v3, hrm', hr00, ja8, Int.toNat_natCast, F1, K1, G1, go_sem]; refine ja4 o1 (by decide) ?_; simp only [c0, c1, og, ndb, nob, hd2, v2, v3, hrm', hr00, ja8, Int.toNat_natCast, F1, K1, G1, go_sem]; refine jai kc (by decide) (by simp only [List.map_cons, List.map_nil, jav]; rfl) hbM (SubR.of_eq rfl) ?_; rintro _ M1 ⟨rfl, hM1, t2, t3⟩ _; refine ⟨M1, jbg, ?_⟩; have hs1 : SubR L M1 := fun k x hk => by
   have hne : k ≠ hp b := fun e => by subst e; rw [hLb] at hk; cases hk
   rw [t3 k hne, ja0 _ _ hne]; exact hk
  have hl1 : Abs.look M1 (hp b) = some (4, tab R fun k => qc (prU D N src (rf0 D N r src) (fun j => D.a r j) 0 k)) := t2; have hM1e : M1 = M1 := rfl; have F3 := bF hM1; have e0 := hs1 _ _ c0; simp only [e0, F3, go_sem]; refine jb4 [0, 2, 7, 39, 40, 41] (fun g : Nat × Abs.Rows => ⟨[(0, .loc (hp nm.d) 6 0 0), (2, .im (.int r)), (7, .im (.ref b 42 4 R)), (39, .im (.ref nm.f 3 1 D.n)), (40, .im (.int D.n)), (41, .im (.int g.1))], g.2, []⟩)
   (fun g => g.1 <= D.n /\ blks g.2 /\ SubR L g.2 /\ Abs.look g.2 (hp b) = some (4, tab R fun k => qc (prU D N src (rf0 D N r src) (fun j => D.a r j) g.1 k))) (fun g => D.n - g.1) (0, M1) ?_ (SubR.of_eq hM1e) rfl
   ⟨Nat.zero_le _, hM1, hs1, hl1⟩ ?_
  ·simp only [Int.natCast_zero, go_sem]
  rintro ⟨j, M⟩ ⟨hj, hM, hsM, hl⟩; dsimp only at hj hM hsM hl; have F2 := bF hM; have K2 := bK hM; have G2 := bN hM; have d0 := hsM _ _ c0; have df := hsM _ _ cf; have dr := hsM _ _ c2; have da := hsM _ _ (h.ha r hrm); rcases Nat.lt_or_ge j D.n with hlt | hlt
  ·have hd : decide ((j : Int) < D.n) = true := decide_eq_true (by omega); have hjn : (j : Int) < D.n := by omega
   have hj0 : (0 : Int) <= j := by omega
   have w1 := jaa (n := (j : Int) + 1) (by omega); have fg := oget (o := D.free) hlt; have ag := qget (f := D.a r) hlt; have hfj := hf j hlt; rcases Nat.lt_or_ge (D.free j) N with hv | hv
   ·have hd2 : decide ((N : Int) <= D.free j) = false := decide_eq_false (by omega); simp only [hd, hd2, d0, df, fg, hjn, hj0, ja8, Int.toNat_natCast, F2, K2, G2, go_sem]; refine jab (j + 1, M) ?_ (SubR.of_eq rfl) rfl (by show D.n - (j + 1) < D.n - j; omega) ⟨hlt, hM, hsM, hl.trans ?_⟩
    ·simp only [w1, Int.natCast_add, go_sem]
    ·congr 2; refine jar fun k hk => congrArg qc ?_; rw [prU, if_pos hv]
   ·have hd2 : decide ((N : Int) <= D.free j) = true := decide_eq_true (by omega); have him := hs.free j hlt hv; have hsr := hs.row _ him; have w2 := jaa (n := ((D.free j - N : Nat) : Int)) (by omega); have w3 : (D.free j : Int) - N = ((D.free j - N : Nat) : Int) := by omega
    have HM := h.sub hM hsM; have ky := jpq (D := D) (N := N) (src := src) (y0 := rf0 D N r src) (pr := fun j => D.a r j) (c := 100000005) (fun k => FL_rf0 k) (fun j hj => sm.a r j hrm hj) j hj (src (D.free j - N)).1.toNat; have kc := jir HM him (r := (src (D.free j - N)).1.toNat) (by omega) (by omega : (src (D.free j - N)).1.toNat < R) _ hl (D.a r j) hR hm (ky.mono (by
     have : j * 100000001 <= 100 * 100000001 := Nat.mul_le_mul_right _ (by omega); omega)) (sm.a r j hrm hlt)
    have hps : prU D N src (rf0 D N r src) (fun j => D.a r j) (j + 1) = chU (src (D.free j - N)).2 (prU D N src (rf0 D N r src) (fun j => D.a r j) j) (src (D.free j - N)).1.toNat (D.a r j) := by
     rw [prU, if_neg (by omega)]
    simp only [frac, ints] at kc; simp only [hd, hd2, d0, df, fg, hjn, hj0, ja8, Int.toNat_natCast, F2, K2, G2, go_sem]; refine jau 19 (by decide +kernel) ?_; simp only [hd, hd2, d0, df, dr, da, fg, rg, ag, hrm', hr00, hjn, hj0, w2, w3, ja8, Int.toNat_natCast, F2, K2, G2, go_sem]; refine jai kc (by decide) (by simp only [List.map_cons, List.map_nil, jav]; rfl) hM (SubR.of_eq rfl) ?_; rintro _ L2 ⟨rfl, t1, t2, t3⟩ _; refine ⟨L2, jbg, ?_⟩; have F3 := bF t1; simp only [F3, go_sem]; refine jab (j + 1, L2) ?_ (SubR.of_eq rfl) rfl (by show D.n - (j + 1) < D.n - j; omega) ⟨hlt, t1, fun k x hk => ?_, t2.trans ?_⟩
    ·simp only [w1, Int.natCast_add, go_sem]
    ·rw [t3 k (fun e => by subst e; rw [hLb] at hk; cases hk)]; exact hsM k x hk
    ·dsimp only; rw [hps]
  ·have hd : decide ((j : Int) < D.n) = false := decide_eq_false (by omega); have hjn : j = D.n := by omega
   subst hjn; simp only [hd, go_sem]; refine jbd M hM (SubR.of_eq rfl) ?_; simp only [go_sem]; exact ⟨b, rfl, hM, hsM, hLb, hl⟩
end
end
end Go.Proofs.YtfahloobpegieaaGreat
