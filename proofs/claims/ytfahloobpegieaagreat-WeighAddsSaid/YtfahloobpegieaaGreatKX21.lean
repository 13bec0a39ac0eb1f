/- A part of the proof. No further condition. -/
import Derived.Test.YtfahloobpegieaaGreatKX20
import Derived.Test.YtfahloobpegieaaGreatKX17
import Derived.Test.YtfahloobpegieaaGreatKX14
import Derived.Test.YtfahloobpegieaaGreatKX19
set_option linter.all false
set_option maxRecDepth 100000
namespace Go.Proofs.YtfahloobpegieaaGreat
section
open Go.Abs
open Go.LP (Rw RT tsum)
attribute [local go_sem] ints ic big frac fc rwC tmC Evid.c Place.c Move.c Cert.c Recall.c Purity.c
theorem jg0 {M : Nat} {fr : Int} {mat : Nat} {ms : List Move} : ∀ k, (jag M fr mat ms k).length <= k
 | 0 => Nat.le_refl _
 | k + 1 => by
  have := jg0 (M := M) (fr := fr) (mat := mat) (ms := ms) k; rw [jag]; split
  ·split
   ·omega
   ·rw [List.length_append, List.length_singleton]; omega
  ·omega
theorem jek {M : Nat} {ms : List Move} {mv : Nat} {x : Move} : ∀ k, (jea M ms mv x k).length = k
 | 0 => rfl
 | k + 1 => by rw [jea, List.length_append, jek k]; rfl
section
variable {L : Abs.Rows} {nm : MN} {e : Evid} {ws : List Rw} {os : List (List IV)} {M : Nat}
set_option maxHeartbeats 8000000 in
theorem e_stock (h : HasM L nm e ws os) (hM : e.mats = (M : Int)) (mv : Nat) (x : Move) (hx : e.moves[mv]? = some x) (hm : mv <= 200) (hM6 : M <= 6) (hl : ws.length <= 5000) (l3 : e.moves.length <= 200) :
  CtrH G.P 141 [.loc (hp nm.d) 10 0 0, .im (.int mv)] L (fun r L' => r = .im (.tup []) /\ ∃ (nm' : MN) (os' : List (List IV)), nm'.d = nm.d /\ HasM L' nm' e (ws ++ jea M e.moves mv x M) os') := by
 have hb := h.blk; have F1 := bF hb; have K1 := bK hb; have G1 := bN hb; have c0 := h.hd; simp only [Evid.c, hM] at c0; have hlt : (mv : Int) < e.moves.length := by have := (List.getElem?_eq_some_iff.1 hx).1; omega
 have h0 : (0 : Int) <= mv := by omega
 obtain ⟨kd, hkd⟩ : ∃ kd : Int, kd = if x.all = true then 2 else 0 := ⟨_, rfl⟩
 rcases hal : x.all with _ | _
 ·refine jb7 (goodH [66] [75]) _ _ [] Tryz.func141 rfl rfl (by decide +kernel) rfl ?_; simp only [c0, hM, hlt, h0, hx, hal, List.getElem?_map, List.length_map, Int.toNat_natCast, F1, K1, G1, go_sem]; have hkd0 := hkd; have hkd : kd = 0 := by rw [hkd, hal]; rfl
  refine jb4 [0, 1, 4, 5, 25, 26] (fun g : (Nat × MN × List (List IV)) × Abs.Rows => ⟨[(0, .loc (hp nm.d) 10 0 0), (1, .im (.int mv)), (4, .loc 4 6 0 0), (5, .im (.int kd)), (25, .im (.int M)), (26, .im (.int g.1.1))], (4, 6, [x.c]) :: g.2, []⟩)
   (fun g => g.1.1 <= M /\ g.1.2.1.d = nm.d /\ HasM g.2 g.1.2.1 e (ws ++ jea M e.moves mv x g.1.1) g.1.2.2) (fun g => M - g.1.1) ((0, nm, os), L) ?_ ?_ rfl ⟨Nat.zero_le _, rfl, by show HasM L nm e (ws ++ []) os; rw [List.append_nil]; exact h⟩ ?_
  ·simp only [hkd, hal, Int.natCast_zero, go_sem]
  ·simp only [hal, go_sem]; exact SubR.of_eq rfl
  clear F1 K1 G1 c0 hb h; rintro ⟨⟨i, nm1, os1⟩, R⟩ ⟨hi, hnd, hR⟩; dsimp only at hi hnd hR; have bR := hR.blk; have F1 := bF bR; have K1 := bK bR; have G1 := bN bR; have c0 := hR.hd; rw [hnd] at c0; simp only [Evid.c, hM] at c0; rcases Nat.lt_or_ge i M with hlti | hlti
  ·have hdi : decide ((i : Int) < M) = true := decide_eq_true (by omega); have hi1 := jaa (n := (i : Int) + 1) (by omega); have hm1 := jaa (n := (mv : Int) + 1) (by omega); have hms : (mv : Int) + 1 <= e.moves.length := by omega
   have hms' : (mv : Int) + 1 = ((mv + 1 : Nat) : Int) := rfl; have hma : ((e.moves.map Move.c).all fun c => c.length == 6) = true := List.all_eq_true.2 fun c hc => by
    obtain ⟨z, _, rfl⟩ := List.mem_map.1 hc; rfl
   have hm0 : (0 : Int) <= (mv : Int) + 1 := by omega
   have hmt : ((mv : Int) + 1).toNat = mv + 1 := by omega
   have hln : (List.take (mv + 1) (e.moves.map Move.c)).length = mv + 1 := by rw [List.length_take, List.length_map]; omega
   simp only [hdi, c0, hm1, hms, hma, hm0, hmt, hln, Nat.sub_zero, List.length_map, F1, K1, G1, go_sem]; refine jb4 [0, 1, 4, 5, 6, 7, 25, 26, 36, 37, 38] (fun g : (Nat × Nat) × Abs.Rows => ⟨[(0, .loc (hp nm.d) 10 0 0), (1, .im (.int mv)), (4, .loc 4 6 0 0), (5, .im (.int kd)), (6, .im (.int i)), (7, sA g.1.2 (jag M x.fr i e.moves g.1.1).length), (25, .im (.int M)), (26, .im (.int i)), (36, .im (.sl (List.take (mv + 1) (e.moves.map Move.c)))), (37, .im (.int ((mv + 1 : Nat) : Int))), (38, .im (.int g.1.1))], (4, 6, [x.c]) :: g.2, []⟩)
    (fun g => g.1.1 <= mv + 1 /\ blks g.2 /\ SubR R g.2 /\ NEWT R g.2 g.1.2 (jag M x.fr i e.moves g.1.1)) (fun g => mv + 1 - g.1.1) ((0, 0), R) ?_ ?_ rfl ⟨Nat.zero_le _, bR, SubR.refl _, fun h => absurd rfl h⟩ ?_
   ·have hz := jco (A := 0) (show (jag M x.fr i e.moves 0).length = 0 from rfl); simp only [hkd, hal, Int.natCast_zero, hz, Int.natCast_add, go_sem]
   ·exact SubR.of_eq rfl
   rintro ⟨⟨k, A⟩, R2⟩ ⟨hk, bR2, sR2, nR2⟩; dsimp only at hk bR2 sR2 nR2; have F2 := bF bR2; have K2 := bK bR2; have G2 := bN bR2; rcases Nat.lt_or_ge k (mv + 1) with hltk | hltk
   ·have hd : decide ((k : Int) < (mv + 1 : Nat)) = true := decide_eq_true (by omega); obtain ⟨y, hyk⟩ : ∃ y, e.moves[k]? = some y := ⟨_, List.getElem?_eq_getElem (by omega)⟩; have hy : (List.take (mv + 1) (e.moves.map Move.c))[k]? = some y.c := by rw [List.getElem?_take, if_pos hltk, List.getElem?_map, hyk]; rfl
    have h1 := jaa (n := (k : Int) + 1) (by omega); have kv := e_var (hR.sub bR2 sR2) hM k i (by omega) (by omega) hM6; rw [hnd] at kv; rcases hsf : decide (y.fr = x.fr) with _ | _
    ·rcases hst : decide (y.to = x.fr) with _ | _
     ·have hsgn : sgnF x.fr y = 0 := by unfold sgnF; rw [if_neg (of_decide_eq_false hsf), if_neg (of_decide_eq_false hst)]
      have hskip : jag M x.fr i e.moves (k + 1) = jag M x.fr i e.moves k := by rw [jag, hyk]; dsimp only; rw [if_pos hsgn]
      by_cases hn : (jag M x.fr i e.moves k).length = 0
      ·have hs0 := jco (A := A) hn; simp only [hd, hy, hsf, hst, hs0, F2, K2, G2, go_sem]; refine jab ((k + 1, A), R2) ?_ ?_ rfl (by show mv + 1 - (k + 1) < mv + 1 - k; omega) ⟨by dsimp only; omega, bR2, sR2, by dsimp only; rw [hskip]; exact nR2⟩
       ·simp only [h1, hskip, hs0, Int.natCast_add, go_sem]
       ·show SubR ((4, 6, [x.c]) :: R2) ((9, 6, [y.c]) :: (4, 6, [x.c]) :: R2); refine jam ?_ (SubR.of_eq rfl); rw [ja0 _ _ (by dsimp only; decide)]; exact jax bR2 (by dsimp only; decide)
      ·have hs0 := jcd (A := A) hn; simp only [hd, hy, hsf, hst, hs0, F2, K2, G2, go_sem]; refine jab ((k + 1, A), R2) ?_ ?_ rfl (by show mv + 1 - (k + 1) < mv + 1 - k; omega) ⟨by dsimp only; omega, bR2, sR2, by dsimp only; rw [hskip]; exact nR2⟩
       ·simp only [h1, hskip, hs0, Int.natCast_add, go_sem]
       ·show SubR ((4, 6, [x.c]) :: R2) ((9, 6, [y.c]) :: (4, 6, [x.c]) :: R2); refine jam ?_ (SubR.of_eq rfl); rw [ja0 _ _ (by dsimp only; decide)]; exact jax bR2 (by dsimp only; decide)
     ·have hsgn : sgnF x.fr y = 1 := by unfold sgnF; rw [if_neg (of_decide_eq_false hsf), if_pos (of_decide_eq_true hst)]
      have hadd : jag M x.fr i e.moves (k + 1) = jag M x.fr i e.moves k ++ [(k * M + i, (((1 : Int)) : Rat))] := by rw [jag, hyk]; dsimp only; rw [hsgn, if_neg (by decide)]
      have kI := jc6 1 (by omega); simp only [frac, ints] at kI; by_cases hn : (jag M x.fr i e.moves k).length = 0
      ·have hs0 := jco (A := A) hn; have hnil : jag M x.fr i e.moves k = [] := List.eq_nil_of_length_eq_zero hn; simp only [hd, hy, hsf, hst, F2, K2, G2, hs0, go_sem]; refine jai kv (by decide) (by simp only [List.map_cons, List.map_nil, jav]; rfl) bR2 (ja3 (by decide) bR2 (ja3 (by decide) bR2 (SubR.refl _))) ?_; rintro _ L1 ⟨rfl, hL1⟩ _; subst hL1; refine ⟨(9, 6, [y.c]) :: (4, 6, [x.c]) :: L1, jao [_, _] (jbc bR2 (by simp)), ?_⟩; simp only [F2, K2, G2, go_sem]; refine ja1 kI (by decide) ?_; simp only [F2, K2, G2, go_sem]; refine And.intro (fun c' hc' => by rw [List.mem_singleton.1 hc']; rfl) ?_; unfold NewP NewH; intro X hX; have lX1 : Abs.look L1 (hp X) = none := by
        have h2 : Abs.look ((9, 6, [y.c]) :: (4, 6, [x.c]) :: L1) (hp X) = none := hX; rw [ja0 _ _ (hp_ne (by decide)).symm, ja0 _ _ (hp_ne (by decide)).symm] at h2; exact h2
       clear hX; have lX : Abs.look R (hp X) = none := by
        cases hx' : Abs.look R (hp X) with
        | none => rfl
        | some z => rw [sR2 _ _ hx'] at lX1; cases lX1
       have hl1 : (jag M x.fr i e.moves (k + 1)).length = 1 := by rw [hadd, hnil]; rfl
       have hs1 := jcd (A := X) (n := 1) (by omega); simp only [F2, K2, G2, go_sem]; refine jab ((k + 1, X), (hp X, 5, [tmC (k * M + i, (((1 : Int)) : Rat))]) :: L1) ?_ ?_ rfl (by show mv + 1 - (k + 1) < mv + 1 - k; omega) ⟨by dsimp only; omega, jan bR2, jam lX sR2, ?_⟩
       ·simp only [h1, hl1, hs1, Int.natCast_add, go_sem]
       ·show SubR ((4, 6, [x.c]) :: (hp X, 5, [tmC (k * M + i, (((1 : Int)) : Rat))]) :: L1) ((hp X, 5, [tmC (k * M + i, (((1 : Int)) : Rat))]) :: (9, 6, [y.c]) :: (4, 6, [x.c]) :: L1); refine jb2 ?_ (jaz _ (ja3 (by decide) bR2 (ja3 (by decide) bR2 (SubR.refl _)))); rw [ja0 _ _ (hp_ne (by decide)), ja0 _ _ (by decide), ja2]
       ·dsimp only; rw [hadd]; refine NEWT.app ?_ lX; rw [ja2, hnil]; rfl
      ·have hs0 := jcd (A := A) hn; obtain ⟨hrA, hLA⟩ := nR2 hn; have htk : List.take (jag M x.fr i e.moves k).length ((jag M x.fr i e.moves k).map tmC) = (jag M x.fr i e.moves k).map tmC := List.take_of_length_le (by rw [List.length_map]; exact Nat.le_refl _); have hlk := jg0 (M := M) (fr := x.fr) (mat := i) (ms := e.moves) k; have bn9 : (9 != hp A) = true /\ (4 != hp A) = true := by
        simp only [bne_iff_ne, ne_eq]; exact ⟨hp_ne (by decide), hp_ne (by decide)⟩
       simp only [hd, hy, hsf, hst, F2, K2, G2, hs0, go_sem]; refine jai kv (by decide) (by simp only [List.map_cons, List.map_nil, jav]; rfl) bR2 (ja3 (by decide) bR2 (ja3 (by decide) bR2 (SubR.refl _))) ?_; rintro _ L1 ⟨rfl, hL1⟩ _; subst hL1; refine ⟨(9, 6, [y.c]) :: (4, 6, [x.c]) :: L1, jao [_, _] (jbc bR2 (by simp)), ?_⟩; simp only [F2, K2, G2, go_sem]; refine ja1 kI (by decide) ?_; obtain ⟨Q, hQe⟩ : ∃ Q, Abs.del L1 (hp A) = Q := ⟨_, rfl⟩; have hQf : List.filter (fun p => p.1 != hp A) L1 = Q := hQe; have bQ : blks Q := hQe ▸ jbf bR2; have F3 := bF bQ; have K3 := bK bQ; have G3 := bN bQ; simp only [hrA, htk, List.length_map, F2, K2, G2, go_sem]; refine And.intro (fun c' hc' => by rw [List.mem_singleton.1 hc']; rfl) (And.intro (Nat.le_refl _) (And.intro (by omega) ?_)); unfold GrowP GrowH; intro X hX; have lXQ : Abs.look Q (hp X) = none := by
        have h2 : Abs.look (Abs.del ((9, 6, [y.c]) :: (4, 6, [x.c]) :: L1) (hp A)) (hp X) = none := hX; rw [jad (hp_ne (by decide)), jad (hp_ne (by decide)), ja0 _ _ (hp_ne (by decide)).symm, ja0 _ _ (hp_ne (by decide)).symm, hQe] at h2; exact h2
       clear hX; obtain ⟨lS, lX⟩ := jfg (v := (5, (jag M x.fr i e.moves k).map tmC ++ [tmC (k * M + i, (((1 : Int)) : Rat))])) sR2 hLA (X := X) (by rw [hQe]; exact lXQ); rw [hQe] at lS; have hl1 : (jag M x.fr i e.moves (k + 1)).length = (jag M x.fr i e.moves k).length + 1 := by rw [hadd, List.length_append]; rfl
       have hs1 := jcd (A := X) (n := (jag M x.fr i e.moves k).length + 1) (Nat.succ_ne_zero _); simp only [hQf, bn9, F2, K2, G2, F3, K3, G3, go_sem]; refine jab ((k + 1, X), (hp X, 5, (jag M x.fr i e.moves k).map tmC ++ [tmC (k * M + i, (((1 : Int)) : Rat))]) :: Q) ?_ ?_ rfl (by show mv + 1 - (k + 1) < mv + 1 - k; omega) ⟨by dsimp only; omega, jan bQ, lS, ?_⟩
       ·simp only [h1, hl1, hs1, Int.natCast_add, go_sem]
       ·show SubR ((4, 6, [x.c]) :: (hp X, 5, (jag M x.fr i e.moves k).map tmC ++ [tmC (k * M + i, (((1 : Int)) : Rat))]) :: Q) ((hp X, 5, (jag M x.fr i e.moves k).map tmC ++ [tmC (k * M + i, (((1 : Int)) : Rat))]) :: (9, 6, [y.c]) :: (4, 6, [x.c]) :: Q); refine jb2 ?_ (jaz _ (ja3 (by decide) bQ (ja3 (by decide) bQ (SubR.refl _)))); rw [ja0 _ _ (hp_ne (by decide)), ja0 _ _ (by decide), ja2]
       ·dsimp only; rw [hadd]; exact NEWT.app (ja2 _ _ _) lX
    ·have hsgn : sgnF x.fr y = -1 := by unfold sgnF; rw [if_pos (of_decide_eq_true hsf)]
     have hadd : jag M x.fr i e.moves (k + 1) = jag M x.fr i e.moves k ++ [(k * M + i, ((((-1) : Int)) : Rat))] := by rw [jag, hyk]; dsimp only; rw [hsgn, if_neg (by decide)]
     have kI := jc6 (-1) (by omega); simp only [frac, ints] at kI; by_cases hn : (jag M x.fr i e.moves k).length = 0
     ·have hs0 := jco (A := A) hn; have hnil : jag M x.fr i e.moves k = [] := List.eq_nil_of_length_eq_zero hn; simp only [hd, hy, hsf, F2, K2, G2, hs0, go_sem]; refine jai kv (by decide) (by simp only [List.map_cons, List.map_nil, jav]; rfl) bR2 (ja3 (by decide) bR2 (ja3 (by decide) bR2 (SubR.refl _))) ?_; rintro _ L1 ⟨rfl, hL1⟩ _; subst hL1; refine ⟨(9, 6, [y.c]) :: (4, 6, [x.c]) :: L1, jao [_, _] (jbc bR2 (by simp)), ?_⟩; simp only [F2, K2, G2, go_sem]; refine ja1 kI (by decide) ?_; simp only [F2, K2, G2, go_sem]; refine And.intro (fun c' hc' => by rw [List.mem_singleton.1 hc']; rfl) ?_; unfold NewP NewH; intro X hX; have lX1 : Abs.look L1 (hp X) = none := by
       have h2 : Abs.look ((9, 6, [y.c]) :: (4, 6, [x.c]) :: L1) (hp X) = none := hX; rw [ja0 _ _ (hp_ne (by decide)).symm, ja0 _ _ (hp_ne (by decide)).symm] at h2; exact h2
      clear hX; have lX : Abs.look R (hp X) = none := by
       cases hx' : Abs.look R (hp X) with
       | none => rfl
       | some z => rw [sR2 _ _ hx'] at lX1; cases lX1
      have hl1 : (jag M x.fr i e.moves (k + 1)).length = 1 := by rw [hadd, hnil]; rfl
      have hs1 := jcd (A := X) (n := 1) (by omega); simp only [F2, K2, G2, go_sem]; refine jab ((k + 1, X), (hp X, 5, [tmC (k * M + i, ((((-1) : Int)) : Rat))]) :: L1) ?_ ?_ rfl (by show mv + 1 - (k + 1) < mv + 1 - k; omega) ⟨by dsimp only; omega, jan bR2, jam lX sR2, ?_⟩
      ·simp only [h1, hl1, hs1, Int.natCast_add, go_sem]
      ·show SubR ((4, 6, [x.c]) :: (hp X, 5, [tmC (k * M + i, ((((-1) : Int)) : Rat))]) :: L1) ((hp X, 5, [tmC (k * M + i, ((((-1) : Int)) : Rat))]) :: (9, 6, [y.c]) :: (4, 6, [x.c]) :: L1); refine jb2 ?_ (jaz _ (ja3 (by decide) bR2 (ja3 (by decide) bR2 (SubR.refl _)))); rw [ja0 _ _ (hp_ne (by decide)), ja0 _ _ (by decide), ja2]
      ·dsimp only; rw [hadd]; refine NEWT.app ?_ lX; rw [ja2, hnil]; rfl
     ·have hs0 := jcd (A := A) hn; obtain ⟨hrA, hLA⟩ := nR2 hn; have htk : List.take (jag M x.fr i e.moves k).length ((jag M x.fr i e.moves k).map tmC) = (jag M x.fr i e.moves k).map tmC := List.take_of_length_le (by rw [List.length_map]; exact Nat.le_refl _); have hlk := jg0 (M := M) (fr := x.fr) (mat := i) (ms := e.moves) k; have bn9 : (9 != hp A) = true /\ (4 != hp A) = true := by
       simp only [bne_iff_ne, ne_eq]; exact ⟨hp_ne (by decide), hp_ne (by decide)⟩
      simp only [hd, hy, hsf, F2, K2, G2, hs0, go_sem]; refine jai kv (by decide) (by simp only [List.map_cons, List.map_nil, jav]; rfl) bR2 (ja3 (by decide) bR2 (ja3 (by decide) bR2 (SubR.refl _))) ?_; rintro _ L1 ⟨rfl, hL1⟩ _; subst hL1; refine ⟨(9, 6, [y.c]) :: (4, 6, [x.c]) :: L1, jao [_, _] (jbc bR2 (by simp)), ?_⟩; simp only [F2, K2, G2, go_sem]; refine ja1 kI (by decide) ?_; obtain ⟨Q, hQe⟩ : ∃ Q, Abs.del L1 (hp A) = Q := ⟨_, rfl⟩; have hQf : List.filter (fun p => p.1 != hp A) L1 = Q := hQe; have bQ : blks Q := hQe ▸ jbf bR2; have F3 := bF bQ; have K3 := bK bQ; have G3 := bN bQ; simp only [hrA, htk, List.length_map, F2, K2, G2, go_sem]; refine And.intro (fun c' hc' => by rw [List.mem_singleton.1 hc']; rfl) (And.intro (Nat.le_refl _) (And.intro (by omega) ?_)); unfold GrowP GrowH; intro X hX; have lXQ : Abs.look Q (hp X) = none := by
       have h2 : Abs.look (Abs.del ((9, 6, [y.c]) :: (4, 6, [x.c]) :: L1) (hp A)) (hp X) = none := hX; rw [jad (hp_ne (by decide)), jad (hp_ne (by decide)), ja0 _ _ (hp_ne (by decide)).symm, ja0 _ _ (hp_ne (by decide)).symm, hQe] at h2; exact h2
      clear hX; obtain ⟨lS, lX⟩ := jfg (v := (5, (jag M x.fr i e.moves k).map tmC ++ [tmC (k * M + i, ((((-1) : Int)) : Rat))])) sR2 hLA (X := X) (by rw [hQe]; exact lXQ); rw [hQe] at lS; have hl1 : (jag M x.fr i e.moves (k + 1)).length = (jag M x.fr i e.moves k).length + 1 := by rw [hadd, List.length_append]; rfl
      have hs1 := jcd (A := X) (n := (jag M x.fr i e.moves k).length + 1) (Nat.succ_ne_zero _); simp only [hQf, bn9, F2, K2, G2, F3, K3, G3, go_sem]; refine jab ((k + 1, X), (hp X, 5, (jag M x.fr i e.moves k).map tmC ++ [tmC (k * M + i, ((((-1) : Int)) : Rat))]) :: Q) ?_ ?_ rfl (by show mv + 1 - (k + 1) < mv + 1 - k; omega) ⟨by dsimp only; omega, jan bQ, lS, ?_⟩
      ·simp only [h1, hl1, hs1, Int.natCast_add, go_sem]
      ·show SubR ((4, 6, [x.c]) :: (hp X, 5, (jag M x.fr i e.moves k).map tmC ++ [tmC (k * M + i, ((((-1) : Int)) : Rat))]) :: Q) ((hp X, 5, (jag M x.fr i e.moves k).map tmC ++ [tmC (k * M + i, ((((-1) : Int)) : Rat))]) :: (9, 6, [y.c]) :: (4, 6, [x.c]) :: Q); refine jb2 ?_ (jaz _ (ja3 (by decide) bQ (ja3 (by decide) bQ (SubR.refl _)))); rw [ja0 _ _ (hp_ne (by decide)), ja0 _ _ (by decide), ja2]
      ·dsimp only; rw [hadd]; exact NEWT.app (ja2 _ _ _) lX
   have hd : decide ((k : Int) < (mv + 1 : Nat)) = false := decide_eq_false (by omega); have hkm : k = mv + 1 := by omega
   subst hkm; have ka := e_add hR ⟨jag M x.fr i e.moves (mv + 1), kd, 0⟩ 0 mv i (-1) (by
    rw [List.length_append]; have := jek (M := M) (ms := e.moves) (mv := mv) (x := x) i; omega)
   have hz0 : ((0 : Int) : Rat) = 0 := rfl; have o1 := jc6 0 (by omega); rw [hz0] at o1; simp only [frac, ints] at ka o1; have hdd := hR.hd; rw [hnd] at ka hdd; by_cases hn : (jag M x.fr i e.moves (mv + 1)).length = 0
   ·have hs0 := jco (A := A) hn; have hnil : jag M x.fr i e.moves (mv + 1) = [] := List.eq_nil_of_length_eq_zero hn; simp only [hd, hs0, F2, K2, G2, go_sem]; refine ja1 o1 (by decide) ?_; simp only [hs0, F2, K2, G2, go_sem]; refine jai ka (by decide) (by simp only [List.map_cons, List.map_nil, jav, hnil]; rfl) bR (ja3 (by decide) bR sR2) ?_; rintro _ L4 ⟨rfl, nm4, hn4, hM4⟩ _; refine ⟨(4, 6, [x.c]) :: L4, jao [_] (jbc bR (by simp)), ?_⟩; have bL4 := hM4.blk; have F5 := bF bL4; have G5 := bN bL4; have K5 := bK bL4; simp only [F5, G5, K5, go_sem]; refine jab ((i + 1, nm4, _), L4) ?_ (SubR.of_eq rfl) rfl (by show M - (i + 1) < M - i; omega) ⟨hlti, hn4, by dsimp only; rw [jea, <- hkd0, <- List.append_assoc]; exact hM4⟩; simp only [hi1, Int.natCast_add, go_sem]
   ·obtain ⟨hrA, hLA⟩ := nR2 hn; have hs0 := jcd (A := A) hn; have htk : List.take (jag M x.fr i e.moves (mv + 1)).length ((jag M x.fr i e.moves (mv + 1)).map tmC) = (jag M x.fr i e.moves (mv + 1)).map tmC := List.take_of_length_le (by rw [List.length_map]; exact Nat.le_refl _); have ndA : ¬ nm.d = A := fun e => by have h1 := hdd; rw [e, hLA] at h1; cases h1
    have bn4 : (4 != hp A) = true := by simp only [bne_iff_ne, ne_eq]; exact hp_ne (by decide)
    obtain ⟨Q, hQe⟩ : ∃ Q, Abs.del R2 (hp A) = Q := ⟨_, rfl⟩; have hQf : List.filter (fun p => p.1 != hp A) R2 = Q := hQe; have bQ : blks Q := hQe ▸ jbf bR2; have sQ := hQe ▸ jfw sR2 hLA; have F3 := bF bQ; have K3 := bK bQ; have G3 := bN bQ; simp only [hd, hs0, F2, K2, G2, go_sem]; refine ja1 o1 (by decide) ?_; simp only [hs0, hrA, ndA, hQf, htk, Nat.le_refl, bn4, F2, K2, G2, F3, K3, G3, go_sem]; refine jai ka (by decide) (by simp only [List.map_cons, List.map_nil, jav]; rfl) bR (ja3 (by decide) bR sQ) ?_; rintro _ L4 ⟨rfl, nm4, hn4, hM4⟩ _; refine ⟨(4, 6, [x.c]) :: L4, jao [_] (jbc bR (by simp)), ?_⟩; have bL4 := hM4.blk; have F5 := bF bL4; have G5 := bN bL4; have K5 := bK bL4; simp only [F5, G5, K5, go_sem]; refine jab ((i + 1, nm4, _), L4) ?_ (SubR.of_eq rfl) rfl (by show M - (i + 1) < M - i; omega) ⟨hlti, hn4, by dsimp only; rw [jea, <- hkd0, <- List.append_assoc]; exact hM4⟩; simp only [hi1, Int.natCast_add, go_sem]
  have hdi : decide ((i : Int) < M) = false := decide_eq_false (by omega); have hiM : i = M := by omega
  subst hiM; simp only [hdi, go_sem]; refine jba ?_; simp only [go_sem]; exact ⟨nm1, os1, hnd, hR.sub jd9 (jid bR (ja3 (by decide) bR (SubR.refl _)))⟩
 ·refine jb7 (goodH [66] [75]) _ _ [] Tryz.func141 rfl rfl (by decide +kernel) rfl ?_; simp only [c0, hM, hlt, h0, hx, hal, List.getElem?_map, List.length_map, Int.toNat_natCast, F1, K1, G1, go_sem]; have hkd0 := hkd; have hkd : kd = 2 := by rw [hkd, hal]; rfl
  refine jb4 [0, 1, 4, 5, 25, 26] (fun g : (Nat × MN × List (List IV)) × Abs.Rows => ⟨[(0, .loc (hp nm.d) 10 0 0), (1, .im (.int mv)), (4, .loc 4 6 0 0), (5, .im (.int kd)), (25, .im (.int M)), (26, .im (.int g.1.1))], (4, 6, [x.c]) :: g.2, []⟩)
   (fun g => g.1.1 <= M /\ g.1.2.1.d = nm.d /\ HasM g.2 g.1.2.1 e (ws ++ jea M e.moves mv x g.1.1) g.1.2.2) (fun g => M - g.1.1) ((0, nm, os), L) ?_ ?_ rfl ⟨Nat.zero_le _, rfl, by show HasM L nm e (ws ++ []) os; rw [List.append_nil]; exact h⟩ ?_
  ·simp only [hkd, hal, Int.natCast_zero, go_sem]
  ·simp only [hal, go_sem]; exact SubR.of_eq rfl
  clear F1 K1 G1 c0 hb h; rintro ⟨⟨i, nm1, os1⟩, R⟩ ⟨hi, hnd, hR⟩; dsimp only at hi hnd hR; have bR := hR.blk; have F1 := bF bR; have K1 := bK bR; have G1 := bN bR; have c0 := hR.hd; rw [hnd] at c0; simp only [Evid.c, hM] at c0; rcases Nat.lt_or_ge i M with hlti | hlti
  ·have hdi : decide ((i : Int) < M) = true := decide_eq_true (by omega); have hi1 := jaa (n := (i : Int) + 1) (by omega); have hm1 := jaa (n := (mv : Int) + 1) (by omega); have hms : (mv : Int) + 1 <= e.moves.length := by omega
   have hms' : (mv : Int) + 1 = ((mv + 1 : Nat) : Int) := rfl; have hma : ((e.moves.map Move.c).all fun c => c.length == 6) = true := List.all_eq_true.2 fun c hc => by
    obtain ⟨z, _, rfl⟩ := List.mem_map.1 hc; rfl
   have hm0 : (0 : Int) <= (mv : Int) + 1 := by omega
   have hmt : ((mv : Int) + 1).toNat = mv + 1 := by omega
   have hln : (List.take (mv + 1) (e.moves.map Move.c)).length = mv + 1 := by rw [List.length_take, List.length_map]; omega
   simp only [hdi, c0, hm1, hms, hma, hm0, hmt, hln, Nat.sub_zero, List.length_map, F1, K1, G1, go_sem]; refine jb4 [0, 1, 4, 5, 6, 7, 25, 26, 36, 37, 38] (fun g : (Nat × Nat) × Abs.Rows => ⟨[(0, .loc (hp nm.d) 10 0 0), (1, .im (.int mv)), (4, .loc 4 6 0 0), (5, .im (.int kd)), (6, .im (.int i)), (7, sA g.1.2 (jag M x.fr i e.moves g.1.1).length), (25, .im (.int M)), (26, .im (.int i)), (36, .im (.sl (List.take (mv + 1) (e.moves.map Move.c)))), (37, .im (.int ((mv + 1 : Nat) : Int))), (38, .im (.int g.1.1))], (4, 6, [x.c]) :: g.2, []⟩)
    (fun g => g.1.1 <= mv + 1 /\ blks g.2 /\ SubR R g.2 /\ NEWT R g.2 g.1.2 (jag M x.fr i e.moves g.1.1)) (fun g => mv + 1 - g.1.1) ((0, 0), R) ?_ ?_ rfl ⟨Nat.zero_le _, bR, SubR.refl _, fun h => absurd rfl h⟩ ?_
   ·have hz := jco (A := 0) (show (jag M x.fr i e.moves 0).length = 0 from rfl); simp only [hkd, hal, Int.natCast_zero, hz, Int.natCast_add, go_sem]
   ·exact SubR.of_eq rfl
   rintro ⟨⟨k, A⟩, R2⟩ ⟨hk, bR2, sR2, nR2⟩; dsimp only at hk bR2 sR2 nR2; have F2 := bF bR2; have K2 := bK bR2; have G2 := bN bR2; rcases Nat.lt_or_ge k (mv + 1) with hltk | hltk
   ·have hd : decide ((k : Int) < (mv + 1 : Nat)) = true := decide_eq_true (by omega); obtain ⟨y, hyk⟩ : ∃ y, e.moves[k]? = some y := ⟨_, List.getElem?_eq_getElem (by omega)⟩; have hy : (List.take (mv + 1) (e.moves.map Move.c))[k]? = some y.c := by rw [List.getElem?_take, if_pos hltk, List.getElem?_map, hyk]; rfl
    have h1 := jaa (n := (k : Int) + 1) (by omega); have kv := e_var (hR.sub bR2 sR2) hM k i (by omega) (by omega) hM6; rw [hnd] at kv; rcases hsf : decide (y.fr = x.fr) with _ | _
    ·rcases hst : decide (y.to = x.fr) with _ | _
     ·have hsgn : sgnF x.fr y = 0 := by unfold sgnF; rw [if_neg (of_decide_eq_false hsf), if_neg (of_decide_eq_false hst)]
      have hskip : jag M x.fr i e.moves (k + 1) = jag M x.fr i e.moves k := by rw [jag, hyk]; dsimp only; rw [if_pos hsgn]
      by_cases hn : (jag M x.fr i e.moves k).length = 0
      ·have hs0 := jco (A := A) hn; simp only [hd, hy, hsf, hst, hs0, F2, K2, G2, go_sem]; refine jab ((k + 1, A), R2) ?_ ?_ rfl (by show mv + 1 - (k + 1) < mv + 1 - k; omega) ⟨by dsimp only; omega, bR2, sR2, by dsimp only; rw [hskip]; exact nR2⟩
       ·simp only [h1, hskip, hs0, Int.natCast_add, go_sem]
       ·show SubR ((4, 6, [x.c]) :: R2) ((9, 6, [y.c]) :: (4, 6, [x.c]) :: R2); refine jam ?_ (SubR.of_eq rfl); rw [ja0 _ _ (by dsimp only; decide)]; exact jax bR2 (by dsimp only; decide)
      ·have hs0 := jcd (A := A) hn; simp only [hd, hy, hsf, hst, hs0, F2, K2, G2, go_sem]; refine jab ((k + 1, A), R2) ?_ ?_ rfl (by show mv + 1 - (k + 1) < mv + 1 - k; omega) ⟨by dsimp only; omega, bR2, sR2, by dsimp only; rw [hskip]; exact nR2⟩
       ·simp only [h1, hskip, hs0, Int.natCast_add, go_sem]
       ·show SubR ((4, 6, [x.c]) :: R2) ((9, 6, [y.c]) :: (4, 6, [x.c]) :: R2); refine jam ?_ (SubR.of_eq rfl); rw [ja0 _ _ (by dsimp only; decide)]; exact jax bR2 (by dsimp only; decide)
     ·have hsgn : sgnF x.fr y = 1 := by unfold sgnF; rw [if_neg (of_decide_eq_false hsf), if_pos (of_decide_eq_true hst)]
      have hadd : jag M x.fr i e.moves (k + 1) = jag M x.fr i e.moves k ++ [(k * M + i, (((1 : Int)) : Rat))] := by rw [jag, hyk]; dsimp only; rw [hsgn, if_neg (by decide)]
      have kI := jc6 1 (by omega); simp only [frac, ints] at kI; by_cases hn : (jag M x.fr i e.moves k).length = 0
      ·have hs0 := jco (A := A) hn; have hnil : jag M x.fr i e.moves k = [] := List.eq_nil_of_length_eq_zero hn; simp only [hd, hy, hsf, hst, F2, K2, G2, hs0, go_sem]; refine jai kv (by decide) (by simp only [List.map_cons, List.map_nil, jav]; rfl) bR2 (ja3 (by decide) bR2 (ja3 (by decide) bR2 (SubR.refl _))) ?_; rintro _ L1 ⟨rfl, hL1⟩ _; subst hL1; refine ⟨(9, 6, [y.c]) :: (4, 6, [x.c]) :: L1, jao [_, _] (jbc bR2 (by simp)), ?_⟩; simp only [F2, K2, G2, go_sem]; refine ja1 kI (by decide) ?_; simp only [F2, K2, G2, go_sem]; refine And.intro (fun c' hc' => by rw [List.mem_singleton.1 hc']; rfl) ?_; unfold NewP NewH; intro X hX; have lX1 : Abs.look L1 (hp X) = none := by
        have h2 : Abs.look ((9, 6, [y.c]) :: (4, 6, [x.c]) :: L1) (hp X) = none := hX; rw [ja0 _ _ (hp_ne (by decide)).symm, ja0 _ _ (hp_ne (by decide)).symm] at h2; exact h2
       clear hX; have lX : Abs.look R (hp X) = none := by
        cases hx' : Abs.look R (hp X) with
        | none => rfl
        | some z => rw [sR2 _ _ hx'] at lX1; cases lX1
       have hl1 : (jag M x.fr i e.moves (k + 1)).length = 1 := by rw [hadd, hnil]; rfl
       have hs1 := jcd (A := X) (n := 1) (by omega); simp only [F2, K2, G2, go_sem]; refine jab ((k + 1, X), (hp X, 5, [tmC (k * M + i, (((1 : Int)) : Rat))]) :: L1) ?_ ?_ rfl (by show mv + 1 - (k + 1) < mv + 1 - k; omega) ⟨by dsimp only; omega, jan bR2, jam lX sR2, ?_⟩
       ·simp only [h1, hl1, hs1, Int.natCast_add, go_sem]
       ·show SubR ((4, 6, [x.c]) :: (hp X, 5, [tmC (k * M + i, (((1 : Int)) : Rat))]) :: L1) ((hp X, 5, [tmC (k * M + i, (((1 : Int)) : Rat))]) :: (9, 6, [y.c]) :: (4, 6, [x.c]) :: L1); refine jb2 ?_ (jaz _ (ja3 (by decide) bR2 (ja3 (by decide) bR2 (SubR.refl _)))); rw [ja0 _ _ (hp_ne (by decide)), ja0 _ _ (by decide), ja2]
       ·dsimp only; rw [hadd]; refine NEWT.app ?_ lX; rw [ja2, hnil]; rfl
      ·have hs0 := jcd (A := A) hn; obtain ⟨hrA, hLA⟩ := nR2 hn; have htk : List.take (jag M x.fr i e.moves k).length ((jag M x.fr i e.moves k).map tmC) = (jag M x.fr i e.moves k).map tmC := List.take_of_length_le (by rw [List.length_map]; exact Nat.le_refl _); have hlk := jg0 (M := M) (fr := x.fr) (mat := i) (ms := e.moves) k; have bn9 : (9 != hp A) = true /\ (4 != hp A) = true := by
        simp only [bne_iff_ne, ne_eq]; exact ⟨hp_ne (by decide), hp_ne (by decide)⟩
       simp only [hd, hy, hsf, hst, F2, K2, G2, hs0, go_sem]; refine jai kv (by decide) (by simp only [List.map_cons, List.map_nil, jav]; rfl) bR2 (ja3 (by decide) bR2 (ja3 (by decide) bR2 (SubR.refl _))) ?_; rintro _ L1 ⟨rfl, hL1⟩ _; subst hL1; refine ⟨(9, 6, [y.c]) :: (4, 6, [x.c]) :: L1, jao [_, _] (jbc bR2 (by simp)), ?_⟩; simp only [F2, K2, G2, go_sem]; refine ja1 kI (by decide) ?_; obtain ⟨Q, hQe⟩ : ∃ Q, Abs.del L1 (hp A) = Q := ⟨_, rfl⟩; have hQf : List.filter (fun p => p.1 != hp A) L1 = Q := hQe; have bQ : blks Q := hQe ▸ jbf bR2; have F3 := bF bQ; have K3 := bK bQ; have G3 := bN bQ; simp only [hrA, htk, List.length_map, F2, K2, G2, go_sem]; refine And.intro (fun c' hc' => by rw [List.mem_singleton.1 hc']; rfl) (And.intro (Nat.le_refl _) (And.intro (by omega) ?_)); unfold GrowP GrowH; intro X hX; have lXQ : Abs.look Q (hp X) = none := by
        have h2 : Abs.look (Abs.del ((9, 6, [y.c]) :: (4, 6, [x.c]) :: L1) (hp A)) (hp X) = none := hX; rw [jad (hp_ne (by decide)), jad (hp_ne (by decide)), ja0 _ _ (hp_ne (by decide)).symm, ja0 _ _ (hp_ne (by decide)).symm, hQe] at h2; exact h2
       clear hX; obtain ⟨lS, lX⟩ := jfg (v := (5, (jag M x.fr i e.moves k).map tmC ++ [tmC (k * M + i, (((1 : Int)) : Rat))])) sR2 hLA (X := X) (by rw [hQe]; exact lXQ); rw [hQe] at lS; have hl1 : (jag M x.fr i e.moves (k + 1)).length = (jag M x.fr i e.moves k).length + 1 := by rw [hadd, List.length_append]; rfl
       have hs1 := jcd (A := X) (n := (jag M x.fr i e.moves k).length + 1) (Nat.succ_ne_zero _); simp only [hQf, bn9, F2, K2, G2, F3, K3, G3, go_sem]; refine jab ((k + 1, X), (hp X, 5, (jag M x.fr i e.moves k).map tmC ++ [tmC (k * M + i, (((1 : Int)) : Rat))]) :: Q) ?_ ?_ rfl (by show mv + 1 - (k + 1) < mv + 1 - k; omega) ⟨by dsimp only; omega, jan bQ, lS, ?_⟩
       ·simp only [h1, hl1, hs1, Int.natCast_add, go_sem]
       ·show SubR ((4, 6, [x.c]) :: (hp X, 5, (jag M x.fr i e.moves k).map tmC ++ [tmC (k * M + i, (((1 : Int)) : Rat))]) :: Q) ((hp X, 5, (jag M x.fr i e.moves k).map tmC ++ [tmC (k * M + i, (((1 : Int)) : Rat))]) :: (9, 6, [y.c]) :: (4, 6, [x.c]) :: Q); refine jb2 ?_ (jaz _ (ja3 (by decide) bQ (ja3 (by decide) bQ (SubR.refl _)))); rw [ja0 _ _ (hp_ne (by decide)), ja0 _ _ (by decide), ja2]
       ·dsimp only; rw [hadd]; exact NEWT.app (ja2 _ _ _) lX
    ·have hsgn : sgnF x.fr y = -1 := by unfold sgnF; rw [if_pos (of_decide_eq_true hsf)]
     have hadd : jag M x.fr i e.moves (k + 1) = jag M x.fr i e.moves k ++ [(k * M + i, ((((-1) : Int)) : Rat))] := by rw [jag, hyk]; dsimp only; rw [hsgn, if_neg (by decide)]
     have kI := jc6 (-1) (by omega); simp only [frac, ints] at kI; by_cases hn : (jag M x.fr i e.moves k).length = 0
     ·have hs0 := jco (A := A) hn; have hnil : jag M x.fr i e.moves k = [] := List.eq_nil_of_length_eq_zero hn; simp only [hd, hy, hsf, F2, K2, G2, hs0, go_sem]; refine jai kv (by decide) (by simp only [List.map_cons, List.map_nil, jav]; rfl) bR2 (ja3 (by decide) bR2 (ja3 (by decide) bR2 (SubR.refl _))) ?_; rintro _ L1 ⟨rfl, hL1⟩ _; subst hL1; refine ⟨(9, 6, [y.c]) :: (4, 6, [x.c]) :: L1, jao [_, _] (jbc bR2 (by simp)), ?_⟩; simp only [F2, K2, G2, go_sem]; refine ja1 kI (by decide) ?_; simp only [F2, K2, G2, go_sem]; refine And.intro (fun c' hc' => by rw [List.mem_singleton.1 hc']; rfl) ?_; unfold NewP NewH; intro X hX; have lX1 : Abs.look L1 (hp X) = none := by
       have h2 : Abs.look ((9, 6, [y.c]) :: (4, 6, [x.c]) :: L1) (hp X) = none := hX; rw [ja0 _ _ (hp_ne (by decide)).symm, ja0 _ _ (hp_ne (by decide)).symm] at h2; exact h2
      clear hX; have lX : Abs.look R (hp X) = none := by
       cases hx' : Abs.look R (hp X) with
       | none => rfl
       | some z => rw [sR2 _ _ hx'] at lX1; cases lX1
      have hl1 : (jag M x.fr i e.moves (k + 1)).length = 1 := by rw [hadd, hnil]; rfl
      have hs1 := jcd (A := X) (n := 1) (by omega); simp only [F2, K2, G2, go_sem]; refine jab ((k + 1, X), (hp X, 5, [tmC (k * M + i, ((((-1) : Int)) : Rat))]) :: L1) ?_ ?_ rfl (by show mv + 1 - (k + 1) < mv + 1 - k; omega) ⟨by dsimp only; omega, jan bR2, jam lX sR2, ?_⟩
      ·simp only [h1, hl1, hs1, Int.natCast_add, go_sem]
      ·show SubR ((4, 6, [x.c]) :: (hp X, 5, [tmC (k * M + i, ((((-1) : Int)) : Rat))]) :: L1) ((hp X, 5, [tmC (k * M + i, ((((-1) : Int)) : Rat))]) :: (9, 6, [y.c]) :: (4, 6, [x.c]) :: L1); refine jb2 ?_ (jaz _ (ja3 (by decide) bR2 (ja3 (by decide) bR2 (SubR.refl _)))); rw [ja0 _ _ (hp_ne (by decide)), ja0 _ _ (by decide), ja2]
      ·dsimp only; rw [hadd]; refine NEWT.app ?_ lX; rw [ja2, hnil]; rfl
     ·have hs0 := jcd (A := A) hn; obtain ⟨hrA, hLA⟩ := nR2 hn; have htk : List.take (jag M x.fr i e.moves k).length ((jag M x.fr i e.moves k).map tmC) = (jag M x.fr i e.moves k).map tmC := List.take_of_length_le (by rw [List.length_map]; exact Nat.le_refl _); have hlk := jg0 (M := M) (fr := x.fr) (mat := i) (ms := e.moves) k; have bn9 : (9 != hp A) = true /\ (4 != hp A) = true := by
       simp only [bne_iff_ne, ne_eq]; exact ⟨hp_ne (by decide), hp_ne (by decide)⟩
      simp only [hd, hy, hsf, F2, K2, G2, hs0, go_sem]; refine jai kv (by decide) (by simp only [List.map_cons, List.map_nil, jav]; rfl) bR2 (ja3 (by decide) bR2 (ja3 (by decide) bR2 (SubR.refl _))) ?_; rintro _ L1 ⟨rfl, hL1⟩ _; subst hL1; refine ⟨(9, 6, [y.c]) :: (4, 6, [x.c]) :: L1, jao [_, _] (jbc bR2 (by simp)), ?_⟩; simp only [F2, K2, G2, go_sem]; refine ja1 kI (by decide) ?_; obtain ⟨Q, hQe⟩ : ∃ Q, Abs.del L1 (hp A) = Q := ⟨_, rfl⟩; have hQf : List.filter (fun p => p.1 != hp A) L1 = Q := hQe; have bQ : blks Q := hQe ▸ jbf bR2; have F3 := bF bQ; have K3 := bK bQ; have G3 := bN bQ; simp only [hrA, htk, List.length_map, F2, K2, G2, go_sem]; refine And.intro (fun c' hc' => by rw [List.mem_singleton.1 hc']; rfl) (And.intro (Nat.le_refl _) (And.intro (by omega) ?_)); unfold GrowP GrowH; intro X hX; have lXQ : Abs.look Q (hp X) = none := by
       have h2 : Abs.look (Abs.del ((9, 6, [y.c]) :: (4, 6, [x.c]) :: L1) (hp A)) (hp X) = none := hX; rw [jad (hp_ne (by decide)), jad (hp_ne (by decide)), ja0 _ _ (hp_ne (by decide)).symm, ja0 _ _ (hp_ne (by decide)).symm, hQe] at h2; exact h2
      clear hX; obtain ⟨lS, lX⟩ := jfg (v := (5, (jag M x.fr i e.moves k).map tmC ++ [tmC (k * M + i, ((((-1) : Int)) : Rat))])) sR2 hLA (X := X) (by rw [hQe]; exact lXQ); rw [hQe] at lS; have hl1 : (jag M x.fr i e.moves (k + 1)).length = (jag M x.fr i e.moves k).length + 1 := by rw [hadd, List.length_append]; rfl
      have hs1 := jcd (A := X) (n := (jag M x.fr i e.moves k).length + 1) (Nat.succ_ne_zero _); simp only [hQf, bn9, F2, K2, G2, F3, K3, G3, go_sem]; refine jab ((k + 1, X), (hp X, 5, (jag M x.fr i e.moves k).map tmC ++ [tmC (k * M + i, ((((-1) : Int)) : Rat))]) :: Q) ?_ ?_ rfl (by show mv + 1 - (k + 1) < mv + 1 - k; omega) ⟨by dsimp only; omega, jan bQ, lS, ?_⟩
      ·simp only [h1, hl1, hs1, Int.natCast_add, go_sem]
      ·show SubR ((4, 6, [x.c]) :: (hp X, 5, (jag M x.fr i e.moves k).map tmC ++ [tmC (k * M + i, ((((-1) : Int)) : Rat))]) :: Q) ((hp X, 5, (jag M x.fr i e.moves k).map tmC ++ [tmC (k * M + i, ((((-1) : Int)) : Rat))]) :: (9, 6, [y.c]) :: (4, 6, [x.c]) :: Q); refine jb2 ?_ (jaz _ (ja3 (by decide) bQ (ja3 (by decide) bQ (SubR.refl _)))); rw [ja0 _ _ (hp_ne (by decide)), ja0 _ _ (by decide), ja2]
      ·dsimp only; rw [hadd]; exact NEWT.app (ja2 _ _ _) lX
   have hd : decide ((k : Int) < (mv + 1 : Nat)) = false := decide_eq_false (by omega); have hkm : k = mv + 1 := by omega
   subst hkm; have ka := e_add hR ⟨jag M x.fr i e.moves (mv + 1), kd, 0⟩ 0 mv i (-1) (by
    rw [List.length_append]; have := jek (M := M) (ms := e.moves) (mv := mv) (x := x) i; omega)
   have hz0 : ((0 : Int) : Rat) = 0 := rfl; have o1 := jc6 0 (by omega); rw [hz0] at o1; simp only [frac, ints] at ka o1; have hdd := hR.hd; rw [hnd] at ka hdd; by_cases hn : (jag M x.fr i e.moves (mv + 1)).length = 0
   ·have hs0 := jco (A := A) hn; have hnil : jag M x.fr i e.moves (mv + 1) = [] := List.eq_nil_of_length_eq_zero hn; simp only [hd, hs0, F2, K2, G2, go_sem]; refine ja1 o1 (by decide) ?_; simp only [hs0, F2, K2, G2, go_sem]; refine jai ka (by decide) (by simp only [List.map_cons, List.map_nil, jav, hnil]; rfl) bR (ja3 (by decide) bR sR2) ?_; rintro _ L4 ⟨rfl, nm4, hn4, hM4⟩ _; refine ⟨(4, 6, [x.c]) :: L4, jao [_] (jbc bR (by simp)), ?_⟩; have bL4 := hM4.blk; have F5 := bF bL4; have G5 := bN bL4; have K5 := bK bL4; simp only [F5, G5, K5, go_sem]; refine jab ((i + 1, nm4, _), L4) ?_ (SubR.of_eq rfl) rfl (by show M - (i + 1) < M - i; omega) ⟨hlti, hn4, by dsimp only; rw [jea, <- hkd0, <- List.append_assoc]; exact hM4⟩; simp only [hi1, Int.natCast_add, go_sem]
   ·obtain ⟨hrA, hLA⟩ := nR2 hn; have hs0 := jcd (A := A) hn; have htk : List.take (jag M x.fr i e.moves (mv + 1)).length ((jag M x.fr i e.moves (mv + 1)).map tmC) = (jag M x.fr i e.moves (mv + 1)).map tmC := List.take_of_length_le (by rw [List.length_map]; exact Nat.le_refl _); have ndA : ¬ nm.d = A := fun e => by have h1 := hdd; rw [e, hLA] at h1; cases h1
    have bn4 : (4 != hp A) = true := by simp only [bne_iff_ne, ne_eq]; exact hp_ne (by decide)
    obtain ⟨Q, hQe⟩ : ∃ Q, Abs.del R2 (hp A) = Q := ⟨_, rfl⟩; have hQf : List.filter (fun p => p.1 != hp A) R2 = Q := hQe; have bQ : blks Q := hQe ▸ jbf bR2; have sQ := hQe ▸ jfw sR2 hLA; have F3 := bF bQ; have K3 := bK bQ; have G3 := bN bQ; simp only [hd, hs0, F2, K2, G2, go_sem]; refine ja1 o1 (by decide) ?_; simp only [hs0, hrA, ndA, hQf, htk, Nat.le_refl, bn4, F2, K2, G2, F3, K3, G3, go_sem]; refine jai ka (by decide) (by simp only [List.map_cons, List.map_nil, jav]; rfl) bR (ja3 (by decide) bR sQ) ?_; rintro _ L4 ⟨rfl, nm4, hn4, hM4⟩ _; refine ⟨(4, 6, [x.c]) :: L4, jao [_] (jbc bR (by simp)), ?_⟩; have bL4 := hM4.blk; have F5 := bF bL4; have G5 := bN bL4; have K5 := bK bL4; simp only [F5, G5, K5, go_sem]; refine jab ((i + 1, nm4, _), L4) ?_ (SubR.of_eq rfl) rfl (by show M - (i + 1) < M - i; omega) ⟨hlti, hn4, by dsimp only; rw [jea, <- hkd0, <- List.append_assoc]; exact hM4⟩; simp only [hi1, Int.natCast_add, go_sem]
  have hdi : decide ((i : Int) < M) = false := decide_eq_false (by omega); have hiM : i = M := by omega
  subst hiM; simp only [hdi, go_sem]; refine jba ?_; simp only [go_sem]; exact ⟨nm1, os1, hnd, hR.sub jd9 (jid bR (ja3 (by decide) bR (SubR.refl _)))⟩
end
end
end Go.Proofs.YtfahloobpegieaaGreat
namespace Go.Abs
section
open Go.RowKit (Below)
def frzL : List Nat -> IV -> Rows -> IV
 | [], y, _ => y
 | b :: bs, y, L => match look L (hp b) with
  | some (s, es) => frzL bs (frz3 b s es y) (del L (hp b))
  | none => frzL bs y L
theorem jfr (y : IV) (L : Rows) : frzL [] y L = y := rfl
theorem jdm {b s : Nat} {es : List (List IV)} {bs : List Nat} {y : IV} {L : Rows} (h : look L (hp b) = some (s, es)) : frzL (b :: bs) y L = frzL bs (frz3 b s es y) (del L (hp b)) := by rw [frzL, h]
theorem jlg {w' : World} {M : Nat -> Nat -> Prop} {v : Value} : ∀ (bs : List Nat) (y : IV) (L : Rows), (∀ k s es, look L k = some (s, es) -> ∃ b, k = hp b /\ (∀ o, ¬ M b o) /\ RowRep w' (MoH M L) b s es) -> Rep w' (MoH M L) y v -> Rep w' M (frzL bs y L) v
 | [], y, L, _, hy => hy.kept (Kept.less w' fun b o h => .inl h)
 | b :: bs, y, L, hL, hy => by
  cases hl : look L (hp b) with
  | none =>
   rw [show frzL (b :: bs) y L = frzL bs y L by rw [frzL, hl]]; exact jlg bs y L hL hy
  | some p =>
   obtain ⟨s, es⟩ := p; rw [jdm hl]; have hless : ∀ b' o, MoH M (del L (hp b)) b' o -> MoH M L b' o := fun b' o h => by
    rcases h with h | h
    ·exact .inl h
    ·by_cases e : hp b' = hp b
     ·rw [e, ja6] at h; cases h
     ·rw [ja5 _ e] at h; exact .inr h
   have hk := Kept.less w' hless; obtain ⟨b', e, hn, hrow⟩ := hL _ _ _ hl; have hbb := hp_inj.1 e; subst hbb; have hnm : ∀ o, ¬ MoH M (del L (hp b)) b o := fun o h => by
    rcases h with h | h
    ·exact hn o h
    ·rw [ja6] at h; cases h
   refine jlg bs _ _ (fun k s' es' hk' => ?_) (jp5 (hrow.move hk rfl) hnm (hy.kept hk)); by_cases e : k = hp b
   ·subst e; rw [ja6] at hk'; cases hk'
   ·rw [ja5 _ e] at hk'; obtain ⟨b2, h1, h2, h3⟩ := hL k s' es' hk'; exact ⟨b2, h1, h2, h3.move hk rfl⟩
theorem jlz {P : Program} {f : FuncId} {xs : List IV} {φ : AV -> Rows -> Prop} {ψ : IV -> Prop} (h : CtrH P f (xs.map AV.im) [] φ) (hφ : ∀ r L', φ r L' -> ∃ y bs, r = .im y /\ ψ (frzL bs y L')) : Ctr P f xs ψ := fun w M vs hM hr => by
 have hr' := hr; refine (h w M vs hM (fun k s es hk => by cases hk) (by rw [List.length_map]; exact hr.1.symm) (fun i av v hi hv => ?_)).mono ?_
 ·rw [List.getElem?_map] at hi; obtain ⟨x, hx, rfl⟩ := Option.map_eq_some_iff.1 hi; exact (hr.2 i x v hx hv).kept (Kept.less w fun b o h => h.elim id fun h => by cases h)
 ·rintro en w' ⟨r, v, L', g1, g2, g3, g4, g5, g6⟩; obtain ⟨y, bs, rfl, hψ⟩ := hφ r L' g1; refine ⟨_, v, hψ, g2, jlg bs y L' (fun k s es hk => ?_) g6, ?_⟩
  ·obtain ⟨b, h1, h2, h3⟩ := g5 k s es hk; refine ⟨b, h1, fun o hm => ?_, h3⟩; rcases h2 with h2 | h2
   ·cases h2
   ·have := hM b o hm; omega
  ·exact ⟨g4.os, g4.tape, g4.output, g4.size, fun k hk => g4.block k ⟨hk, rfl⟩⟩
end
end Go.Abs
namespace Go.Proofs.YtfahloobpegieaaGreat
section
open Go.Abs
theorem jcw {e : Evid} (h : jcq e = 0) : (pairs e).all fitP = true /\ 1 <= e.mats /\ 0 <= e.houses /\ 0 <= e.scales /\ e.places.all (jhe e) = true /\ jd8 e 0 e.moves = 0 /\ saidF e = true := by
 unfold jcq at h; split at h
 ·cases h
 ·split at h
  ·cases h
  ·split at h
   ·cases h
   ·split at h
    ·cases h
    ·split at h
     ·cases h
     ·split at h
      ·rename_i h6; exact absurd h h6
      ·split at h
       ·rename_i h1 h2 h3 h4 h5 h6 h7; simp at h1 h2 h3 h4 h5 h6; exact ⟨by simpa using h1, by omega, by omega, by omega, by simpa using h5, h6, h7⟩
       ·cases h
theorem jph {e : Evid} : ∀ {ms : List Move} {d : Int}, jd8 e d ms = 0 -> ∀ m ∈ ms, moveF e m = true
 | [], _, _, m, hm => by cases hm
 | x :: r, d, h, m, hm => by
  rw [jd8] at h; split at h
  ·cases h
  ·split at h
   ·cases h
   ·split at h
    ·cases h
    ·rename_i h3; rcases List.mem_cons.1 hm with rfl | hm
     ·simpa using h3
     ·exact jph h m hm
theorem check_moves {e : Evid} (h : jcq e = 0) : ∀ x ∈ e.moves, (0 <= x.fr /\ x.fr < (e.places.length : Int)) /\ (0 <= x.to /\ x.to < (e.places.length : Int)) := by
 intro x hx; have := jph (jcw h).2.2.2.2.2.1 x hx; simp only [moveF, Bool.and_eq_true, jnv] at this; exact ⟨this.1.1.1.1.1.1.1, this.1.1.1.1.1.1.2⟩
theorem purF_iff {e : Evid} {p : Purity} : purF e p = true ↔ (0 <= p.move /\ p.move < (e.moves.length : Int)) /\ (0 <= p.mat /\ p.mat < e.mats) /\ 0 <= p.least /\ p.least <= p.most /\ p.most <= 1000 := by
 simp only [purF, Bool.and_eq_true, jnv, Bool.not_eq_true', decide_eq_false_iff_not]; omega
theorem jkx {e : Evid} (h : jcq e = 0) : ∀ p ∈ e.purs, purF e p = true := by
 have := (jcw h).2.2.2.2.2.2; simp only [saidF, Bool.and_eq_true, List.all_eq_true] at this; exact this.2
end
section
open Go.Abs
open Go.LP (Rw RT tsum)
attribute [local go_sem] ints ic big frac fc Evid.c Evid.iv Place.c Move.c Cert.c Recall.c Purity.c
theorem jiz {e : Evid} {M mv : Nat} {x : Move} : (jel e M mv x).length <= 2 := by
 unfold jel; split
 ·exact Nat.zero_le _
 ·split <;> simp
theorem jjb {e : Evid} {M : Nat} : ∀ i, (rowsU e M i).length <= i * (M + 2 + 2 * e.purs.length)
 | 0 => Nat.zero_le _
 | i + 1 => by
  have ih := jjb (e := e) (M := M) i; rw [rowsU, Nat.succ_mul]; split
  ·rename_i x _; have h1 : (moveR e M i x).length <= M + 2 + 2 * e.purs.length := by
    unfold moveR; rw [List.length_append, List.length_append]; have h2 : (if binF e x = true then [] else jea M e.moves i x M).length <= M := by
     split
     ·exact Nat.zero_le _
     ·rw [jek]; exact Nat.le_refl _
    have h3 : (jel e M i x).length <= 2 := by
     unfold jel; split
     ·exact Nat.zero_le _
     ·split <;> simp
    have h4 := jlh (M := M) (mv := i) e.purs; omega
   rw [List.length_append]; omega
  ·omega
section
variable {e : Evid} {M : Nat}
set_option maxHeartbeats 8000000 in
theorem e_made (hc : jcq e = 0) (hM : e.mats = (M : Int)) (hml : e.moves.length <= 10) :
  CtrH G.P 74 [.im e.iv] [] (fun r L' => ∃ (nm : MN) (os : List (List IV)), r = .loc (hp nm.d) 10 0 0 /\ HasM L' nm e (rowsE e) os) := by
 obtain ⟨hfit, hm1, _⟩ := jcw hc; obtain ⟨l1, l2, l3, l4, l5, l6, l7, l8⟩ := jlv hfit; have hmv := check_moves hc; have hpu : ∀ p ∈ e.purs, 0 <= p.least /\ p.least <= 1000 /\ 0 <= p.most /\ p.most <= 1000 := fun p hp => by
  have := purF_iff.1 (jkx hc p hp); omega
 have hMe : e.mats.toNat = M := by omega
 have hrE : rowsE e = rowsU e M e.moves.length := by unfold rowsE; rw [hMe]
 refine jb7 (goodH [8] []) _ _ [.tmp 2] Tryz.func74 rfl rfl (by decide +kernel) rfl ?_; simp only [go_sem]; refine jk7 (fun d hd => ?_); clear hd; simp only [go_sem]; have hM0 : HasM [(hp d, 10, [e.c ++ [.emp, .emp]])] ⟨d, 0, 0⟩ e (rowsU e M 0) [] := ⟨jan jby, fun h => absurd rfl h, fun h => absurd rfl h, fun h => absurd rfl h, rfl, (fun c hc => by cases hc), ja2 _ _ _, fun h => absurd rfl h, fun h => absurd rfl h⟩; refine jb4 [1, 3, 10, 11, 12] (fun g : (Nat × MN × List (List IV)) × Abs.Rows => ⟨[(1, .loc 1 8 0 0), (3, .loc (hp d) 10 0 0), (10, .im (.sl (e.moves.map Move.c))), (11, .im (.int e.moves.length)), (12, .im (.int g.1.1))], (1, 8, [e.c]) :: g.2, []⟩)
  (fun g => g.1.1 <= e.moves.length /\ g.1.2.1.d = d /\ HasM g.2 g.1.2.1 e (rowsU e M g.1.1) g.1.2.2) (fun g => e.moves.length - g.1.1) ((0, _, _), _) ?_ ?_ rfl ⟨Nat.zero_le _, rfl, hM0⟩ ?_
 ·simp only [Int.natCast_zero, go_sem]
 ·show SubR ((1, 8, [e.c]) :: [(hp d, 10, [e.c ++ [.emp, .emp]])]) [(hp d, 10, [e.c ++ [.emp, .emp]]), (1, 8, [e.c])]; refine jb2 ?_ (jaz _ jc8); rw [ja0 _ _ (hp_ne (by decide)), ja2]
 clear hM0; rintro ⟨⟨i, nm1, os1⟩, R⟩ ⟨hi, hnd, hR⟩; dsimp only at hi hnd hR; have bR := hR.blk; have F1 := bF bR; have K1 := bK bR; have G1 := bN bR; rcases Nat.lt_or_ge i e.moves.length with hlt | hlt
 ·have hd : decide ((i : Int) < e.moves.length) = true := decide_eq_true (by omega); have h1 := jaa (n := (i : Int) + 1) (by omega); obtain ⟨x, hx⟩ := jdq (l := e.moves) (i := i) (by omega); obtain ⟨⟨f1, f2⟩, _⟩ := hmv x (List.mem_of_getElem? hx); obtain ⟨pl, hpl⟩ : ∃ pl, e.places[x.fr.toNat]? = some pl := ⟨_, List.getElem?_eq_getElem (by omega)⟩; have hsucc : rowsU e M (i + 1) = rowsU e M i ++ moveR e M i x := by rw [rowsU, hx]
  have hlen := jjb (e := e) (M := M) i; have hlen2 : (rowsU e M i).length <= 4300 := by
   have h2 : i * (M + 2 + 2 * e.purs.length) <= 10 * 428 := Nat.mul_le_mul (by omega) (by omega); omega
  have hbin : binF e x = decide (pl.kind = 0) := by unfold binF; rw [hpl]; rfl
  rcases hk : decide (pl.kind = 0) with _ | _
  ·simp only [hd, hx, f1, f2, hpl, hk, List.getElem?_map, List.length_map, F1, K1, G1, go_sem]; have k1 := e_stock hR hM i x hx (by omega) (by omega) (by omega) (by omega); rw [hnd] at k1; refine jai k1 (by decide) (by simp only [List.map_cons, List.map_nil, jav]; rfl) bR (ja3 (by decide) bR (ja3 (by decide) bR (SubR.refl _))) ?_; rintro _ L1 ⟨rfl, nm2, os2, hn2, hM2⟩ _; refine ⟨(5, 6, [x.c]) :: (1, 8, [e.c]) :: L1, jao [_, _] (jbc bR (by simp)), ?_⟩; have bL1 := hM2.blk; have F1x := bF bL1; have G1x := bN bL1; have K1x := bK bL1; simp only [F1x, G1x, K1x, go_sem]; have k2 := jpa hM2 hM i x hx (by omega) (by omega) (by omega) (by rw [List.length_append, jek]; omega) (by omega) (by omega) (by omega); rw [hn2] at k2; refine jai k2 (by decide) (by simp only [List.map_cons, List.map_nil, jav]; rfl) bL1 (ja3 (by decide) bL1 (ja3 (by decide) bL1 (SubR.refl _))) ?_; rintro _ L2 ⟨rfl, nm3, os3, hn3, hM3⟩ _; refine ⟨(5, 6, [x.c]) :: (1, 8, [e.c]) :: L2, jao [_, _] (jbc bL1 (by simp)), ?_⟩; have bL2 := hM3.blk; have F2x := bF bL2; have G2x := bN bL2; have K2x := bK bL2; simp only [F2x, G2x, K2x, go_sem]; have k3 := e_pur hM3 hM i (by omega) (by omega) (by rw [List.length_append, List.length_append, jek]; have := jiz (e := e) (M := M) (mv := i) (x := x); omega) (by omega) hpu; rw [hn3] at k3; refine jai k3 (by decide) (by simp only [List.map_cons, List.map_nil, jav]; rfl) bL2 (ja3 (by decide) bL2 (ja3 (by decide) bL2 (SubR.refl _))) ?_; rintro _ L3 ⟨rfl, nm4, os4, hn4, hM4⟩ _
   refine ⟨(5, 6, [x.c]) :: (1, 8, [e.c]) :: L3, jao [_, _] (jbc bL2 (by simp)), ?_⟩; have bL3 := hM4.blk; have F3x := bF bL3; have G3x := bN bL3; have K3x := bK bL3; simp only [F3x, G3x, K3x, go_sem]; have hmr : moveR e M i x = jea M e.moves i x M ++ jel e M i x ++ purR M i e.purs := by unfold moveR; rw [hbin, hk, if_neg (by decide)]
   rw [hmr] at hsucc; refine jab ((i + 1, nm4, os4), L3) ?_ (jam (by dsimp only; rw [ja0 _ _ (by decide)]; exact jax bL3 (by decide)) (SubR.of_eq rfl)) rfl (by show e.moves.length - (i + 1) < e.moves.length - i; omega) ⟨hlt, hn4, by dsimp only; rw [hsucc, <- List.append_assoc, <- List.append_assoc]; exact hM4⟩; simp only [h1, Int.natCast_add, go_sem]
  ·simp only [hd, hx, f1, f2, hpl, hk, List.getElem?_map, List.length_map, F1, K1, G1, go_sem]; have k2 := jpa hR hM i x hx (by omega) (by omega) (by omega) (by omega) (by omega) (by omega) (by omega); rw [hnd] at k2; refine jai k2 (by decide) (by simp only [List.map_cons, List.map_nil, jav]; rfl) bR (ja3 (by decide) bR (ja3 (by decide) bR (SubR.refl _))) ?_; rintro _ L2 ⟨rfl, nm3, os3, hn3, hM3⟩ _; refine ⟨(5, 6, [x.c]) :: (1, 8, [e.c]) :: L2, jao [_, _] (jbc bR (by simp)), ?_⟩; have bL2 := hM3.blk; have F2x := bF bL2; have G2x := bN bL2; have K2x := bK bL2; simp only [F2x, G2x, K2x, go_sem]; have k3 := e_pur hM3 hM i (by omega) (by omega) (by rw [List.length_append]; have := jiz (e := e) (M := M) (mv := i) (x := x); omega) (by omega) hpu; rw [hn3] at k3; refine jai k3 (by decide) (by simp only [List.map_cons, List.map_nil, jav]; rfl) bL2 (ja3 (by decide) bL2 (ja3 (by decide) bL2 (SubR.refl _))) ?_; rintro _ L3 ⟨rfl, nm4, os4, hn4, hM4⟩ _; refine ⟨(5, 6, [x.c]) :: (1, 8, [e.c]) :: L3, jao [_, _] (jbc bL2 (by simp)), ?_⟩; have bL3 := hM4.blk; have F3x := bF bL3; have G3x := bN bL3; have K3x := bK bL3; simp only [F3x, G3x, K3x, go_sem]; have hmr : moveR e M i x = jel e M i x ++ purR M i e.purs := by unfold moveR; rw [hbin, hk, if_pos rfl, List.nil_append]
   rw [hmr] at hsucc; refine jab ((i + 1, nm4, os4), L3) ?_ (jam (by dsimp only; rw [ja0 _ _ (by decide)]; exact jax bL3 (by decide)) (SubR.of_eq rfl)) rfl (by show e.moves.length - (i + 1) < e.moves.length - i; omega) ⟨hlt, hn4, by dsimp only; rw [hsucc, <- List.append_assoc]; exact hM4⟩; simp only [h1, Int.natCast_add, go_sem]
 have hd : decide ((i : Int) < e.moves.length) = false := decide_eq_false (by omega); have hiM : i = e.moves.length := by omega
 subst hiM; simp only [hd, go_sem]; refine jbd R bR (ja3 (by decide) bR (SubR.refl _)) ?_; simp only [go_sem]; refine ⟨nm1, os1, by rw [hnd], ?_⟩; rw [hrE]; exact hR
def sysIV (e : Evid) : IV := if jcq e = 0 then .tup [.agg [.int ((e.moves.length * e.mats.toNat : Nat) : Int), .sl ((rowsE e).map rwC)], .int 0] else .tup [.agg [.int 0, .sl []], .int (jcq e)]
set_option maxHeartbeats 4000000 in
theorem e_System (hml : jcq e = 0 -> e.moves.length <= 10) : Ctr G.P 23 [e.iv] (· = sysIV e) := by
 have hck := c21 e; unfold sysIV; by_cases hc : jcq e = 0
 ·obtain ⟨hfit, hm1, _⟩ := jcw hc; obtain ⟨l1, l2, l3, l4, l5, l6, l7, l8⟩ := jlv hfit; obtain ⟨M, hM⟩ : ∃ M : Nat, e.mats = (M : Int) := ⟨e.mats.toNat, by omega⟩; have hMe : e.mats.toNat = M := by omega
  have hml' := hml hc; have km := e_made hc hM hml'; rw [if_pos hc, hMe]; rw [hc] at hck; have hpr : e.moves.length * M <= 10 * 6 := Nat.mul_le_mul hml' (by omega); have w1 : IntKind.i64.wrap ((e.moves.length : Int) * e.mats) = ((e.moves.length * M : Nat) : Int) := by
   rw [hM, <- Int.natCast_mul]; exact jaa (by omega)
  refine jlz (φ := fun r L' => ∃ (y : IV) (bs : List Nat), r = .im y /\ frzL bs y L' = .tup [.agg [.int ((e.moves.length * M : Nat) : Int), .sl ((rowsE e).map rwC)], .int 0]) ?_ (fun r L' ⟨y, bs, h1, h2⟩ => ⟨y, bs, h1, h2⟩); simp only [List.map_cons, List.map_nil]; refine jb7 (goodH [] []) _ _ [.cell 2 69, .tmp 3] Tryz.func23 rfl rfl (by decide +kernel) rfl ?_; simp only [go_sem]; refine ja1 hck (by decide) ?_; simp only [go_sem]; refine jgt [false, false, false, false, false, false, false, true, true, true, true] [(1, 8, [e.c])] (by decide +kernel) (by decide +kernel) ?_ ?_
  ·exact jam rfl (SubR.of_eq rfl)
  simp only [w1, List.length_map, go_sem]; refine jci km (by decide) (by simp only [List.map_cons, List.map_nil, List.append_nil]; rfl) jby jc8 ?_; rintro _ L1 ⟨nm, os, rfl, hH⟩ _; refine ⟨(2, 2, [[.int 0, .emp]]) :: (1, 8, [e.c]) :: L1, Behind_pre1 (pre := [_, _]), ?_⟩; have bL1 := hH.blk; have F1 := bF bL1; have K1 := bK bL1; have G1 := bN bL1; have n2 : ∀ k, (2 != hp k) = true := fun k => by simp only [bne_iff_ne, ne_eq]; exact hp_ne (by decide)
  have n1 : ∀ k, (1 != hp k) = true := fun k => by simp only [bne_iff_ne, ne_eq]; exact hp_ne (by decide)
  have hd0 := hH.hd; have hsub : SubR [(1, 8, [e.c])] ((2, 2, [[.int 0, .emp]]) :: (1, 8, [e.c]) :: L1) := jam rfl (jak (ja2 _ _ _)); unfold Evid.c at hd0 hsub; have bn : ∀ k, ¬ (2 = hp k) /\ ¬ (1 = hp k) := fun k => ⟨hp_ne (by decide), hp_ne (by decide)⟩; rcases Nat.eq_zero_or_pos (rowsE e).length with h0 | h0
  ·rw [h0, jb9, jb9] at hd0; rw [List.length_eq_zero_iff.1 h0]; simp only [hd0, F1, K1, G1, n1, n2, go_sem]; refine ⟨hsub, hsub, hsub, hsub, ?_⟩; refine jba ?_; simp only [go_sem]; refine ⟨_, [nm.d], rfl, ?_⟩; rw [jdm (s := 10) (by rw [jaf, ja0 _ _ (hp_ne (by decide)).symm, ja0 _ _ (hp_ne (by decide)).symm]; exact hd0), jfr]; simp only [frz3, frz2, frz1, List.map_cons, List.map_nil]
  ·have hr0 := hH.hr (by omega); rw [jal (by omega), jal (by omega)] at hd0; simp only [hd0, hr0, F1, K1, G1, n1, n2, go_sem]; refine ⟨hsub, hsub, hsub, hsub, ?_⟩; refine jba ?_; simp only [go_sem]; refine ⟨_, [nm.r], rfl, ?_⟩; rw [jdm (s := 6) (by rw [jaf, ja0 _ _ (hp_ne (by decide)).symm, ja0 _ _ (hp_ne (by decide)).symm]; exact hr0), jfr]; have e1 : (List.take (rowsE e).length ((rowsE e).map rwC)) = (rowsE e).map rwC := List.take_of_length_le (by rw [List.length_map]; exact Nat.le_refl _); simp only [frz3, frz2, frz1, List.map_cons, List.map_nil, List.length_map, Nat.le_refl, and_self, if_true, e1]
 ·rw [if_neg hc]; generalize jcq e = k at *; have hk : decide (k = 0) = false := decide_eq_false hc; refine jac good _ _ [.cell 2 69, .tmp 3] Tryz.func23 rfl rfl (by decide +kernel) rfl ?_; unfold Evid.iv Evid.c at *; simp only [go_sem]; refine ja1 hck (by decide) ?_; simp only [hk, go_sem]
end
end
end Go.Proofs.YtfahloobpegieaaGreat
