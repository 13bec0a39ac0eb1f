/- A part of the proof: what functions of the program do, and the layer under it. No further condition. -/
import Derived.Test.YtnjkhiafjcajaaaGreatKX20
import Derived.Test.YtnjkhiafjcajaaaGreatKX19
import Derived.Test.YtnjkhiafjcajaaaGreatKX18
namespace Go.Proofs.YtnjkhiafjcajaaaGreat
set_option linter.all false
open Go.Abs

theorem Behind_pre {L L' : Abs.Rows} : ∀ (pre : Abs.Rows), (∀ p ∈ pre, Abs.look L p.1 = none) → Behind (pre ++ L) L L' (pre ++ L')
  | [], _ => fun _ _ h => .inl h
  | (j, v) :: pre, hp => fun k x h => by
    by_cases e : k = j
    · subst e
      rw [List.cons_append, look_cons_same] at h ⊢
      exact .inr ⟨hp _ (List.mem_cons_self ..), h⟩
    · rw [List.cons_append, look_cons_ne _ _ e] at h ⊢
      exact Behind_pre pre (fun p h => hp p (List.mem_cons_of_mem _ h)) k x h
set_option maxRecDepth 100000 in
set_option maxHeartbeats 4000000 in
theorem h_check (e : Evid) (h : List (List Raw)) (H : List (List Rat)) (h0 : checkF e = 0) (hs : shapedF e h = true) (hh : h.map rowC = H.map stC) (hHl : H.length = e.moves.length)
    (hH : ∀ l ∈ H, l.length = e.mats.toNat ∧ ∀ r ∈ l, FL 3 r) (hsz : ∀ l ∈ h, ∀ x ∈ l, x.l.length ≤ 50000 ∧ x.m.length ≤ 50000) (hrow : ∀ l ∈ h, l.length ≤ 100000) (hmv : e.moves.length ≤ 1000) (hpl : e.places.length ≤ 1000)
    (hm1 : 0 ≤ e.mats) (hm2 : e.mats ≤ 100) (hce : e.certs.length ≤ 100000) (hre : e.recalls.length ≤ 100000) (hpe : e.purs.length ≤ 100000) (hmove : ∀ x ∈ e.moves, (0 ≤ x.fr ∧ x.fr < (e.places.length : Int)) ∧ (0 ≤ x.to ∧ x.to < (e.places.length : Int)))
    (hpur : ∀ p ∈ e.purs, (0 ≤ p.mat ∧ p.mat < e.mats) ∧ (-9223372036854775808 ≤ p.least ∧ p.least ≤ 9223372036854775807) ∧ (-9223372036854775808 ≤ p.most ∧ p.most ≤ 9223372036854775807)) :
    Ctr G.P 14 [e.iv, hist h] (· = .int (histGo e H (List.replicate e.places.length (List.replicate e.mats.toNat ((0 : Int) : Rat))) 0 e.moves)) := by
  have k1 := c21 e
  rw [h0] at k1
  have k2 := h_shaped e h (by have := congrArg List.length hh; simp at this; omega) hrow hsz
  rw [hs] at k2
  have k3 := h_none e hpl hm1 (by omega)
  unfold hist at k2 ⊢
  rw [hh] at k2 ⊢
  have hS0 : Stk e.places.length e.mats.toNat (List.replicate e.places.length (List.replicate e.mats.toNat ((0 : Int) : Rat))) := ⟨by simp, fun r hr => by rw [(List.mem_replicate.1 hr).2]; simp⟩
  have hF0 : ∀ r ∈ List.replicate e.places.length (List.replicate e.mats.toNat ((0 : Int) : Rat)), ∀ x ∈ r, FL 4 x := fun r hr x hx => by
    rw [(List.mem_replicate.1 hr).2] at hx
    rw [(List.mem_replicate.1 hx).2]; exact FL_small (by omega)
  have hst := stN_ok hS0 hF0 hmove hH
  generalize List.replicate e.places.length (List.replicate e.mats.toNat ((0 : Int) : Rat)) = S0 at *
  simp only [Evid.iv, Evid.c] at k1 k2 k3
  refine ctrf_go (goodH [] []) _ _ [.tmp 4] Tryz.func14 rfl rfl (by decide +kernel) rfl ?_
  unfold Evid.iv Evid.c
  simp only [go_sem, Evid.iv, Evid.c, Move.c, Place.c, ints, ic, big, frac, fc, Raw.c]
  refine CallP_eq k1 (by decide) ?_
  simp only [go_sem, Evid.iv, Evid.c, Move.c, Place.c, ints, ic, big, frac, fc, Raw.c]
  refine CallP_eq k2 (by decide) ?_
  simp only [go_sem, Evid.iv, Evid.c, Move.c, Place.c, ints, ic, big, frac, fc, Raw.c]
  refine CallP_h k3 (by decide) rfl (fun _ _ h => by cases h) (fun _ _ h => by cases h) ?_
  rintro r L' ⟨b0, bs, rfl, hnd, hbl, rfl⟩ hfresh
  refine ⟨(2, 8, [e.c]) :: stRows 57 b0 bs S0 e.mats.toNat, ?_, ?_⟩
  · intro k x hk
    by_cases e2 : k = 2
    · subst e2
      rw [look_cons_same] at hk
      exact .inr ⟨rfl, by rw [← hk]; exact look_cons_same _ _ _⟩
    · rw [look_cons_ne _ _ e2] at hk; exact .inl hk
  clear hfresh k1 k2 k3
  have F1 := fun (S : List (List Rat)) (d : Nat) (h : d < 100000) => st_filter (t := 57) (b0 := b0) (bs := bs) (S := S) (n := e.mats.toNat) h
  have G1 := fun (S : List (List Rat)) (d : Nat) (h : d < 100000) => st_low (t := 57) (b0 := b0) (bs := bs) (S := S) (n := e.mats.toNat) h
  have K1 := fun (S : List (List Rat)) (d s : Nat) (es : List (List IV)) (h : d < 100000) => st_setlow (t := 57) (b0 := b0) (bs := bs) (S := S) (n := e.mats.toNat) (s := s) (es := es) h
  simp only [go_sem, Evid.iv, Evid.c, Move.c, Place.c, ints, ic, big, frac, fc, Raw.c]
  refine LoopH_of [1, 2, 5, 20, 21, 22] (fun i : Nat => ⟨[(1, .im (.sl (H.map stC))), (2, .loc 2 8 0 0), (5, .im (.ref b0 45 1 e.places.length)), (20, .im (.sl (e.moves.map Move.c))), (21, .im (.int e.moves.length)), (22, .im (.int i))],
      (2, 8, [e.c]) :: stRows 57 b0 bs (stN e.moves H e.mats.toNat S0 i) e.mats.toNat, []⟩)
    (fun i => i ≤ e.moves.length ∧ histGo e H S0 0 e.moves = histGo e H S0 i (e.moves.drop i)) (fun i => e.moves.length - i) 0 ?_ ?_ rfl ⟨Nat.zero_le _, rfl⟩ ?_
  · simp only [Int.natCast_zero, go_sem, Evid.iv, Evid.c, Move.c, Place.c, ints, ic, big, frac, fc, Raw.c]
  · exact SubR.of_eq rfl
  · intro i ⟨hi, ha⟩
    by_cases hp : (i : Int) < e.moves.length
    · have hd : decide ((i : Int) < e.moves.length) = true := decide_eq_true hp
      obtain ⟨x, hx⟩ := at_nat hp
      obtain ⟨l, hl⟩ : ∃ l, H[i]? = some l := ⟨_, List.getElem?_eq_getElem (by omega)⟩
      have hiH : (i : Int) < H.length := by omega
      have h1 := i64_ok (n := (i : Int) + 1) (by omega)
      obtain ⟨⟨hS1, hS2⟩, hl2⟩ := And.intro (hst i) (hH l (List.mem_of_getElem? hl))
      obtain ⟨⟨p1, p2⟩, p3, p4⟩ := hmove x (List.mem_of_getElem? hx)
      obtain ⟨hll, hlF⟩ := hl2
      have hsucc := stN_succ (n := e.mats.toNat) (S := S0) hx hl
      obtain ⟨pl, hpk⟩ : ∃ pl, e.places[x.fr.toNat]? = some pl := ⟨_, List.getElem?_eq_getElem (by omega)⟩
      have hgo : histGo e H S0 i (e.moves.drop i) = if l.any negF = true then 3 else if takenF pl.kind ((stN e.moves H e.mats.toNat S0 i).getD x.fr.toNat []) x l ≠ 0 then takenF pl.kind ((stN e.moves H e.mats.toNat S0 i).getD x.fr.toNat []) x l
          else if weighedF e x (sumF l) = false then 24 else if pureF e i l (sumF l) = false then 13 else histGo e H S0 (i + 1) (e.moves.drop (i + 1)) := by
        rw [drop_cons hx, histGo, hl, hpk]; rfl
      rw [hgo] at ha
      clear hgo
      generalize hS1e : stN e.moves H e.mats.toNat S0 (i + 1) = S1 at *
      generalize stN e.moves H e.mats.toNat S0 i = S at *
      obtain ⟨a, hat⟩ : ∃ a, S[x.fr.toNat]? = some a := ⟨_, List.getElem?_eq_getElem (by rw [hS1.1]; omega)⟩
      have hag : S.getD x.fr.toNat [] = a := by rw [List.getD_eq_getElem?_getD, hat]; rfl
      rw [hag] at ha
      have hal : a.length = e.mats.toNat := hS1.2 a (List.mem_of_getElem? hat)
      have q1 := h_negative l (by omega) (fun r hr => (hlF r hr).mono (by omega))
      have q2 := h_takenH b0 e.places.length e.mats.toNat bs e S x l a pl hnd hS1 hbl p1 p2 hpk hat (by omega) (by omega) (fun r hr => (hlF r hr).mono (by omega)) (fun r hr => (hS2 a (List.mem_of_getElem? hat) r hr).mono (by omega))
      have q3 := h_sum l (by omega) (fun r hr => (hlF r hr).mono (by omega))
      have hms : FL 9000 (sumF l) := (FL_sumF hlF).mono (by omega)
      have q4 := h_weighed e x (sumF l) (hms.mono (by omega)) hce hre
      have q5 := h_pure e i l (sumF l) hpe hms (fun r hr => (hlF r hr).mono (by omega)) (fun p hp => ⟨⟨(hpur p hp).1.1, by have := (hpur p hp).1.2; omega⟩, (hpur p hp).2⟩)
      have q6 := h_carry b0 bs S x l e.places.length e.mats.toNat (4 + 8 * i) hnd hS1 hbl hpl (by omega) ⟨p1, p2⟩ ⟨p3, p4⟩ hll hlF (SL.of_all hS2) (by omega)
      rw [← hsucc] at q6
      generalize takenF pl.kind a x l = tk at *
      generalize l.any negF = ng at *
      generalize weighedF e x (sumF l) = wt at *
      generalize pureF e i l (sumF l) = pt at *
      generalize sumF l = mass at *
      unfold fcs at q1 q2 q3 q5 q6
      simp only [frac, ints, Evid.iv, Evid.c, Move.c] at q1 q2 q3 q4 q5 q6
      clear hst hsz hrow hmove hpur
      simp only [hd, List.getElem?_map, hx, hl, hiH, stC, F1, G1, K1, go_sem, Evid.iv, Evid.c, Move.c, Place.c, ints, ic, big, frac, fc, Raw.c]
      refine CallP_eq q1 (by decide) ?_
      simp only [hd, F1, G1, K1, go_sem, Evid.iv, Evid.c, Move.c, Place.c, ints, ic, big, frac, fc, Raw.c]
      refine Two_of (fun c1 => ?_) (fun c1 => ?_)
      · subst c1
        rw [if_pos rfl] at ha
        simp only [go_sem, Evid.iv, Evid.c, Move.c, Place.c, ints, ic, big, frac, fc, Raw.c]
        refine RetF_of [] ?_
        simp only [ha, go_sem, Evid.iv, Evid.c, Move.c, Place.c, ints, ic, big, frac, fc, Raw.c]
      subst c1
      rw [if_neg Bool.false_ne_true] at ha
      simp only [F1, G1, K1, go_sem, Evid.iv, Evid.c, Move.c, Place.c, ints, ic, big, frac, fc, Raw.c]
      refine DrawP_of 7 (by decide +kernel) ?_
      simp only [hd, List.getElem?_map, hl, hiH, stC, F1, G1, K1, go_sem, Evid.iv, Evid.c, Move.c, Place.c, ints, ic, big, frac, fc, Raw.c]
      refine CallH_of q2 (by decide) rfl st_blks ?_ ?_
      · exact SubR_skip (by show Abs.look (stRows _ _ _ _ _) 7 = none; rw [st_low (by decide)]) (SubR_skip (by show Abs.look (stRows _ _ _ _ _) 2 = none; rw [st_low (by decide)]) (SubR.of_eq rfl))
      rintro r L' ⟨rfl, rfl⟩ hfresh
      clear hfresh
      refine ⟨(7, 6, [x.c]) :: (2, 8, [e.c]) :: stRows 57 b0 bs S e.mats.toNat, ?_, ?_⟩
      · exact Behind_pre [(7, 6, [x.c]), (2, 8, [e.c])] (by
          intro p hp
          rcases List.mem_cons.1 hp with rfl | hp
          · exact st_low (by dsimp only; decide)
          · rw [List.mem_singleton.1 hp]; exact st_low (by dsimp only; decide))
      simp only [F1, G1, K1, go_sem, Evid.iv, Evid.c, Move.c, Place.c, ints, ic, big, frac, fc, Raw.c]
      refine Two_of (fun c2 => ?_) (fun c2 => ?_)
      case refine_2 =>
        have c2' : tk ≠ 0 := of_decide_eq_false c2
        rw [if_pos c2'] at ha
        simp only [c2, go_sem, Evid.iv, Evid.c, Move.c, Place.c, ints, ic, big, frac, fc, Raw.c]
        refine RetF_of [] ?_
        simp only [ha, go_sem, Evid.iv, Evid.c, Move.c, Place.c, ints, ic, big, frac, fc, Raw.c]
      have c2' : ¬ tk ≠ 0 := fun h => h (of_decide_eq_true c2)
      rw [if_neg c2'] at ha
      simp only [c2, hd, List.getElem?_map, hl, hiH, stC, F1, G1, K1, go_sem, Evid.iv, Evid.c, Move.c, Place.c, ints, ic, big, frac, fc, Raw.c]
      refine CallP_eq q3 (by decide) ?_
      simp only [F1, G1, K1, go_sem, Evid.iv, Evid.c, Move.c, Place.c, ints, ic, big, frac, fc, Raw.c]
      refine CallP_eq q4 (by decide) ?_
      simp only [F1, G1, K1, go_sem, Evid.iv, Evid.c, Move.c, Place.c, ints, ic, big, frac, fc, Raw.c]
      refine Two_of (fun c3 => ?_) (fun c3 => ?_)
      case refine_2 =>
        subst c3
        rw [if_pos rfl] at ha
        simp only [go_sem, Evid.iv, Evid.c, Move.c, Place.c, ints, ic, big, frac, fc, Raw.c]
        refine RetF_of [] ?_
        simp only [ha, go_sem, Evid.iv, Evid.c, Move.c, Place.c, ints, ic, big, frac, fc, Raw.c]
      subst c3
      rw [if_neg (by decide)] at ha
      simp only [F1, G1, K1, go_sem, Evid.iv, Evid.c, Move.c, Place.c, ints, ic, big, frac, fc, Raw.c]
      refine DrawP_of 10 (by decide +kernel) ?_
      simp only [hd, List.getElem?_map, hl, hiH, stC, F1, G1, K1, go_sem, Evid.iv, Evid.c, Move.c, Place.c, ints, ic, big, frac, fc, Raw.c]
      refine CallD_eq q5 (by decide) ?_
      simp only [F1, G1, K1, go_sem, Evid.iv, Evid.c, Move.c, Place.c, ints, ic, big, frac, fc, Raw.c]
      refine Two_of (fun c4 => ?_) (fun c4 => ?_)
      case refine_2 =>
        subst c4
        rw [if_pos rfl] at ha
        simp only [go_sem, Evid.iv, Evid.c, Move.c, Place.c, ints, ic, big, frac, fc, Raw.c]
        refine RetF_of [] ?_
        simp only [ha, go_sem, Evid.iv, Evid.c, Move.c, Place.c, ints, ic, big, frac, fc, Raw.c]
      subst c4
      rw [if_neg (by decide)] at ha
      simp only [F1, G1, K1, go_sem, Evid.iv, Evid.c, Move.c, Place.c, ints, ic, big, frac, fc, Raw.c]
      refine DrawP_of 6 (by decide +kernel) ?_
      simp only [hd, List.getElem?_map, hl, hiH, stC, F1, G1, K1, go_sem, Evid.iv, Evid.c, Move.c, Place.c, ints, ic, big, frac, fc, Raw.c]
      refine CallH_of q6 (by decide) rfl st_blks ?_ ?_
      · exact SubR_skip (by show Abs.look (stRows _ _ _ _ _) 9 = none; rw [st_low (by decide)]) (SubR_skip (by show Abs.look (stRows _ _ _ _ _) 7 = none; rw [st_low (by decide)]) (SubR_skip (by show Abs.look (stRows _ _ _ _ _) 2 = none; rw [st_low (by decide)]) (SubR.of_eq rfl)))
      rintro r L' ⟨rfl, rfl⟩ hfresh
      clear hfresh
      refine ⟨(9, 4, [fc mass]) :: (7, 6, [x.c]) :: (2, 8, [e.c]) :: stRows 57 b0 bs S1 e.mats.toNat, ?_, ?_⟩
      · exact Behind_pre [(9, 4, [fc mass]), (7, 6, [x.c]), (2, 8, [e.c])] (by
          intro p hp
          rcases List.mem_cons.1 hp with rfl | hp
          · exact st_low (by dsimp only; decide)
          · rcases List.mem_cons.1 hp with rfl | hp
            · exact st_low (by dsimp only; decide)
            · rw [List.mem_singleton.1 hp]; exact st_low (by dsimp only; decide))
      simp only [F1, G1, K1, go_sem, Evid.iv, Evid.c, Move.c, Place.c, ints, ic, big, frac, fc, Raw.c]
      refine RoundH_of (i + 1) ?_ ?_ rfl (by omega) ⟨by omega, ha⟩
      · simp only [h1, Int.natCast_add, go_sem, Evid.iv, Evid.c, Move.c, Place.c, ints, ic, big, frac, fc, Raw.c]
      · dsimp only
        rw [hS1e]
        exact SubR_skip (by show Abs.look (_ :: stRows _ _ _ _ _) 9 = none; rw [look_cons_ne _ _ (by decide), st_low (by decide)]) (SubR_skip (by show Abs.look (_ :: stRows _ _ _ _ _) 7 = none; rw [look_cons_ne _ _ (by decide), st_low (by decide)]) (SubR.of_eq rfl))
    · have hd : decide ((i : Int) < e.moves.length) = false := decide_eq_false hp
      rw [List.drop_of_length_le (by omega), histGo] at ha
      simp only [hd, go_sem, Evid.iv, Evid.c, Move.c, Place.c, ints, ic, big, frac, fc, Raw.c]
      refine RetF_of [] ?_
      simp only [ha, go_sem, Evid.iv, Evid.c, Move.c, Place.c, ints, ic, big, frac, fc, Raw.c]
end Go.Proofs.YtnjkhiafjcajaaaGreat

namespace Go.Proofs.YtnjkhiafjcajaaaGreat
set_option linter.all false
open Go.Abs

def samples (l : List Sample) : IV := .sl (l.map Sample.c)
def recipes (l : List Recipe) : IV := .sl (l.map Recipe.c)
def shortG (s : Sample) : Bool := !decide (10 < (s.grams.length : Int))
def few19 (l : List Sample) (r : List Recipe) : Bool := (l.take 41).all shortG && (decide ((l.length : Int) ≤ 40) && decide ((r.length : Int) ≤ 40))
set_option maxRecDepth 100000 in
set_option maxHeartbeats 1000000 in
theorem c9 (l : List Sample) (r : List Recipe) : Ctr G.P 9 [samples l, recipes r] (· = .bool (few19 l r)) := by
  refine ctr_go good _ _ [.tmp 4] Tryz.func9 rfl rfl (by decide +kernel) rfl ?_
  unfold samples recipes
  simp only [go_sem, Evid.iv, Evid.c, Place.c, Move.c, Cert.c, Recall.c, Purity.c, Sample.c, Recipe.c, ints, ic]
  refine LoopP_of [0, 1, 5] [] (fun i : Nat => ⟨[(0, .im (.sl (l.map Sample.c))), (1, .im (.sl (r.map Recipe.c))), (5, .im (.int i))], [], []⟩)
    (fun i => i ≤ l.length ∧ i ≤ 41 ∧ (l.take i).all shortG = true) (fun i => l.length - i) 0 ?_ ⟨Nat.zero_le _, Nat.zero_le _, rfl⟩ ?_
  · simp only [Int.natCast_zero, go_sem, Evid.iv, Evid.c, Place.c, Move.c, Cert.c, Recall.c, Purity.c, Sample.c, Recipe.c, ints, ic]
  · intro i ⟨hi, h41, ha⟩
    by_cases hp : (i : Int) < l.length
    · have hd : decide ((i : Int) < l.length) = true := decide_eq_true hp
      obtain ⟨x, hx⟩ := at_nat hp
      have h1 := i64_ok (n := (i : Int) + 1) (by omega)
      by_cases hq : (i : Int) ≤ 40
      · have hr : decide ((i : Int) ≤ 40) = true := decide_eq_true hq
        simp only [hd, hr, List.getElem?_map, hx, Sample.c, ints, go_sem, Evid.iv, Evid.c, Place.c, Move.c, Cert.c, Recall.c, Purity.c, Sample.c, Recipe.c, ints, ic]
        refine Two_of (fun he => ?_) (fun he => ?_)
        · have hf : few19 l r = false := by
            have h41' : (l.take 41)[i]? = some x := by rw [List.getElem?_take, if_pos (by omega)]; exact hx
            simp [few19, all_not h41' (f := shortG) (by simp only [shortG, he, Bool.not_true])]
          simp only [hd, hr, he, hf, go_sem, Evid.iv, Evid.c, Place.c, Move.c, Cert.c, Recall.c, Purity.c, Sample.c, Recipe.c, ints, ic]
        · simp only [hd, hr, he, go_sem, Evid.iv, Evid.c, Place.c, Move.c, Cert.c, Recall.c, Purity.c, Sample.c, Recipe.c, ints, ic]
          refine RoundP_of (i + 1) ?_ (by omega) ⟨by omega, by omega, by rw [all_take_succ hx, ha]; simp only [shortG, he, Bool.not_false, Bool.and_self]⟩
          simp only [h1, Int.natCast_add, go_sem, Evid.iv, Evid.c, Place.c, Move.c, Cert.c, Recall.c, Purity.c, Sample.c, Recipe.c, ints, ic]
      · have hr : decide ((i : Int) ≤ 40) = false := decide_eq_false hq
        have h40 : decide ((l.length : Int) ≤ 40) = false := decide_eq_false (by omega)
        have hf : few19 l r = false := by simp only [few19, h40, Bool.false_and, Bool.and_false]
        simp only [hd, hr, hf, h40, go_sem, Evid.iv, Evid.c, Place.c, Move.c, Cert.c, Recall.c, Purity.c, Sample.c, Recipe.c, ints, ic]
    · have hd : decide ((i : Int) < l.length) = false := decide_eq_false hp
      have hf : few19 l r = (decide ((l.length : Int) ≤ 40) && decide ((r.length : Int) ≤ 40)) := by
        rw [List.take_of_length_le (by omega)] at ha
        rw [few19, List.take_of_length_le (by omega), ha, Bool.true_and]
      simp only [hd, hf, go_sem, Evid.iv, Evid.c, Place.c, Move.c, Cert.c, Recall.c, Purity.c, Sample.c, Recipe.c, ints, ic]
      repeat' (refine Two_dec (fun hd hp => ?_) (fun hd hp => ?_) <;> simp only [hd, go_sem, Evid.iv, Evid.c, Place.c, Move.c, Cert.c, Recall.c, Purity.c, Sample.c, Recipe.c, ints, ic])
      all_goals (rw [hf]; simp only [*, decide_true, decide_false, Bool.true_and, Bool.false_and])
end Go.Proofs.YtnjkhiafjcajaaaGreat

namespace Go.Proofs.YtnjkhiafjcajaaaGreat
set_option linter.all false
open Go.Abs

def fewX (k : Int) (x : Raw) : Bool := decide ((x.l.length : Int) ≤ k) && decide ((x.m.length : Int) ≤ k)
theorem t_few5 (x : Raw) (k : Int) : Ctr G.P 101 [.agg x.c, .int k] (· = .bool (fewX k x)) := by
  refine ctr_go good _ _ [.tmp 4] Tryz.func101 rfl rfl (by decide +kernel) rfl ?_
  unfold fewX
  simp only [List.length_map, go_sem, Evid.iv, Evid.c, Move.c, Place.c, ints, ic, big, frac, fc, Raw.c]
  repeat' (refine Two_dec (fun hd hp => ?_) (fun hd hp => ?_) <;> simp only [hd, go_sem, Evid.iv, Evid.c, Move.c, Place.c, ints, ic, big, frac, fc, Raw.c])
  all_goals simp [*]
def fewP (n k : Int) (l : List Raw) : Bool := (l.take (n.toNat + 1)).all (fewX k) && decide ((l.length : Int) ≤ n)
set_option maxRecDepth 100000 in
set_option maxHeartbeats 1000000 in
theorem t_fewPoint (l : List Raw) (n k : Int) (hn : 0 ≤ n ∧ n ≤ 100000) : Ctr G.P 43 [.sl (l.map Raw.c), .int n, .int k] (· = .bool (fewP n k l)) := by
  obtain ⟨hn1, hn2⟩ := hn
  have h5 := fun x => t_few5 x k
  refine ctr_go good _ _ [.tmp 6] Tryz.func43 rfl rfl (by decide +kernel) rfl ?_
  simp only [go_sem, Evid.iv, Evid.c, Move.c, Place.c, ints, ic, big, frac, fc, Raw.c]
  refine LoopP_of [0, 1, 2, 7] [] (fun i : Nat => ⟨[(0, .im (.sl (l.map Raw.c))), (1, .im (.int n)), (2, .im (.int k)), (7, .im (.int i))], [], []⟩)
    (fun i => i ≤ l.length ∧ i ≤ n.toNat + 1 ∧ (l.take i).all (fewX k) = true) (fun i => l.length - i) 0 ?_ ⟨Nat.zero_le _, Nat.zero_le _, rfl⟩ ?_
  · simp only [Int.natCast_zero, go_sem, Evid.iv, Evid.c, Move.c, Place.c, ints, ic, big, frac, fc, Raw.c]
  · intro i ⟨hi, h41, ha⟩
    by_cases hp : (i : Int) < l.length
    · have hd : decide ((i : Int) < l.length) = true := decide_eq_true hp
      obtain ⟨x, hx⟩ := at_nat hp
      have h1 := i64_ok (n := (i : Int) + 1) (by omega)
      have k5 := h5 x
      simp only [Raw.c] at k5
      by_cases hq : (i : Int) ≤ n
      · have hr : decide ((i : Int) ≤ n) = true := decide_eq_true hq
        simp only [hd, hr, List.getElem?_map, hx, go_sem, Evid.iv, Evid.c, Move.c, Place.c, ints, ic, big, frac, fc, Raw.c]
        refine CallP_eq k5 (by decide) ?_
        simp only [hd, hr, go_sem, Evid.iv, Evid.c, Move.c, Place.c, ints, ic, big, frac, fc, Raw.c]
        refine Two_of (fun he => ?_) (fun he => ?_)
        · simp only [hd, hr, he, go_sem, Evid.iv, Evid.c, Move.c, Place.c, ints, ic, big, frac, fc, Raw.c]
          refine RoundP_of (i + 1) ?_ (by omega) ⟨by omega, by omega, by rw [all_take_succ hx, ha, he]; rfl⟩
          simp only [h1, Int.natCast_add, go_sem, Evid.iv, Evid.c, Move.c, Place.c, ints, ic, big, frac, fc, Raw.c]
        · have hf : fewP n k l = false := by
            have h41' : (l.take (n.toNat + 1))[i]? = some x := by rw [List.getElem?_take, if_pos (by omega)]; exact hx
            simp [fewP, all_not h41' (f := fewX k) he]
          simp only [hd, hr, he, hf, go_sem, Evid.iv, Evid.c, Move.c, Place.c, ints, ic, big, frac, fc, Raw.c]
      · have hr : decide ((i : Int) ≤ n) = false := decide_eq_false hq
        have h40 : decide ((l.length : Int) ≤ n) = false := decide_eq_false (by omega)
        have hf : fewP n k l = false := by simp only [fewP, h40, Bool.and_false]
        simp only [hd, hr, hf, h40, go_sem, Evid.iv, Evid.c, Move.c, Place.c, ints, ic, big, frac, fc, Raw.c]
    · have hd : decide ((i : Int) < l.length) = false := decide_eq_false hp
      have hf : fewP n k l = decide ((l.length : Int) ≤ n) := by
        rcases Decidable.em ((l.length : Int) ≤ n) with hq | hq
        · rw [List.take_of_length_le (by omega)] at ha
          rw [fewP, List.take_of_length_le (by omega), ha, Bool.true_and]
        · rw [fewP, decide_eq_false hq, Bool.and_false]
      simp only [hd, hf, go_sem, Evid.iv, Evid.c, Move.c, Place.c, ints, ic, big, frac, fc, Raw.c]
def fewM (n : Int) (h : List (List Raw)) : Bool := (h.take (n.toNat + 1)).all (fewP 10 3) && decide ((h.length : Int) ≤ n)
set_option maxRecDepth 100000 in
set_option maxHeartbeats 1000000 in
theorem t_fewMasses (h : List (List Raw)) (n : Int) (hn : 0 ≤ n ∧ n ≤ 100000) : Ctr G.P 10 [hist h, .int n] (· = .bool (fewM n h)) := by
  obtain ⟨hn1, hn2⟩ := hn
  have h5 := fun l => t_fewPoint l 10 3 (by omega)
  unfold hist
  refine ctr_go good _ _ [.tmp 4] Tryz.func10 rfl rfl (by decide +kernel) rfl ?_
  simp only [go_sem, Evid.iv, Evid.c, Move.c, Place.c, ints, ic, big, frac, fc, Raw.c]
  refine LoopP_of [0, 1, 5] [] (fun i : Nat => ⟨[(0, .im (.sl (h.map rowC))), (1, .im (.int n)), (5, .im (.int i))], [], []⟩)
    (fun i => i ≤ h.length ∧ i ≤ n.toNat + 1 ∧ (h.take i).all (fewP 10 3) = true) (fun i => h.length - i) 0 ?_ ⟨Nat.zero_le _, Nat.zero_le _, rfl⟩ ?_
  · simp only [Int.natCast_zero, go_sem, Evid.iv, Evid.c, Move.c, Place.c, ints, ic, big, frac, fc, Raw.c]
  · intro i ⟨hi, h41, ha⟩
    by_cases hp : (i : Int) < h.length
    · have hd : decide ((i : Int) < h.length) = true := decide_eq_true hp
      obtain ⟨x, hx⟩ := at_nat hp
      have h1 := i64_ok (n := (i : Int) + 1) (by omega)
      have k5 := h5 x
      by_cases hq : (i : Int) ≤ n
      · have hr : decide ((i : Int) ≤ n) = true := decide_eq_true hq
        simp only [hd, hr, List.getElem?_map, hx, rowC, go_sem, Evid.iv, Evid.c, Move.c, Place.c, ints, ic, big, frac, fc, Raw.c]
        refine CallP_eq k5 (by decide) ?_
        simp only [hd, hr, go_sem, Evid.iv, Evid.c, Move.c, Place.c, ints, ic, big, frac, fc, Raw.c]
        refine Two_of (fun he => ?_) (fun he => ?_)
        · simp only [hd, hr, he, go_sem, Evid.iv, Evid.c, Move.c, Place.c, ints, ic, big, frac, fc, Raw.c]
          refine RoundP_of (i + 1) ?_ (by omega) ⟨by omega, by omega, by rw [all_take_succ hx, ha, he]; rfl⟩
          simp only [h1, Int.natCast_add, go_sem, Evid.iv, Evid.c, Move.c, Place.c, ints, ic, big, frac, fc, Raw.c]
        · have hf : fewM n h = false := by
            have h41' : (h.take (n.toNat + 1))[i]? = some x := by rw [List.getElem?_take, if_pos (by omega)]; exact hx
            simp [fewM, all_not h41' (f := fewP 10 3) he]
          simp only [hd, hr, he, hf, go_sem, Evid.iv, Evid.c, Move.c, Place.c, ints, ic, big, frac, fc, Raw.c]
      · have hr : decide ((i : Int) ≤ n) = false := decide_eq_false hq
        have h40 : decide ((h.length : Int) ≤ n) = false := decide_eq_false (by omega)
        have hf : fewM n h = false := by simp only [fewM, h40, Bool.and_false]
        simp only [hd, hr, hf, h40, go_sem, Evid.iv, Evid.c, Move.c, Place.c, ints, ic, big, frac, fc, Raw.c]
    · have hd : decide ((i : Int) < h.length) = false := decide_eq_false hp
      have hf : fewM n h = decide ((h.length : Int) ≤ n) := by
        rcases Decidable.em ((h.length : Int) ≤ n) with hq | hq
        · rw [List.take_of_length_le (by omega)] at ha
          rw [fewM, List.take_of_length_le (by omega), ha, Bool.true_and]
        · rw [fewM, decide_eq_false hq, Bool.and_false]
      simp only [hd, hf, go_sem, Evid.iv, Evid.c, Move.c, Place.c, ints, ic, big, frac, fc, Raw.c]
def few16 (e : Evid) (k : Int) : Bool := !((decide (k < (e.moves.length : Int)) && decide ((e.moves.length : Int) ≤ 200)) || (decide (20 < (e.purs.length : Int)) && decide ((e.purs.length : Int) ≤ 200))) &&
  decide ((e.moves.length : Int) ≤ 220) && decide ((e.purs.length : Int) ≤ 220) && decide ((e.places.length : Int) ≤ 120) && decide ((e.certs.length : Int) ≤ 120) && decide ((e.recalls.length : Int) ≤ 40)
set_option maxRecDepth 100000 in
set_option maxHeartbeats 1000000 in
theorem t_few16 (e : Evid) (k : Int) : Ctr G.P 8 [e.iv, .int k] (· = .bool (few16 e k)) := by
  refine ctr_go good _ _ [.tmp 4] Tryz.func8 rfl rfl (by decide +kernel) rfl ?_
  unfold few16 Evid.iv Evid.c
  simp only [List.length_map, go_sem, Evid.iv, Evid.c, Move.c, Place.c, ints, ic, big, frac, fc, Raw.c]
  repeat' (first | (refine Two_of (fun hd => ?_) (fun hd => ?_) <;> simp only [*, go_sem, Evid.iv, Evid.c, Move.c, Place.c, ints, ic, big, frac, fc, Raw.c]))
  all_goals simp [*]
end Go.Proofs.YtnjkhiafjcajaaaGreat

namespace Go.Proofs.YtnjkhiafjcajaaaGreat
set_option linter.all false
open Go.Abs

set_option maxRecDepth 100000 in
set_option maxHeartbeats 1000000 in
theorem t_addf (a b : Rat) (ap : (dig a.num.natAbs).length ≤ 19000) (aq : (dig a.den).length ≤ 19000) (bp : (dig b.num.natAbs).length ≤ 19000) (bq : (dig b.den).length ≤ 19000) :
    Ctr G.P 64 [frac a, frac b] (· = .tup [frac (a + b), .int 0]) := by
  have ra := t_rightf a (by omega) (by omega)
  have rb := t_rightf b (by omega) (by omega)
  have bq' : (dig (b.den : Int).natAbs).length ≤ 19000 := by rw [Int.natAbs_natCast]; exact bq
  have aq' : (dig (a.den : Int).natAbs).length ≤ 19000 := by rw [Int.natAbs_natCast]; exact aq
  have m1 := t_mul a.num b.den (by omega) (by omega)
  have m2 := t_mul b.num a.den (by omega) (by omega)
  have m3 := t_mul a.den b.den (by omega) (by omega)
  have l1 := dig_mul_le ap bq'
  have l2 := dig_mul_le bp aq'
  have l3 := dig_mul_le aq' bq'
  have hs := t_add (a.num * b.den) (b.num * a.den) (by omega) (by omega)
  have hn := t_new (a.num * b.den + b.num * a.den) (a.den * b.den) (Int.mul_ne_zero (den_ne a) (den_ne b)) (by have := len_add' (k := 38000) (a := a.num * b.den) (b := b.num * a.den) (by omega) (by omega); omega) (by omega)
  rw [divInt_add'] at hn
  simp only [big, frac, ints] at ra rb m1 m2 m3 hs hn
  refine ctr_go good _ _ [.cell 4 57, .tmp 5] Tryz.func64 rfl rfl (by decide +kernel) rfl ?_
  simp only [go_sem, ints, ic, big, frac]
  refine CallP_eq ra (by decide) ?_
  simp only [go_sem, ints, ic, big, frac]
  refine CallP_eq rb (by decide) ?_
  simp only [go_sem, ints, ic, big, frac]
  refine CallP_eq m1 (by decide) ?_
  simp only [go_sem, ints, ic, big, frac]
  refine CallP_eq m2 (by decide) ?_
  simp only [go_sem, ints, ic, big, frac]
  refine CallP_eq m3 (by decide) ?_
  simp only [go_sem, ints, ic, big, frac]
  refine CallP_eq hs (by decide) ?_
  simp only [go_sem, ints, ic, big, frac]
  refine CallP_eq hn (by decide) ?_
  simp only [go_sem, ints, ic, big, frac]
set_option maxRecDepth 100000 in
set_option maxHeartbeats 1000000 in
theorem t_mulf (a b : Rat) (ap : (dig a.num.natAbs).length ≤ 19000) (aq : (dig a.den).length ≤ 19000) (bp : (dig b.num.natAbs).length ≤ 19000) (bq : (dig b.den).length ≤ 19000) :
    Ctr G.P 65 [frac a, frac b] (· = .tup [frac (a * b), .int 0]) := by
  have ra := t_rightf a (by omega) (by omega)
  have rb := t_rightf b (by omega) (by omega)
  have bq' : (dig (b.den : Int).natAbs).length ≤ 19000 := by rw [Int.natAbs_natCast]; exact bq
  have aq' : (dig (a.den : Int).natAbs).length ≤ 19000 := by rw [Int.natAbs_natCast]; exact aq
  have m1 := t_mul a.num b.num (by omega) (by omega)
  have m3 := t_mul a.den b.den (by omega) (by omega)
  have l1 := dig_mul_le ap bp
  have l3 := dig_mul_le aq' bq'
  have hn := t_new (a.num * b.num) (a.den * b.den) (Int.mul_ne_zero (den_ne a) (den_ne b)) (by omega) (by omega)
  rw [divInt_mul'] at hn
  simp only [big, frac, ints] at ra rb m1 m3 hn
  refine ctr_go good _ _ [.cell 4 57, .tmp 5] Tryz.func65 rfl rfl (by decide +kernel) rfl ?_
  simp only [go_sem, ints, ic, big, frac]
  refine CallP_eq ra (by decide) ?_
  simp only [go_sem, ints, ic, big, frac]
  refine CallP_eq rb (by decide) ?_
  simp only [go_sem, ints, ic, big, frac]
  refine CallP_eq m1 (by decide) ?_
  simp only [go_sem, ints, ic, big, frac]
  refine CallP_eq m3 (by decide) ?_
  simp only [go_sem, ints, ic, big, frac]
  refine CallP_eq hn (by decide) ?_
  simp only [go_sem, ints, ic, big, frac]
/-- The reference's numbers by their sizes. -/
theorem g_add {a b : Rat} (ha : FL 19000 a) (hb : FL 19000 b) : Ctr G.P 64 [frac a, frac b] (· = .tup [frac (a + b), .int 0]) := t_addf a b ha.1 ha.2 hb.1 hb.2
theorem g_mul {a b : Rat} (ha : FL 19000 a) (hb : FL 19000 b) : Ctr G.P 65 [frac a, frac b] (· = .tup [frac (a * b), .int 0]) := t_mulf a b ha.1 ha.2 hb.1 hb.2
theorem g_cmp {a b : Rat} (ha : FL 19000 a) (hb : FL 19000 b) : Ctr G.P 66 [frac a, frac b] (· = .int (cmpR a b)) := t_cmpf a b (by have := ha.1; omega) (by have := ha.2; omega) (by have := hb.1; omega) (by have := hb.2; omega)
end Go.Proofs.YtnjkhiafjcajaaaGreat

namespace Go.Proofs.YtnjkhiafjcajaaaGreat
set_option linter.all false
open Go.Abs

/-- The masses of a move keep a purity. -/
def keepsF (l : List Rat) (p : Purity) : Bool := match (if 0 ≤ p.mat then l[p.mat.toNat]? else none) with
  | none => false
  | some f => decide (cmpR (sumF l * (p.least : Rat)) (f * ((1000 : Int) : Rat)) ≤ 0) && decide (cmpR (f * ((1000 : Int) : Rat)) (sumF l * (p.most : Rat)) ≤ 0)
theorem g_int {n : Int} (hn : -9223372036854775808 ≤ n ∧ n ≤ 9223372036854775807) : Ctr G.P 63 [.int n] (· = frac (n : Rat)) := by
  have h := t_intf n hn
  rwa [show Rat.divInt n 1 = (n : Rat) from Rat.num_divInt_den (n : Rat)] at h
set_option maxRecDepth 100000 in
set_option maxHeartbeats 2000000 in
theorem t_keeps (l : List Rat) (p : Purity) (hl : l.length ≤ 100) (hf : ∀ r ∈ l, FL 100 r) (hlo : -9223372036854775808 ≤ p.least ∧ p.least ≤ 9223372036854775807) (hhi : -9223372036854775808 ≤ p.most ∧ p.most ≤ 9223372036854775807) :
    Ctr G.P 15 [fcs l, .agg p.c] (· = .bool (keepsF l p)) := by
  have o1 := g_int (n := 0) (by omega)
  have hz : ((0 : Int) : Rat) = sumF (l.take 0) := by rw [List.take_zero]; rfl
  rw [hz] at o1
  unfold fcs
  simp only [frac, ints] at o1
  refine ctr_go good _ _ [.tmp 4] Tryz.func15 rfl rfl (by decide +kernel) rfl ?_
  simp only [go_sem, Evid.iv, Evid.c, Purity.c, ints, ic, big, frac, fc]
  refine CallP_eq o1 (by decide) ?_
  simp only [go_sem, Evid.iv, Evid.c, Purity.c, ints, ic, big, frac, fc]
  refine LoopP_of [0, 3, 5, 6] [3, 5] (fun i : Nat => ⟨[(0, .im (.sl (l.map fc))), (3, .loc 3 4 0 0), (5, .loc 5 4 0 0), (6, .im (.int i))], [(5, 4, [fc (sumF (l.take i))]), (3, 4, [p.c])], []⟩)
    (fun i => i ≤ l.length) (fun i => l.length - i) 0 ?_ (Nat.zero_le _) ?_
  · simp only [Int.natCast_zero, go_sem, Evid.iv, Evid.c, Purity.c, ints, ic, big, frac, fc]
  · intro i hi
    have hs : FL (4 + i * 101) (sumF (l.take i)) := by
      have := FL_sumF (k := 100) (l := l.take i) (fun r hr => hf r (List.mem_of_mem_take hr))
      rw [List.length_take] at this
      exact this.mono (by have : min i l.length ≤ i := Nat.min_le_left _ _; omega)
    by_cases hp : (i : Int) < l.length
    · have hd : decide ((i : Int) < l.length) = true := decide_eq_true hp
      obtain ⟨x, hx⟩ := at_nat hp
      have h1 := i64_ok (n := (i : Int) + 1) (by omega)
      have ka := g_add (hs.mono (by omega)) ((hf x (List.mem_of_getElem? hx)).mono (by omega))
      rw [← sumF_take hx] at ka
      simp only [frac, ints] at ka
      simp only [hd, go_sem, Evid.iv, Evid.c, Purity.c, ints, ic, big, frac, fc]
      refine DrawS_of (by decide +kernel) ?_
      simp only [hd, hx, List.getElem?_map, go_sem, Evid.iv, Evid.c, Purity.c, ints, ic, big, frac, fc]
      refine CallD_eq ka (by decide) ?_
      simp only [go_sem, Evid.iv, Evid.c, Purity.c, ints, ic, big, frac, fc]
      refine RoundP_of (i + 1) ?_ (by omega) (by omega)
      simp only [h1, Int.natCast_add, go_sem, Evid.iv, Evid.c, Purity.c, ints, ic, big, frac, fc]
    · have hd : decide ((i : Int) < l.length) = false := decide_eq_false hp
      rw [List.take_of_length_le (by omega)] at hs ⊢
      have hs' : FL 11000 (sumF l) := hs.mono (by omega)
      have hkF : keepsF l p = match (if 0 ≤ p.mat then l[p.mat.toNat]? else none) with
          | none => false
          | some f => decide (cmpR (sumF l * (p.least : Rat)) (f * ((1000 : Int) : Rat)) ≤ 0) && decide (cmpR (f * ((1000 : Int) : Rat)) (sumF l * (p.most : Rat)) ≤ 0) := rfl
      generalize keepsF l p = kp at *
      generalize sumF l = s at *
      simp only [hd, go_sem, Evid.iv, Evid.c, Purity.c, ints, ic, big, frac, fc]
      clear hd hp hi hs o1 hz
      refine Two_of (fun h1 => ?_) (fun h1 => ?_)
      · have hn : ¬ (0 ≤ p.mat) := by have := of_decide_eq_true h1; omega
        rw [if_neg hn] at hkF
        dsimp only at hkF
        simp only [h1, hkF, go_sem, Evid.iv, Evid.c, Purity.c, ints, ic, big, frac, fc]
      · have hp0 : (0 ≤ p.mat) := by have := of_decide_eq_false h1; omega
        rw [if_pos hp0] at hkF
        simp only [h1, go_sem, Evid.iv, Evid.c, Purity.c, ints, ic, big, frac, fc]
        refine Two_of (fun h2 => ?_) (fun h2 => ?_)
        · have hx : l[p.mat.toNat]? = none := List.getElem?_eq_none (by have := of_decide_eq_true h2; omega)
          rw [hx] at hkF
          dsimp only at hkF
          simp only [h1, h2, hkF, go_sem, Evid.iv, Evid.c, Purity.c, ints, ic, big, frac, fc]
        · have hlt : p.mat < (l.length : Int) := by have := of_decide_eq_false h2; omega
          obtain ⟨f, hx⟩ : ∃ f, l[p.mat.toNat]? = some f := ⟨_, List.getElem?_eq_getElem (by omega)⟩
          rw [hx] at hkF
          dsimp only at hkF
          have kf := hf f (List.mem_of_getElem? hx)
          have i1 := g_int (n := 1000) (by omega)
          have i2 := g_int hlo
          have i3 := g_int hhi
          have L0 := FL_small (n := 1000) (by omega)
          have L1 := FL_small hlo
          have L2 := FL_small hhi
          have m1 := g_mul (kf.mono (by omega)) (L0.mono (by omega))
          have m2 := g_mul (hs'.mono (by omega)) (L1.mono (by omega))
          have m3 := g_mul (hs'.mono (by omega)) (L2.mono (by omega))
          have c1 := g_cmp ((FL_mul hs' L1).mono (by omega)) ((FL_mul kf L0).mono (by omega))
          have c2 := g_cmp ((FL_mul kf L0).mono (by omega)) ((FL_mul hs' L2).mono (by omega))
          generalize f * ((1000 : Int) : Rat) = x at *
          generalize s * (p.least : Rat) = lo at *
          generalize s * (p.most : Rat) = hi at *
          generalize ((1000 : Int) : Rat) = z0 at *
          generalize ((p.least : Int) : Rat) = z1 at *
          generalize ((p.most : Int) : Rat) = z2 at *
          generalize cmpR lo x = q1 at *
          generalize cmpR x hi = q2 at *
          simp only [frac, ints] at i1 i2 i3 m1 m2 m3 c1 c2
          simp only [h1, h2, go_sem, Evid.iv, Evid.c, Purity.c, ints, ic, big, frac, fc]
          refine DrawS_of (by decide +kernel) ?_
          simp only [hp0, hlt, hx, List.getElem?_map, go_sem, Evid.iv, Evid.c, Purity.c, ints, ic, big, frac, fc]
          refine CallD_eq i1 (by decide) ?_
          simp only [go_sem, Evid.iv, Evid.c, Purity.c, ints, ic, big, frac, fc]
          refine CallD_eq m1 (by decide) ?_
          simp only [go_sem, Evid.iv, Evid.c, Purity.c, ints, ic, big, frac, fc]
          refine DrawS_of (by decide +kernel) ?_
          simp only [go_sem, Evid.iv, Evid.c, Purity.c, ints, ic, big, frac, fc]
          refine CallD_eq i2 (by decide) ?_
          simp only [go_sem, Evid.iv, Evid.c, Purity.c, ints, ic, big, frac, fc]
          refine CallD_eq m2 (by decide) ?_
          simp only [go_sem, Evid.iv, Evid.c, Purity.c, ints, ic, big, frac, fc]
          refine DrawS_of (by decide +kernel) ?_
          simp only [go_sem, Evid.iv, Evid.c, Purity.c, ints, ic, big, frac, fc]
          refine CallD_eq i3 (by decide) ?_
          simp only [go_sem, Evid.iv, Evid.c, Purity.c, ints, ic, big, frac, fc]
          refine CallD_eq m3 (by decide) ?_
          simp only [go_sem, Evid.iv, Evid.c, Purity.c, ints, ic, big, frac, fc]
          refine CallP_eq c1 (by decide) ?_
          simp only [go_sem, Evid.iv, Evid.c, Purity.c, ints, ic, big, frac, fc]
          refine Two_of (fun d1 => ?_) (fun d1 => ?_)
          · simp only [d1, go_sem, Evid.iv, Evid.c, Purity.c, ints, ic, big, frac, fc]
            refine CallP_eq c2 (by decide) ?_
            simp only [d1, hkF, Bool.true_and, go_sem, Evid.iv, Evid.c, Purity.c, ints, ic, big, frac, fc]
          · simp only [d1, hkF, Bool.false_and, go_sem, Evid.iv, Evid.c, Purity.c, ints, ic, big, frac, fc]
end Go.Proofs.YtnjkhiafjcajaaaGreat

namespace Go.Proofs.YtnjkhiafjcajaaaGreat
set_option linter.all false
open Go.Abs

def sampleOk (s : Sample) : Bool := btw s.move 0 199 && !decide ((s.grams.length : Int) = 0) && !decide (6 < (s.grams.length : Int)) && !s.grams.any (fun n => !btw n 0 1099511627776) && btw s.slack 0 1000
def lowF (n sum : Int) : Int := (1000 * n).tdiv sum
def highF (n sum : Int) : Int := if decide (0 < (1000 * n).tmod sum) = true then lowF n sum + 1 else lowF n sum
def purOf (s : Sample) (sum : Int) (i : Nat) (n : Int) : Purity := ⟨s.move, i, max 0 (lowF n sum - s.slack), min 1000 (highF n sum + s.slack)⟩
def purGo (s : Sample) (sum : Int) : Nat → List Int → List Purity
  | _, [] => []
  | i, n :: r => purOf s sum i n :: purGo s sum (i + 1) r
def puritiesF (s : Sample) : List Purity × Int :=
  if sampleOk s = false then ([], 1) else if isum s.grams = 0 then ([], 14) else (purGo s (isum s.grams) 0 s.grams, 0)
def resP (r : List Purity × Int) : IV := .tup [purs r.1, .int r.2]
set_option maxRecDepth 100000 in
set_option maxHeartbeats 4000000 in
theorem c10 (s : Sample) (hl : s.grams.length ≤ 100000) : Ctr G.P 41 [.agg s.c] (· = resP (puritiesF s)) := by
  have h26 := c26 s.grams hl (fun n => !btw n 0 1099511627776) 98 [] (by decide) (fun n => c24 n)
  rcases hok : sampleOk s with _ | _
  · have hr : resP (puritiesF s) = .tup [.sl [], .int 1] := by simp [puritiesF, hok, resP, purs]
    rw [hr]
    simp only [sampleOk] at hok
    generalize ha : s.grams.any (fun n => !btw n 0 1099511627776) = any at *
    refine ctr_go good _ _ [.tmp 2, .tmp 3] Tryz.func41 rfl rfl (by decide +kernel) rfl ?_
    unfold Sample.c ints
    simp only [go_sem, Evid.iv, Evid.c, Place.c, Move.c, Cert.c, Recall.c, Purity.c, Sample.c, Recipe.c, ints, ic]
    repeat' (first | (refine Two_of (fun hd => ?_) (fun hd => ?_) <;> simp only [*, go_sem, Evid.iv, Evid.c, Place.c, Move.c, Cert.c, Recall.c, Purity.c, Sample.c, Recipe.c, ints, ic]) | (refine CallP_eq (c25 _ _) (by first | decide | assumption) ?_; simp only [*, go_sem, Evid.iv, Evid.c, Place.c, Move.c, Cert.c, Recall.c, Purity.c, Sample.c, Recipe.c, ints, ic]) | (refine CallP_eq (h26) (by first | decide | assumption) ?_; simp only [*, go_sem, Evid.iv, Evid.c, Place.c, Move.c, Cert.c, Recall.c, Purity.c, Sample.c, Recipe.c, ints, ic]) | (refine CallD_eq (c25 _ _) (by decide) ?_; simp only [*, go_sem, Evid.iv, Evid.c, Place.c, Move.c, Cert.c, Recall.c, Purity.c, Sample.c, Recipe.c, ints, ic]) | (refine CallD_eq (h26) (by decide) ?_; simp only [*, go_sem, Evid.iv, Evid.c, Place.c, Move.c, Cert.c, Recall.c, Purity.c, Sample.c, Recipe.c, ints, ic]))
    all_goals simp_all
  · have hparts : btw s.move 0 199 = true ∧ ¬ (s.grams.length : Int) = 0 ∧ ¬ 6 < (s.grams.length : Int) ∧ s.grams.any (fun n => !btw n 0 1099511627776) = false ∧ btw s.slack 0 1000 = true := by
      simp only [sampleOk, Bool.and_eq_true, Bool.not_eq_true', decide_eq_false_iff_not] at hok
      exact ⟨hok.1.1.1.1, hok.1.1.1.2, hok.1.1.2, hok.1.2, hok.2⟩
    obtain ⟨b1, b2, b3, b4, b5⟩ := hparts
    have hb : ∀ x ∈ s.grams, 0 ≤ x ∧ x ≤ 1099511627776 := fun x hx => by
      have := List.any_eq_false.1 b4 x hx
      simpa [btw_iff] using this
    have hs : 0 ≤ s.slack ∧ s.slack ≤ 1000 := btw_iff.1 b5
    rw [b4] at h26
    refine ctr_go good _ _ [.tmp 2, .tmp 3] Tryz.func41 rfl rfl (by decide +kernel) rfl ?_
    unfold Sample.c ints
    simp only [go_sem, Evid.iv, Evid.c, Place.c, Move.c, Cert.c, Recall.c, Purity.c, Sample.c, Recipe.c, ints, ic]
    repeat' (first | (refine Two_of (fun hd => ?_) (fun hd => ?_) <;> simp only [*, go_sem, Evid.iv, Evid.c, Place.c, Move.c, Cert.c, Recall.c, Purity.c, Sample.c, Recipe.c, ints, ic]) | (refine CallP_eq (c25 _ _) (by first | decide | assumption) ?_; simp only [*, go_sem, Evid.iv, Evid.c, Place.c, Move.c, Cert.c, Recall.c, Purity.c, Sample.c, Recipe.c, ints, ic]) | (refine CallP_eq (h26) (by first | decide | assumption) ?_; simp only [*, go_sem, Evid.iv, Evid.c, Place.c, Move.c, Cert.c, Recall.c, Purity.c, Sample.c, Recipe.c, ints, ic]) | (refine CallD_eq (c25 _ _) (by decide) ?_; simp only [*, go_sem, Evid.iv, Evid.c, Place.c, Move.c, Cert.c, Recall.c, Purity.c, Sample.c, Recipe.c, ints, ic]) | (refine CallD_eq (h26) (by decide) ?_; simp only [*, go_sem, Evid.iv, Evid.c, Place.c, Move.c, Cert.c, Recall.c, Purity.c, Sample.c, Recipe.c, ints, ic]))
    refine LoopP_of [1, 43, 44, 45, 5] [1] (fun i : Nat => ⟨[(1, .loc 1 3 0 0), (43, .im (.sl (s.grams.map ic))), (44, .im (.int s.grams.length)), (45, .im (.int i)), (5, .im (.int (isum (s.grams.take i))))], [(1, 3, [s.c])], []⟩)
      (fun i => i ≤ s.grams.length) (fun i => s.grams.length - i) 0 ?_ (Nat.zero_le _) ?_
    · simp only [Sample.c, ints, Int.natCast_zero, List.take_zero, isum, go_sem, Evid.iv, Evid.c, Place.c, Move.c, Cert.c, Recall.c, Purity.c, Sample.c, Recipe.c, ints, ic]
    · intro i hi
      have hbi := isum_bound hb i
      rw [List.length_take] at hbi
      by_cases hp : (i : Int) < s.grams.length
      · have hd : decide ((i : Int) < s.grams.length) = true := decide_eq_true hp
        obtain ⟨x, hx⟩ := at_nat hp
        have hxb := hb x (List.mem_of_getElem? hx)
        have h1 := i64_ok (n := (i : Int) + 1) (by omega)
        have h2 := i64_ok (n := isum (s.grams.take i) + x) (by omega)
        simp only [hd, List.getElem?_map, hx, ic, go_sem, Evid.iv, Evid.c, Place.c, Move.c, Cert.c, Recall.c, Purity.c, Sample.c, Recipe.c, ints, ic]
        refine RoundP_of (i + 1) ?_ (by omega) (by omega)
        simp only [h1, h2, isum_take hx, Int.natCast_add, Sample.c, ints, go_sem, Evid.iv, Evid.c, Place.c, Move.c, Cert.c, Recall.c, Purity.c, Sample.c, Recipe.c, ints, ic]
      · have hd : decide ((i : Int) < s.grams.length) = false := decide_eq_false hp
        rw [List.take_of_length_le (by omega)] at hbi ⊢
        simp only [hd, go_sem, Evid.iv, Evid.c, Place.c, Move.c, Cert.c, Recall.c, Purity.c, Sample.c, Recipe.c, ints, ic]
        clear hd hp hi
        have hsb : isum s.grams ≤ 1099511627776 * 6 := by
          have h1 : ((min i s.grams.length : Nat) : Int) ≤ 6 := by omega
          omega
        refine Two_dec (fun h0 h0' => ?_) (fun h0 h0' => ?_)
        · have hr : resP (puritiesF s) = .tup [.sl [], .int 14] := by simp [puritiesF, hok, h0', resP, purs]
          simp only [h0, hr, go_sem, Evid.iv, Evid.c, Place.c, Move.c, Cert.c, Recall.c, Purity.c, Sample.c, Recipe.c, ints, ic]
        · have hr : resP (puritiesF s) = .tup [purs (purGo s (isum s.grams) 0 s.grams), .int 0] := by simp [puritiesF, hok, h0', resP]
          simp only [h0, Sample.c, ints, go_sem, Evid.iv, Evid.c, Place.c, Move.c, Cert.c, Recall.c, Purity.c, Sample.c, Recipe.c, ints, ic]
          refine LoopP_of [1, 5, 56, 57, 58, 8] [1, 92] (fun g : Nat × List Purity => ⟨[(1, .loc 1 3 0 0), (5, .im (.int (isum s.grams))), (56, .im (.sl (s.grams.map ic))), (57, .im (.int s.grams.length)), (58, .im (.int g.1)),
              (8, if g.2 = [] then .sx [] else .vec 92 43 4 (g.2.map Purity.c))], [(1, 3, [s.c])], if g.2 = [] then [] else [(92, 4, g.2.length)]⟩)
            (fun g => g.1 ≤ s.grams.length ∧ g.2 ++ purGo s (isum s.grams) g.1 (s.grams.drop g.1) = purGo s (isum s.grams) 0 s.grams ∧ g.2.length ≤ g.1) (fun g => s.grams.length - g.1) (0, []) ?_ ⟨Nat.zero_le _, rfl, Nat.zero_le _⟩ ?_
          · simp only [Int.natCast_zero, Sample.c, ints, eq_self, go_sem, Evid.iv, Evid.c, Place.c, Move.c, Cert.c, Recall.c, Purity.c, Sample.c, Recipe.c, ints, ic]
          · intro ⟨i, l⟩ ⟨hi, ha, hl'⟩
            dsimp only at hi ha hl'
            by_cases hp : (i : Int) < s.grams.length
            · have hd : decide ((i : Int) < s.grams.length) = true := decide_eq_true hp
              obtain ⟨x, hx⟩ := at_nat hp
              have hxb := hb x (List.mem_of_getElem? hx)
              have hS : ¬ isum s.grams = 0 := h0'
              have hq0 : 0 ≤ (1000 * x).tdiv (isum s.grams) := Int.tdiv_nonneg (by omega) (by omega)
              have hq1 : (1000 * x).tdiv (isum s.grams) ≤ 1000 * x := by
                rw [Int.tdiv_eq_ediv_of_nonneg (by omega)]
                exact Int.ediv_le_self _ (by omega)
              have h1 := i64_ok (n := (i : Int) + 1) (by omega)
              have h3 := i64_ok (n := 1000 * x) (by omega)
              have h4 := i64_ok (n := (1000 * x).tdiv (isum s.grams)) (by omega)
              have h5 := i64_ok (n := (1000 * x).tdiv (isum s.grams) - s.slack) (by omega)
              have h6 := i64_ok (n := (1000 * x).tdiv (isum s.grams) + 1) (by omega)
              have h7 := i64_ok (n := (1000 * x).tdiv (isum s.grams) + 1 + s.slack) (by omega)
              have h8 := i64_ok (n := (1000 * x).tdiv (isum s.grams) + s.slack) (by omega)
              rw [drop_cons hx, purGo] at ha
              rcases l with _ | ⟨y, l⟩
              · skip
                have hlen : ∀ (c : List IV), c ∈ List.map Purity.c ([]) → c.length = 4 := fun c hc => by
                  obtain ⟨z, _, rfl⟩ := List.mem_map.1 hc; rfl
                simp only [List.map_cons, List.map_nil] at hlen
                simp only [List.length_cons, List.length_nil] at hl'
                simp only [hd, List.getElem?_map, hx, ic, eq_self, go_sem, Evid.iv, Evid.c, Place.c, Move.c, Cert.c, Recall.c, Purity.c, Sample.c, Recipe.c, ints, ic]
                refine DrawP_of 10 (by decide +kernel) ?_
                simp only [h3, h4, hS, go_sem, Evid.iv, Evid.c, Place.c, Move.c, Cert.c, Recall.c, Purity.c, Sample.c, Recipe.c, ints, ic]
                refine Two_of (fun hm => ?_) (fun hm => ?_)
                · have hpu : purOf s (isum s.grams) i x = ⟨s.move, i, max 0 ((1000 * x).tdiv (isum s.grams) - s.slack), min 1000 ((1000 * x).tdiv (isum s.grams) + 1 + s.slack)⟩ := by simp only [purOf, highF, lowF, hm, if_true]
                  simp only [*, Sample.c, ints, go_sem, Evid.iv, Evid.c, Place.c, Move.c, Cert.c, Recall.c, Purity.c, Sample.c, Recipe.c, ints, ic]
                  refine ⟨hlen, by simp, ?_⟩
                  try refine ⟨by omega, ?_⟩
                  refine RoundP_of (i + 1, [] ++ [purOf s (isum s.grams) i x]) ?_ ?_ ⟨?_, ?_, ?_⟩
                  · simp only [*, Sample.c, ints, Int.natCast_add, eq_self, List.map_append, List.length_append, Purity.c, go_sem, Evid.iv, Evid.c, Place.c, Move.c, Cert.c, Recall.c, Purity.c, Sample.c, Recipe.c, ints, ic]
                  · show s.grams.length - (i + 1) < s.grams.length - i; omega
                  · show i + 1 ≤ s.grams.length; omega
                  · dsimp only; rw [← ha]; simp only [List.append_assoc, List.cons_append, List.nil_append]
                  · dsimp only; simp only [List.length_append, List.length_cons, List.length_nil]; omega
                · have hpu : purOf s (isum s.grams) i x = ⟨s.move, i, max 0 ((1000 * x).tdiv (isum s.grams) - s.slack), min 1000 ((1000 * x).tdiv (isum s.grams) + s.slack)⟩ := by simp only [purOf, highF, lowF, hm, if_false, Bool.false_eq_true]
                  simp only [*, Sample.c, ints, go_sem, Evid.iv, Evid.c, Place.c, Move.c, Cert.c, Recall.c, Purity.c, Sample.c, Recipe.c, ints, ic]
                  refine ⟨hlen, by simp, ?_⟩
                  try refine ⟨by omega, ?_⟩
                  refine RoundP_of (i + 1, [] ++ [purOf s (isum s.grams) i x]) ?_ ?_ ⟨?_, ?_, ?_⟩
                  · simp only [*, Sample.c, ints, Int.natCast_add, eq_self, List.map_append, List.length_append, Purity.c, go_sem, Evid.iv, Evid.c, Place.c, Move.c, Cert.c, Recall.c, Purity.c, Sample.c, Recipe.c, ints, ic]
                  · show s.grams.length - (i + 1) < s.grams.length - i; omega
                  · show i + 1 ≤ s.grams.length; omega
                  · dsimp only; rw [← ha]; simp only [List.append_assoc, List.cons_append, List.nil_append]
                  · dsimp only; simp only [List.length_append, List.length_cons, List.length_nil]; omega
              · skip
                have hlen : ∀ (c : List IV), c ∈ List.map Purity.c ((y :: l)) → c.length = 4 := fun c hc => by
                  obtain ⟨z, _, rfl⟩ := List.mem_map.1 hc; rfl
                simp only [List.map_cons, List.map_nil] at hlen
                simp only [List.length_cons, List.length_nil] at hl'
                simp only [hd, List.getElem?_map, hx, ic, eq_self, go_sem, Evid.iv, Evid.c, Place.c, Move.c, Cert.c, Recall.c, Purity.c, Sample.c, Recipe.c, ints, ic]
                refine DrawP_of 10 (by decide +kernel) ?_
                simp only [h3, h4, hS, go_sem, Evid.iv, Evid.c, Place.c, Move.c, Cert.c, Recall.c, Purity.c, Sample.c, Recipe.c, ints, ic]
                refine Two_of (fun hm => ?_) (fun hm => ?_)
                · have hpu : purOf s (isum s.grams) i x = ⟨s.move, i, max 0 ((1000 * x).tdiv (isum s.grams) - s.slack), min 1000 ((1000 * x).tdiv (isum s.grams) + 1 + s.slack)⟩ := by simp only [purOf, highF, lowF, hm, if_true]
                  simp only [*, Sample.c, ints, go_sem, Evid.iv, Evid.c, Place.c, Move.c, Cert.c, Recall.c, Purity.c, Sample.c, Recipe.c, ints, ic]
                  refine ⟨hlen, by simp, ?_⟩
                  try refine ⟨by omega, ?_⟩
                  refine RoundP_of (i + 1, (y :: l) ++ [purOf s (isum s.grams) i x]) ?_ ?_ ⟨?_, ?_, ?_⟩
                  · simp only [*, Sample.c, ints, Int.natCast_add, eq_self, List.map_append, List.length_append, Purity.c, go_sem, Evid.iv, Evid.c, Place.c, Move.c, Cert.c, Recall.c, Purity.c, Sample.c, Recipe.c, ints, ic]
                  · show s.grams.length - (i + 1) < s.grams.length - i; omega
                  · show i + 1 ≤ s.grams.length; omega
                  · dsimp only; rw [← ha]; simp only [List.append_assoc, List.cons_append, List.nil_append]
                  · dsimp only; simp only [List.length_append, List.length_cons, List.length_nil]; omega
                · have hpu : purOf s (isum s.grams) i x = ⟨s.move, i, max 0 ((1000 * x).tdiv (isum s.grams) - s.slack), min 1000 ((1000 * x).tdiv (isum s.grams) + s.slack)⟩ := by simp only [purOf, highF, lowF, hm, if_false, Bool.false_eq_true]
                  simp only [*, Sample.c, ints, go_sem, Evid.iv, Evid.c, Place.c, Move.c, Cert.c, Recall.c, Purity.c, Sample.c, Recipe.c, ints, ic]
                  refine ⟨hlen, by simp, ?_⟩
                  try refine ⟨by omega, ?_⟩
                  refine RoundP_of (i + 1, (y :: l) ++ [purOf s (isum s.grams) i x]) ?_ ?_ ⟨?_, ?_, ?_⟩
                  · simp only [*, Sample.c, ints, Int.natCast_add, eq_self, List.map_append, List.length_append, Purity.c, go_sem, Evid.iv, Evid.c, Place.c, Move.c, Cert.c, Recall.c, Purity.c, Sample.c, Recipe.c, ints, ic]
                  · show s.grams.length - (i + 1) < s.grams.length - i; omega
                  · show i + 1 ≤ s.grams.length; omega
                  · dsimp only; rw [← ha]; simp only [List.append_assoc, List.cons_append, List.nil_append]
                  · dsimp only; simp only [List.length_append, List.length_cons, List.length_nil]; omega
            · have hd : decide ((i : Int) < s.grams.length) = false := decide_eq_false hp
              rw [List.drop_of_length_le (by omega), purGo, List.append_nil] at ha
              rw [← ha] at hr
              rcases l with _ | ⟨y, l⟩
              · simp only [hd, eq_self, hr, purs, go_sem, Evid.iv, Evid.c, Place.c, Move.c, Cert.c, Recall.c, Purity.c, Sample.c, Recipe.c, ints, ic]
              · simp only [hd, eq_self, hr, purs, go_sem, Evid.iv, Evid.c, Place.c, Move.c, Cert.c, Recall.c, Purity.c, Sample.c, Recipe.c, ints, ic]
end Go.Proofs.YtnjkhiafjcajaaaGreat

namespace Go.Proofs.YtnjkhiafjcajaaaGreat
set_option linter.all false
open Go.Abs

theorem ceilF {n S : Int} (hn : 0 ≤ n) (hS : 0 < S) : (1000 * n + S - 1).tdiv S = highF n S := by
  unfold highF lowF
  rw [Int.tdiv_eq_ediv_of_nonneg (by omega), Int.tdiv_eq_ediv_of_nonneg (by omega), Int.tmod_eq_emod_of_nonneg (by omega)]
  have h1 := Int.emod_add_mul_ediv (1000 * n) S
  have h2 := Int.emod_nonneg (1000 * n) (by omega : S ≠ 0)
  have h3 := Int.emod_lt_of_pos (1000 * n) hS
  generalize hq : 1000 * n / S = q at *
  generalize hr : 1000 * n % S = r at *
  split
  · rename_i h
    have h := of_decide_eq_true h
    have e : 1000 * n + S - 1 = (r - 1) + S * (q + 1) := by rw [Int.mul_add]; omega
    rw [e, Int.add_mul_ediv_left _ _ (by omega), Int.ediv_eq_zero_of_lt (by omega) (by omega)]
    omega
  · rename_i h
    have h : ¬ 0 < r := by simpa using h
    have e : 1000 * n + S - 1 = (S - 1) + S * q := by omega
    rw [e, Int.add_mul_ediv_left _ _ (by omega), Int.ediv_eq_zero_of_lt (by omega) (by omega)]
    omega
def headOk (s : Sample) : Bool := btw s.move 0 199 && btw s.grams.length 1 6 && btw s.slack 0 1000
theorem ok_of {s : Sample} (h : headOk s = true) (hb : s.grams.all (fun n => btw n 0 1099511627776) = true) : sampleOk s = true := by
  simp only [headOk, Bool.and_eq_true, btw_iff] at h
  have hb' : s.grams.any (fun n => !btw n 0 1099511627776) = false := by
    rw [List.any_eq_false]; intro x hx; have := List.all_eq_true.1 hb x hx; simp [this]
  simp only [sampleOk, hb', Bool.not_false, Bool.and_true, Bool.and_eq_true, Bool.not_eq_true', decide_eq_false_iff_not, btw_iff]
  omega
theorem not_ok_head {s : Sample} (h : headOk s = false) : sampleOk s = false := by
  rcases ho : sampleOk s with _ | _
  · rfl
  · simp only [sampleOk, Bool.and_eq_true, Bool.not_eq_true', decide_eq_false_iff_not, btw_iff] at ho
    have : headOk s = true := by simp only [headOk, Bool.and_eq_true, btw_iff]; omega
    rw [this] at h; cases h
theorem not_ok_gram {s : Sample} {i : Nat} {x : Int} (hx : s.grams[i]? = some x) (h : btw x 0 1099511627776 = false) : sampleOk s = false := by
  have : s.grams.any (fun n => !btw n 0 1099511627776) = true := any_at hx (by simp [h])
  simp [sampleOk, this]
end Go.Proofs.YtnjkhiafjcajaaaGreat

namespace Go.Proofs.YtnjkhiafjcajaaaGreat
set_option linter.all false
open Go.Abs

def sampledF (e : Evid) (s : Sample) : List Purity × Int :=
  if decide ((puritiesF s).2 = 0) = false then ([], (puritiesF s).2) else if decide ((e.moves.length : Int) ≤ s.move) = true then ([], 4) else if decide (((puritiesF s).1.length : Int) = e.mats) = false then ([], 2) else ((puritiesF s).1, 0)
theorem purGo_len (s : Sample) (S : Int) : ∀ (l : List Int) (i : Nat), (purGo s S i l).length = l.length
  | [], _ => rfl
  | _ :: r, i => by simp [purGo, purGo_len s S r (i + 1)]
theorem pur_len {s : Sample} (h : (puritiesF s).2 = 0) : (puritiesF s).1.length = s.grams.length := by
  unfold puritiesF at h ⊢
  split at h
  · cases h
  · split at h
    · cases h
    · rename_i h1 h2
      rw [if_neg h1, if_neg h2]
      exact purGo_len _ _ _ _
theorem c30 (e : Evid) (s : Sample) (hl : s.grams.length ≤ 100000) : Ctr G.P 49 [e.iv, .agg s.c] (· = resP (sampledF e s)) := by
  have h10 := c10 s hl
  unfold sampledF
  generalize puritiesF s = r at *
  obtain ⟨l, k⟩ := r
  refine ctr_go good _ _ [.tmp 4, .tmp 5] Tryz.func49 rfl rfl (by decide +kernel) rfl ?_
  unfold Evid.iv Evid.c Sample.c ints
  simp only [go_sem, Evid.iv, Evid.c, Place.c, Move.c, Cert.c, Recall.c, Purity.c, Sample.c, Recipe.c, ints, ic]
  refine CallP_eq h10 (by decide) ?_
  clear h10
  simp only [resP, purs, go_sem, Evid.iv, Evid.c, Place.c, Move.c, Cert.c, Recall.c, Purity.c, Sample.c, Recipe.c, ints, ic]
  repeat' (first | (refine Two_of (fun hd => ?_) (fun hd => ?_) <;> simp only [*, resP, purs, go_sem, Evid.iv, Evid.c, Place.c, Move.c, Cert.c, Recall.c, Purity.c, Sample.c, Recipe.c, ints, ic]))
end Go.Proofs.YtnjkhiafjcajaaaGreat

namespace Go.Proofs.YtnjkhiafjcajaaaGreat
set_option linter.all false
open Go.Abs

def cookGo (x : Recipe) : Nat → List Move → List Purity
  | _, [] => []
  | i, m :: r => if (decide (m.fr = x.fr) && decide (m.to = x.to)) = true then ⟨i, x.mat, x.least, x.most⟩ :: cookGo x (i + 1) r else cookGo x (i + 1) r
def cookedF (e : Evid) (x : Recipe) : List Purity × Int :=
  if btw x.fr 0 ((e.places.length : Int) - 1) = false then ([], 4) else if btw x.to 0 ((e.places.length : Int) - 1) = false then ([], 4) else
  if btw x.mat 0 (e.mats - 1) = false then ([], 1) else if btw x.least 0 x.most = false then ([], 1) else if decide (1000 < x.most) = true then ([], 1) else (cookGo x 0 e.moves, 0)
set_option maxRecDepth 100000 in
set_option maxHeartbeats 4000000 in
theorem c31 (e : Evid) (x : Recipe) (h1 : e.places.length ≤ 100000) (h2 : e.moves.length ≤ 100000) (h3 : 1 ≤ e.mats ∧ e.mats ≤ 100000) : Ctr G.P 50 [e.iv, .agg x.c] (· = resP (cookedF e x)) := by
  have w1 := i64_ok (n := (e.places.length : Int) - 1) (by omega)
  have w2 := i64_ok (n := e.mats - 1) (by omega)
  refine ctr_go good _ _ [.tmp 4, .tmp 5] Tryz.func50 rfl rfl (by decide +kernel) rfl ?_
  unfold cookedF Evid.iv Evid.c Recipe.c
  simp only [w1, go_sem, Evid.iv, Evid.c, Place.c, Move.c, Cert.c, Recall.c, Purity.c, Sample.c, Recipe.c, ints, ic]
  repeat' (first | (refine Two_of (fun hd => ?_) (fun hd => ?_) <;> simp only [*, resP, purs, List.map_nil, go_sem, Evid.iv, Evid.c, Place.c, Move.c, Cert.c, Recall.c, Purity.c, Sample.c, Recipe.c, ints, ic]) | (refine CallP_eq (c25 _ _) (by first | decide | assumption) ?_; simp only [*, resP, purs, List.map_nil, go_sem, Evid.iv, Evid.c, Place.c, Move.c, Cert.c, Recall.c, Purity.c, Sample.c, Recipe.c, ints, ic]) | (refine CallD_eq (c25 _ _) (by decide) ?_; simp only [*, resP, purs, List.map_nil, go_sem, Evid.iv, Evid.c, Place.c, Move.c, Cert.c, Recall.c, Purity.c, Sample.c, Recipe.c, ints, ic]))
  rename_i k1 k2 k3 k4
  refine LoopP_of [3, 49, 50, 51, 7] [3, 78] (fun g : Nat × List Purity => ⟨[(3, .loc 3 5 0 0), (49, .im (.sl (e.moves.map Move.c))), (50, .im (.int e.moves.length)), (51, .im (.int g.1)),
      (7, if g.2 = [] then .sx [] else .vec 78 43 4 (g.2.map Purity.c))], [(3, 5, [x.c])], if g.2 = [] then [] else [(78, 4, g.2.length)]⟩)
    (fun g => g.1 ≤ e.moves.length ∧ g.2 ++ cookGo x g.1 (e.moves.drop g.1) = cookGo x 0 e.moves ∧ g.2.length ≤ g.1) (fun g => e.moves.length - g.1) (0, []) ?_ ⟨Nat.zero_le _, rfl, Nat.zero_le _⟩ ?_
  · simp only [Int.natCast_zero, Recipe.c, eq_self, go_sem, Evid.iv, Evid.c, Place.c, Move.c, Cert.c, Recall.c, Purity.c, Sample.c, Recipe.c, ints, ic]
  · intro ⟨i, l⟩ ⟨hi, ha, hl⟩
    dsimp only at hi ha hl
    by_cases hp : (i : Int) < e.moves.length
    · have hd : decide ((i : Int) < e.moves.length) = true := decide_eq_true hp
      obtain ⟨m, hx⟩ := at_nat hp
      have n1 := i64_ok (n := (i : Int) + 1) (by omega)
      rw [drop_cons hx, cookGo] at ha
      rcases l with _ | ⟨y, l⟩
      · skip
        have hlen : ∀ (c : List IV), c ∈ List.map Purity.c ([]) → c.length = 4 := fun c hc => by
          obtain ⟨z, _, rfl⟩ := List.mem_map.1 hc; rfl
        simp only [List.map_cons, List.map_nil] at hlen
        simp only [List.length_cons, List.length_nil] at hl
        simp only [hd, List.getElem?_map, hx, Move.c, Recipe.c, eq_self, go_sem, Evid.iv, Evid.c, Place.c, Move.c, Cert.c, Recall.c, Purity.c, Sample.c, Recipe.c, ints, ic]
        refine Two_of (fun hf => ?_) (fun hf => ?_)
        · simp only [hf, List.getElem?_map, hx, Move.c, Recipe.c, eq_self, go_sem, Evid.iv, Evid.c, Place.c, Move.c, Cert.c, Recall.c, Purity.c, Sample.c, Recipe.c, ints, ic]
          refine Two_of (fun ht => ?_) (fun ht => ?_)
          · rw [hf, ht, Bool.and_self, if_pos rfl] at ha
            simp only [hf, ht, List.getElem?_map, hx, Move.c, Recipe.c, eq_self, go_sem, Evid.iv, Evid.c, Place.c, Move.c, Cert.c, Recall.c, Purity.c, Sample.c, Recipe.c, ints, ic]
            refine ⟨hlen, by simp, ?_⟩
            try refine ⟨by omega, ?_⟩
            refine RoundP_of (i + 1, [] ++ [⟨i, x.mat, x.least, x.most⟩]) ?_ ?_ ⟨?_, ?_, ?_⟩
            · simp only [n1, Recipe.c, Int.natCast_add, eq_self, List.map_append, List.length_append, Purity.c, go_sem, Evid.iv, Evid.c, Place.c, Move.c, Cert.c, Recall.c, Purity.c, Sample.c, Recipe.c, ints, ic]
            · show e.moves.length - (i + 1) < e.moves.length - i; omega
            · show i + 1 ≤ e.moves.length; omega
            · dsimp only; rw [← ha]; simp only [List.append_assoc, List.cons_append, List.nil_append]
            · dsimp only; simp only [List.length_append, List.length_cons, List.length_nil]; omega
          · rw [hf, ht, Bool.and_false, if_neg Bool.false_ne_true] at ha
            simp only [hf, ht, List.getElem?_map, hx, Move.c, Recipe.c, eq_self, go_sem, Evid.iv, Evid.c, Place.c, Move.c, Cert.c, Recall.c, Purity.c, Sample.c, Recipe.c, ints, ic]
            refine RoundP_of (i + 1, []) ?_ ?_ ⟨?_, ?_, ?_⟩
            · simp only [n1, Recipe.c, Int.natCast_add, eq_self, go_sem, Evid.iv, Evid.c, Place.c, Move.c, Cert.c, Recall.c, Purity.c, Sample.c, Recipe.c, ints, ic]
            · show e.moves.length - (i + 1) < e.moves.length - i; omega
            · show i + 1 ≤ e.moves.length; omega
            · exact ha
            · dsimp only; simp only [List.length_cons, List.length_nil]; omega
        · rw [hf, Bool.false_and, if_neg Bool.false_ne_true] at ha
          simp only [hf, List.getElem?_map, hx, Move.c, Recipe.c, eq_self, go_sem, Evid.iv, Evid.c, Place.c, Move.c, Cert.c, Recall.c, Purity.c, Sample.c, Recipe.c, ints, ic]
          refine RoundP_of (i + 1, []) ?_ ?_ ⟨?_, ?_, ?_⟩
          · simp only [n1, Recipe.c, Int.natCast_add, eq_self, go_sem, Evid.iv, Evid.c, Place.c, Move.c, Cert.c, Recall.c, Purity.c, Sample.c, Recipe.c, ints, ic]
          · show e.moves.length - (i + 1) < e.moves.length - i; omega
          · show i + 1 ≤ e.moves.length; omega
          · exact ha
          · dsimp only; simp only [List.length_cons, List.length_nil]; omega
      · skip
        have hlen : ∀ (c : List IV), c ∈ List.map Purity.c ((y :: l)) → c.length = 4 := fun c hc => by
          obtain ⟨z, _, rfl⟩ := List.mem_map.1 hc; rfl
        simp only [List.map_cons, List.map_nil] at hlen
        simp only [List.length_cons, List.length_nil] at hl
        simp only [hd, List.getElem?_map, hx, Move.c, Recipe.c, eq_self, go_sem, Evid.iv, Evid.c, Place.c, Move.c, Cert.c, Recall.c, Purity.c, Sample.c, Recipe.c, ints, ic]
        refine Two_of (fun hf => ?_) (fun hf => ?_)
        · simp only [hf, List.getElem?_map, hx, Move.c, Recipe.c, eq_self, go_sem, Evid.iv, Evid.c, Place.c, Move.c, Cert.c, Recall.c, Purity.c, Sample.c, Recipe.c, ints, ic]
          refine Two_of (fun ht => ?_) (fun ht => ?_)
          · rw [hf, ht, Bool.and_self, if_pos rfl] at ha
            simp only [hf, ht, List.getElem?_map, hx, Move.c, Recipe.c, eq_self, go_sem, Evid.iv, Evid.c, Place.c, Move.c, Cert.c, Recall.c, Purity.c, Sample.c, Recipe.c, ints, ic]
            refine ⟨hlen, by simp, ?_⟩
            try refine ⟨by omega, ?_⟩
            refine RoundP_of (i + 1, (y :: l) ++ [⟨i, x.mat, x.least, x.most⟩]) ?_ ?_ ⟨?_, ?_, ?_⟩
            · simp only [n1, Recipe.c, Int.natCast_add, eq_self, List.map_append, List.length_append, Purity.c, go_sem, Evid.iv, Evid.c, Place.c, Move.c, Cert.c, Recall.c, Purity.c, Sample.c, Recipe.c, ints, ic]
            · show e.moves.length - (i + 1) < e.moves.length - i; omega
            · show i + 1 ≤ e.moves.length; omega
            · dsimp only; rw [← ha]; simp only [List.append_assoc, List.cons_append, List.nil_append]
            · dsimp only; simp only [List.length_append, List.length_cons, List.length_nil]; omega
          · rw [hf, ht, Bool.and_false, if_neg Bool.false_ne_true] at ha
            simp only [hf, ht, List.getElem?_map, hx, Move.c, Recipe.c, eq_self, go_sem, Evid.iv, Evid.c, Place.c, Move.c, Cert.c, Recall.c, Purity.c, Sample.c, Recipe.c, ints, ic]
            refine RoundP_of (i + 1, (y :: l)) ?_ ?_ ⟨?_, ?_, ?_⟩
            · simp only [n1, Recipe.c, Int.natCast_add, eq_self, go_sem, Evid.iv, Evid.c, Place.c, Move.c, Cert.c, Recall.c, Purity.c, Sample.c, Recipe.c, ints, ic]
            · show e.moves.length - (i + 1) < e.moves.length - i; omega
            · show i + 1 ≤ e.moves.length; omega
            · exact ha
            · dsimp only; simp only [List.length_cons, List.length_nil]; omega
        · rw [hf, Bool.false_and, if_neg Bool.false_ne_true] at ha
          simp only [hf, List.getElem?_map, hx, Move.c, Recipe.c, eq_self, go_sem, Evid.iv, Evid.c, Place.c, Move.c, Cert.c, Recall.c, Purity.c, Sample.c, Recipe.c, ints, ic]
          refine RoundP_of (i + 1, (y :: l)) ?_ ?_ ⟨?_, ?_, ?_⟩
          · simp only [n1, Recipe.c, Int.natCast_add, eq_self, go_sem, Evid.iv, Evid.c, Place.c, Move.c, Cert.c, Recall.c, Purity.c, Sample.c, Recipe.c, ints, ic]
          · show e.moves.length - (i + 1) < e.moves.length - i; omega
          · show i + 1 ≤ e.moves.length; omega
          · exact ha
          · dsimp only; simp only [List.length_cons, List.length_nil]; omega
    · have hd : decide ((i : Int) < e.moves.length) = false := decide_eq_false hp
      rw [List.drop_of_length_le (by omega), cookGo, List.append_nil] at ha
      rcases l with _ | ⟨y, l⟩
      · have hb := ha.symm
        clear ha
        simp only [eq_self, resP, purs, *, go_sem, Evid.iv, Evid.c, Place.c, Move.c, Cert.c, Recall.c, Purity.c, Sample.c, Recipe.c, ints, ic]
      · have hb := ha.symm
        clear ha
        simp only [eq_self, resP, purs, *, go_sem, Evid.iv, Evid.c, Place.c, Move.c, Cert.c, Recall.c, Purity.c, Sample.c, Recipe.c, ints, ic]
end Go.Proofs.YtnjkhiafjcajaaaGreat

namespace Go.Proofs.YtnjkhiafjcajaaaGreat
set_option linter.all false
open Go.Abs

theorem idx_btw {i n : Int} : idx i n = btw i 0 (n - 1) := by
  rcases h : idx i n with _ | _
  · rw [idx_not] at h
    exact (btw_not.2 (by omega)).symm
  · rw [idx_iff] at h
    exact (btw_iff.2 (by omega)).symm
end Go.Proofs.YtnjkhiafjcajaaaGreat

namespace Go.Proofs.YtnjkhiafjcajaaaGreat
set_option linter.all false
open Go.Abs

end Go.Proofs.YtnjkhiafjcajaaaGreat
