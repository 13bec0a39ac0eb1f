/- A part of the proof. No further condition. -/
import Derived.Test.YtfahloobpegieaaGreatKX10
import Derived.Test.YtfahloobpegieaaGreatKX26
import Derived.Test.YtfahloobpegieaaGreatKX25
set_option linter.all false
set_option maxRecDepth 100000
namespace Go.Proofs.YtfahloobpegieaaGreat
section
open Go.Abs
theorem of_len6 {α : Type} : ∀ {l : List α}, l.length = 6 -> ∃ x0 x1 x2 x3 x4 x5, l = [x0, x1, x2, x3, x4, x5]
 | [x0, x1, x2, x3, x4, x5], _ => ⟨x0, x1, x2, x3, x4, x5, rfl⟩
theorem of_len8 {α : Type} : ∀ {l : List α}, l.length = 8 -> ∃ x0 x1 x2 x3 x4 x5 x6 x7, l = [x0, x1, x2, x3, x4, x5, x6, x7]
 | [x0, x1, x2, x3, x4, x5, x6, x7], _ => ⟨x0, x1, x2, x3, x4, x5, x6, x7, rfl⟩
theorem fits_Place : ∀ {n : Nat} {xs : List IV}, Fits G n 86 xs -> ∃ p : Place, xs = p.c
 | 0, _, h => h.elim
 | n + 1, xs, h => by
  unfold Fits at h; have hk : (G.ti 86).kind = .st [(0, 3), (1, 3), (2, 3)] := rfl; rw [hk] at h; obtain ⟨hl, hf⟩ := h; have hl : xs.length = 3 := hl; obtain ⟨x0, x1, x2, rfl⟩ := of_len3 hl; have h0 : Fits G n 3 [x0] := hf (0, 3) (by simp); obtain ⟨i0, e0⟩ := jbj rfl h0; cases e0; have h1 : Fits G n 3 [x1] := hf (1, 3) (by simp); obtain ⟨i1, e1⟩ := jbj rfl h1; cases e1; have h2 : Fits G n 3 [x2] := hf (2, 3) (by simp); obtain ⟨i2, e2⟩ := jbj rfl h2; cases e2; exact ⟨⟨i0, i1, i2⟩, rfl⟩
theorem fits_Move : ∀ {n : Nat} {xs : List IV}, Fits G n 110 xs -> ∃ p : Move, xs = p.c
 | 0, _, h => h.elim
 | n + 1, xs, h => by
  unfold Fits at h; have hk : (G.ti 110).kind = .st [(0, 3), (1, 3), (2, 3), (3, 3), (4, 3), (5, 4)] := rfl; rw [hk] at h; obtain ⟨hl, hf⟩ := h; have hl : xs.length = 6 := hl; obtain ⟨x0, x1, x2, x3, x4, x5, rfl⟩ := of_len6 hl; have h0 : Fits G n 3 [x0] := hf (0, 3) (by simp); obtain ⟨i0, e0⟩ := jbj rfl h0; cases e0; have h1 : Fits G n 3 [x1] := hf (1, 3) (by simp); obtain ⟨i1, e1⟩ := jbj rfl h1; cases e1; have h2 : Fits G n 3 [x2] := hf (2, 3) (by simp); obtain ⟨i2, e2⟩ := jbj rfl h2; cases e2; have h3 : Fits G n 3 [x3] := hf (3, 3) (by simp); obtain ⟨i3, e3⟩ := jbj rfl h3; cases e3; have h4 : Fits G n 3 [x4] := hf (4, 3) (by simp); obtain ⟨i4, e4⟩ := jbj rfl h4; cases e4; have h5 : Fits G n 4 [x5] := hf (5, 4) (by simp); obtain ⟨i5, e5⟩ := fits_bool rfl h5; cases e5; exact ⟨⟨i0, i1, i2, i3, i4, i5⟩, rfl⟩
theorem fits_Cert : ∀ {n : Nat} {xs : List IV}, Fits G n 33 xs -> ∃ p : Cert, xs = p.c
 | 0, _, h => h.elim
 | n + 1, xs, h => by
  unfold Fits at h; have hk : (G.ti 33).kind = .st [(0, 3), (1, 3), (2, 3), (3, 3), (4, 3), (5, 3)] := rfl; rw [hk] at h; obtain ⟨hl, hf⟩ := h; have hl : xs.length = 6 := hl; obtain ⟨x0, x1, x2, x3, x4, x5, rfl⟩ := of_len6 hl; have h0 : Fits G n 3 [x0] := hf (0, 3) (by simp); obtain ⟨i0, e0⟩ := jbj rfl h0; cases e0; have h1 : Fits G n 3 [x1] := hf (1, 3) (by simp); obtain ⟨i1, e1⟩ := jbj rfl h1; cases e1; have h2 : Fits G n 3 [x2] := hf (2, 3) (by simp); obtain ⟨i2, e2⟩ := jbj rfl h2; cases e2; have h3 : Fits G n 3 [x3] := hf (3, 3) (by simp); obtain ⟨i3, e3⟩ := jbj rfl h3; cases e3; have h4 : Fits G n 3 [x4] := hf (4, 3) (by simp); obtain ⟨i4, e4⟩ := jbj rfl h4; cases e4; have h5 : Fits G n 3 [x5] := hf (5, 3) (by simp); obtain ⟨i5, e5⟩ := jbj rfl h5; cases e5; exact ⟨⟨i0, i1, i2, i3, i4, i5⟩, rfl⟩
theorem fits_Recall : ∀ {n : Nat} {xs : List IV}, Fits G n 35 xs -> ∃ p : Recall, xs = p.c
 | 0, _, h => h.elim
 | n + 1, xs, h => by
  unfold Fits at h; have hk : (G.ti 35).kind = .st [(0, 3), (1, 3)] := rfl; rw [hk] at h; obtain ⟨hl, hf⟩ := h; have hl : xs.length = 2 := hl; obtain ⟨x0, x1, rfl⟩ := of_len2 hl; have h0 : Fits G n 3 [x0] := hf (0, 3) (by simp); obtain ⟨i0, e0⟩ := jbj rfl h0; cases e0; have h1 : Fits G n 3 [x1] := hf (1, 3) (by simp); obtain ⟨i1, e1⟩ := jbj rfl h1; cases e1; exact ⟨⟨i0, i1⟩, rfl⟩
theorem fits_Purity : ∀ {n : Nat} {xs : List IV}, Fits G n 31 xs -> ∃ p : Purity, xs = p.c
 | 0, _, h => h.elim
 | n + 1, xs, h => by
  unfold Fits at h; have hk : (G.ti 31).kind = .st [(0, 3), (1, 3), (2, 3), (3, 3)] := rfl; rw [hk] at h; obtain ⟨hl, hf⟩ := h; have hl : xs.length = 4 := hl; obtain ⟨x0, x1, x2, x3, rfl⟩ := of_len4 hl; have h0 : Fits G n 3 [x0] := hf (0, 3) (by simp); obtain ⟨i0, e0⟩ := jbj rfl h0; cases e0; have h1 : Fits G n 3 [x1] := hf (1, 3) (by simp); obtain ⟨i1, e1⟩ := jbj rfl h1; cases e1; have h2 : Fits G n 3 [x2] := hf (2, 3) (by simp); obtain ⟨i2, e2⟩ := jbj rfl h2; cases e2; have h3 : Fits G n 3 [x3] := hf (3, 3) (by simp); obtain ⟨i3, e3⟩ := jbj rfl h3; cases e3; exact ⟨⟨i0, i1, i2, i3⟩, rfl⟩
theorem fits_Evid : ∀ {n : Nat} {xs : List IV}, Fits G n 28 xs -> ∃ p : Evid, xs = p.c
 | 0, _, h => h.elim
 | n + 1, xs, h => by
  unfold Fits at h; have hk : (G.ti 28).kind = .st [(0, 3), (1, 3), (2, 3), (3, 22), (4, 23), (5, 24), (6, 25), (7, 26)] := rfl; rw [hk] at h; obtain ⟨hl, hf⟩ := h; have hl : xs.length = 8 := hl; obtain ⟨x0, x1, x2, x3, x4, x5, x6, x7, rfl⟩ := of_len8 hl; have h0 : Fits G n 3 [x0] := hf (0, 3) (by simp); obtain ⟨i0, e0⟩ := jbj rfl h0; cases e0; have h1 : Fits G n 3 [x1] := hf (1, 3) (by simp); obtain ⟨i1, e1⟩ := jbj rfl h1; cases e1; have h2 : Fits G n 3 [x2] := hf (2, 3) (by simp); obtain ⟨i2, e2⟩ := jbj rfl h2; cases e2; have h3 : Fits G n 22 [x3] := hf (3, 22) (by simp); obtain ⟨i3, e3⟩ := jf9 Place.c rfl (fun c hc => fits_Place hc) h3; cases e3; have h4 : Fits G n 23 [x4] := hf (4, 23) (by simp); obtain ⟨i4, e4⟩ := jf9 Move.c rfl (fun c hc => fits_Move hc) h4; cases e4; have h5 : Fits G n 24 [x5] := hf (5, 24) (by simp); obtain ⟨i5, e5⟩ := jf9 Cert.c rfl (fun c hc => fits_Cert hc) h5; cases e5; have h6 : Fits G n 25 [x6] := hf (6, 25) (by simp); obtain ⟨i6, e6⟩ := jf9 Recall.c rfl (fun c hc => fits_Recall hc) h6; cases e6; have h7 : Fits G n 26 [x7] := hf (7, 26) (by simp); obtain ⟨i7, e7⟩ := jf9 Purity.c rfl (fun c hc => fits_Purity hc) h7; cases e7; exact ⟨⟨i0, i1, i2, i3, i4, i5, i6, i7⟩, rfl⟩
theorem fitsA_Evid {n : Nat} {y : IV} (h : FitsA G n 28 y) : ∃ e : Evid, y = e.iv := by
 obtain ⟨_, rfl, g⟩ := fitsA_struct rfl h; obtain ⟨e, rfl⟩ := fits_Evid g; exact ⟨e, rfl⟩
end
section
open Go.Abs
theorem fits_Pick : ∀ {n : Nat} {xs : List IV}, Fits G n 105 xs -> ∃ p : Int × Int, xs = pickC p
 | 0, _, h => h.elim
 | n + 1, xs, h => by
  unfold Fits at h; have hk : (G.ti 105).kind = .st [(0, 3), (1, 3)] := rfl; rw [hk] at h; obtain ⟨hl, hf⟩ := h; have hl : xs.length = 2 := hl
  match xs, hl with
  | [x0, x1], _ =>
   have h0 : Fits G n 3 [x0] := hf (0, 3) (by simp); obtain ⟨i0, e0⟩ := jbj rfl h0; cases e0; have h1 : Fits G n 3 [x1] := hf (1, 3) (by simp); obtain ⟨i1, e1⟩ := jbj rfl h1; cases e1; exact ⟨(i0, i1), rfl⟩
theorem fitsA_picks {n : Nat} {y : IV} (h : FitsA G n 29 y) : ∃ l : List (Int × Int), y = .sl (l.map pickC) := by
 obtain ⟨l, e⟩ := jf9 pickC rfl (fun _ hc => fits_Pick hc) (jn6 rfl h); cases e; exact ⟨l, rfl⟩
theorem fits_u8 {y : IV} : ∀ {n : Nat}, Fits G n 5 [y] -> ∃ m : Int, y = .sc (.int .u8 m) /\ 0 <= m /\ m <= 255
 | 0, h => h.elim
 | n + 1, h => by
  unfold Fits at h; have hk : (G.ti 5).kind = .it .u8 := rfl; rw [hk] at h; obtain ⟨i, hi, hw⟩ := h; cases hi; unfold Lit.wf at hw; simp only [Bool.and_eq_true, decide_eq_true_eq] at hw; exact ⟨i, rfl, hw⟩
end
end Go.Proofs.YtfahloobpegieaaGreat
