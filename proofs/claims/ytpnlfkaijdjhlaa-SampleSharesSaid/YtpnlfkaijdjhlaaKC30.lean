/- A part of the proof: what functions of the program do, and the layer under it. No further condition. -/
import Derived.Test.YtpnlfkaijdjhlaaKD1
import Derived.Test.YtpnlfkaijdjhlaaKA4
namespace Go.Proofs.Ytpnlfkaijdjhlaa
set_option linter.all false
open Go.Abs

theorem fits_int {t : TypeId} (hk : (G.ti t).kind = .it .i64) : ∀ {n : Nat} {xs : List IV}, Fits G n t xs → ∃ i, xs = [.int i]
  | 0, _, h => h.elim
  | n + 1, xs, h => by
    unfold Fits at h
    rw [hk] at h
    obtain ⟨i, rfl, _⟩ := h
    exact ⟨i, rfl⟩
theorem fits_bool {t : TypeId} (hk : (G.ti t).kind = .bl) : ∀ {n : Nat} {xs : List IV}, Fits G n t xs → ∃ i, xs = [.bool i]
  | 0, _, h => h.elim
  | n + 1, xs, h => by
    unfold Fits at h
    rw [hk] at h
    exact h
theorem list_of {α : Type} {f : α → List IV} : ∀ {es : List (List IV)}, (∀ c ∈ es, ∃ p, c = f p) → ∃ l : List α, es = l.map f
  | [], _ => ⟨[], rfl⟩
  | c :: es, h => by
    obtain ⟨p, rfl⟩ := h c (List.mem_cons_self ..)
    obtain ⟨l, rfl⟩ := list_of fun c hc => h c (List.mem_cons_of_mem _ hc)
    exact ⟨p :: l, rfl⟩
theorem fits_list {α : Type} (f : α → List IV) {t e : TypeId} (hk : (G.ti t).kind = .sl e) (hf : ∀ {n : Nat} (c : List IV), Fits G n e c → ∃ p, c = f p) : ∀ {n : Nat} {xs : List IV}, Fits G n t xs → ∃ l : List α, xs = [.sl (l.map f)]
  | 0, _, h => h.elim
  | n + 1, xs, h => by
    unfold Fits at h
    rw [hk] at h
    obtain ⟨es, rfl, _, h⟩ := h
    obtain ⟨l, rfl⟩ := list_of fun c hc => hf c (h c hc)
    exact ⟨l, rfl⟩
theorem fits_ints {t e : TypeId} (hk : (G.ti t).kind = .sl e) (he : (G.ti e).kind = .it .i64) {n : Nat} {xs : List IV} (h : Fits G n t xs) : ∃ l : List Int, xs = [ints l] :=
  fits_list ic hk (fun _ hc => fits_int he hc) h
theorem of_len2 {α : Type} : ∀ {l : List α}, l.length = 2 → ∃ x0 x1, l = [x0, x1]
  | [x0, x1], _ => ⟨x0, x1, rfl⟩
theorem of_len3 {α : Type} : ∀ {l : List α}, l.length = 3 → ∃ x0 x1 x2, l = [x0, x1, x2]
  | [x0, x1, x2], _ => ⟨x0, x1, x2, rfl⟩
theorem of_len4 {α : Type} : ∀ {l : List α}, l.length = 4 → ∃ x0 x1 x2 x3, l = [x0, x1, x2, x3]
  | [x0, x1, x2, x3], _ => ⟨x0, x1, x2, x3, rfl⟩
theorem of_len5 {α : Type} : ∀ {l : List α}, l.length = 5 → ∃ x0 x1 x2 x3 x4, l = [x0, x1, x2, x3, x4]
  | [x0, x1, x2, x3, x4], _ => ⟨x0, x1, x2, x3, x4, rfl⟩
theorem of_len6 {α : Type} : ∀ {l : List α}, l.length = 6 → ∃ x0 x1 x2 x3 x4 x5, l = [x0, x1, x2, x3, x4, x5]
  | [x0, x1, x2, x3, x4, x5], _ => ⟨x0, x1, x2, x3, x4, x5, rfl⟩
theorem of_len7 {α : Type} : ∀ {l : List α}, l.length = 7 → ∃ x0 x1 x2 x3 x4 x5 x6, l = [x0, x1, x2, x3, x4, x5, x6]
  | [x0, x1, x2, x3, x4, x5, x6], _ => ⟨x0, x1, x2, x3, x4, x5, x6, rfl⟩
theorem of_len8 {α : Type} : ∀ {l : List α}, l.length = 8 → ∃ x0 x1 x2 x3 x4 x5 x6 x7, l = [x0, x1, x2, x3, x4, x5, x6, x7]
  | [x0, x1, x2, x3, x4, x5, x6, x7], _ => ⟨x0, x1, x2, x3, x4, x5, x6, x7, rfl⟩
theorem fits_Place : ∀ {n : Nat} {xs : List IV}, Fits G n 68 xs → ∃ p : Place, xs = p.c
  | 0, _, h => h.elim
  | n + 1, xs, h => by
    unfold Fits at h
    have hk : (G.ti 68).kind = .st [(0, 3), (1, 3), (2, 3)] := rfl
    rw [hk] at h
    obtain ⟨hl, hf⟩ := h
    have hl : xs.length = 3 := hl
    obtain ⟨x0, x1, x2, rfl⟩ := of_len3 hl
    have h0 : Fits G n 3 [x0] := hf (0, 3) (by simp)
    obtain ⟨i0, e0⟩ := fits_int rfl h0
    cases e0
    have h1 : Fits G n 3 [x1] := hf (1, 3) (by simp)
    obtain ⟨i1, e1⟩ := fits_int rfl h1
    cases e1
    have h2 : Fits G n 3 [x2] := hf (2, 3) (by simp)
    obtain ⟨i2, e2⟩ := fits_int rfl h2
    cases e2
    exact ⟨⟨i0, i1, i2⟩, rfl⟩

theorem fits_Move : ∀ {n : Nat} {xs : List IV}, Fits G n 64 xs → ∃ p : Move, xs = p.c
  | 0, _, h => h.elim
  | n + 1, xs, h => by
    unfold Fits at h
    have hk : (G.ti 64).kind = .st [(0, 3), (1, 3), (2, 3), (3, 3), (4, 3), (5, 4)] := rfl
    rw [hk] at h
    obtain ⟨hl, hf⟩ := h
    have hl : xs.length = 6 := hl
    obtain ⟨x0, x1, x2, x3, x4, x5, rfl⟩ := of_len6 hl
    have h0 : Fits G n 3 [x0] := hf (0, 3) (by simp)
    obtain ⟨i0, e0⟩ := fits_int rfl h0
    cases e0
    have h1 : Fits G n 3 [x1] := hf (1, 3) (by simp)
    obtain ⟨i1, e1⟩ := fits_int rfl h1
    cases e1
    have h2 : Fits G n 3 [x2] := hf (2, 3) (by simp)
    obtain ⟨i2, e2⟩ := fits_int rfl h2
    cases e2
    have h3 : Fits G n 3 [x3] := hf (3, 3) (by simp)
    obtain ⟨i3, e3⟩ := fits_int rfl h3
    cases e3
    have h4 : Fits G n 3 [x4] := hf (4, 3) (by simp)
    obtain ⟨i4, e4⟩ := fits_int rfl h4
    cases e4
    have h5 : Fits G n 4 [x5] := hf (5, 4) (by simp)
    obtain ⟨i5, e5⟩ := fits_bool rfl h5
    cases e5
    exact ⟨⟨i0, i1, i2, i3, i4, i5⟩, rfl⟩

theorem fits_Cert : ∀ {n : Nat} {xs : List IV}, Fits G n 80 xs → ∃ p : Cert, xs = p.c
  | 0, _, h => h.elim
  | n + 1, xs, h => by
    unfold Fits at h
    have hk : (G.ti 80).kind = .st [(0, 3), (1, 3), (2, 3), (3, 3), (4, 3), (5, 3)] := rfl
    rw [hk] at h
    obtain ⟨hl, hf⟩ := h
    have hl : xs.length = 6 := hl
    obtain ⟨x0, x1, x2, x3, x4, x5, rfl⟩ := of_len6 hl
    have h0 : Fits G n 3 [x0] := hf (0, 3) (by simp)
    obtain ⟨i0, e0⟩ := fits_int rfl h0
    cases e0
    have h1 : Fits G n 3 [x1] := hf (1, 3) (by simp)
    obtain ⟨i1, e1⟩ := fits_int rfl h1
    cases e1
    have h2 : Fits G n 3 [x2] := hf (2, 3) (by simp)
    obtain ⟨i2, e2⟩ := fits_int rfl h2
    cases e2
    have h3 : Fits G n 3 [x3] := hf (3, 3) (by simp)
    obtain ⟨i3, e3⟩ := fits_int rfl h3
    cases e3
    have h4 : Fits G n 3 [x4] := hf (4, 3) (by simp)
    obtain ⟨i4, e4⟩ := fits_int rfl h4
    cases e4
    have h5 : Fits G n 3 [x5] := hf (5, 3) (by simp)
    obtain ⟨i5, e5⟩ := fits_int rfl h5
    cases e5
    exact ⟨⟨i0, i1, i2, i3, i4, i5⟩, rfl⟩

theorem fits_Recall : ∀ {n : Nat} {xs : List IV}, Fits G n 83 xs → ∃ p : Recall, xs = p.c
  | 0, _, h => h.elim
  | n + 1, xs, h => by
    unfold Fits at h
    have hk : (G.ti 83).kind = .st [(0, 3), (1, 3)] := rfl
    rw [hk] at h
    obtain ⟨hl, hf⟩ := h
    have hl : xs.length = 2 := hl
    obtain ⟨x0, x1, rfl⟩ := of_len2 hl
    have h0 : Fits G n 3 [x0] := hf (0, 3) (by simp)
    obtain ⟨i0, e0⟩ := fits_int rfl h0
    cases e0
    have h1 : Fits G n 3 [x1] := hf (1, 3) (by simp)
    obtain ⟨i1, e1⟩ := fits_int rfl h1
    cases e1
    exact ⟨⟨i0, i1⟩, rfl⟩

theorem fits_Purity : ∀ {n : Nat} {xs : List IV}, Fits G n 52 xs → ∃ p : Purity, xs = p.c
  | 0, _, h => h.elim
  | n + 1, xs, h => by
    unfold Fits at h
    have hk : (G.ti 52).kind = .st [(0, 3), (1, 3), (2, 3), (3, 3)] := rfl
    rw [hk] at h
    obtain ⟨hl, hf⟩ := h
    have hl : xs.length = 4 := hl
    obtain ⟨x0, x1, x2, x3, rfl⟩ := of_len4 hl
    have h0 : Fits G n 3 [x0] := hf (0, 3) (by simp)
    obtain ⟨i0, e0⟩ := fits_int rfl h0
    cases e0
    have h1 : Fits G n 3 [x1] := hf (1, 3) (by simp)
    obtain ⟨i1, e1⟩ := fits_int rfl h1
    cases e1
    have h2 : Fits G n 3 [x2] := hf (2, 3) (by simp)
    obtain ⟨i2, e2⟩ := fits_int rfl h2
    cases e2
    have h3 : Fits G n 3 [x3] := hf (3, 3) (by simp)
    obtain ⟨i3, e3⟩ := fits_int rfl h3
    cases e3
    exact ⟨⟨i0, i1, i2, i3⟩, rfl⟩

theorem fits_Sample : ∀ {n : Nat} {xs : List IV}, Fits G n 33 xs → ∃ p : Sample, xs = p.c
  | 0, _, h => h.elim
  | n + 1, xs, h => by
    unfold Fits at h
    have hk : (G.ti 33).kind = .st [(0, 3), (1, 31), (2, 3)] := rfl
    rw [hk] at h
    obtain ⟨hl, hf⟩ := h
    have hl : xs.length = 3 := hl
    obtain ⟨x0, x1, x2, rfl⟩ := of_len3 hl
    have h0 : Fits G n 3 [x0] := hf (0, 3) (by simp)
    obtain ⟨i0, e0⟩ := fits_int rfl h0
    cases e0
    have h1 : Fits G n 31 [x1] := hf (1, 31) (by simp)
    obtain ⟨i1, e1⟩ := fits_ints rfl rfl h1
    cases e1
    have h2 : Fits G n 3 [x2] := hf (2, 3) (by simp)
    obtain ⟨i2, e2⟩ := fits_int rfl h2
    cases e2
    exact ⟨⟨i0, i1, i2⟩, rfl⟩

theorem fits_Recipe : ∀ {n : Nat} {xs : List IV}, Fits G n 60 xs → ∃ p : Recipe, xs = p.c
  | 0, _, h => h.elim
  | n + 1, xs, h => by
    unfold Fits at h
    have hk : (G.ti 60).kind = .st [(0, 3), (1, 3), (2, 3), (3, 3), (4, 3)] := rfl
    rw [hk] at h
    obtain ⟨hl, hf⟩ := h
    have hl : xs.length = 5 := hl
    obtain ⟨x0, x1, x2, x3, x4, rfl⟩ := of_len5 hl
    have h0 : Fits G n 3 [x0] := hf (0, 3) (by simp)
    obtain ⟨i0, e0⟩ := fits_int rfl h0
    cases e0
    have h1 : Fits G n 3 [x1] := hf (1, 3) (by simp)
    obtain ⟨i1, e1⟩ := fits_int rfl h1
    cases e1
    have h2 : Fits G n 3 [x2] := hf (2, 3) (by simp)
    obtain ⟨i2, e2⟩ := fits_int rfl h2
    cases e2
    have h3 : Fits G n 3 [x3] := hf (3, 3) (by simp)
    obtain ⟨i3, e3⟩ := fits_int rfl h3
    cases e3
    have h4 : Fits G n 3 [x4] := hf (4, 3) (by simp)
    obtain ⟨i4, e4⟩ := fits_int rfl h4
    cases e4
    exact ⟨⟨i0, i1, i2, i3, i4⟩, rfl⟩

theorem fits_Evid : ∀ {n : Nat} {xs : List IV}, Fits G n 28 xs → ∃ p : Evid, xs = p.c
  | 0, _, h => h.elim
  | n + 1, xs, h => by
    unfold Fits at h
    have hk : (G.ti 28).kind = .st [(0, 3), (1, 3), (2, 3), (3, 22), (4, 23), (5, 24), (6, 25), (7, 26)] := rfl
    rw [hk] at h
    obtain ⟨hl, hf⟩ := h
    have hl : xs.length = 8 := hl
    obtain ⟨x0, x1, x2, x3, x4, x5, x6, x7, rfl⟩ := of_len8 hl
    have h0 : Fits G n 3 [x0] := hf (0, 3) (by simp)
    obtain ⟨i0, e0⟩ := fits_int rfl h0
    cases e0
    have h1 : Fits G n 3 [x1] := hf (1, 3) (by simp)
    obtain ⟨i1, e1⟩ := fits_int rfl h1
    cases e1
    have h2 : Fits G n 3 [x2] := hf (2, 3) (by simp)
    obtain ⟨i2, e2⟩ := fits_int rfl h2
    cases e2
    have h3 : Fits G n 22 [x3] := hf (3, 22) (by simp)
    obtain ⟨i3, e3⟩ := fits_list Place.c rfl (fun c hc => fits_Place hc) h3
    cases e3
    have h4 : Fits G n 23 [x4] := hf (4, 23) (by simp)
    obtain ⟨i4, e4⟩ := fits_list Move.c rfl (fun c hc => fits_Move hc) h4
    cases e4
    have h5 : Fits G n 24 [x5] := hf (5, 24) (by simp)
    obtain ⟨i5, e5⟩ := fits_list Cert.c rfl (fun c hc => fits_Cert hc) h5
    cases e5
    have h6 : Fits G n 25 [x6] := hf (6, 25) (by simp)
    obtain ⟨i6, e6⟩ := fits_list Recall.c rfl (fun c hc => fits_Recall hc) h6
    cases e6
    have h7 : Fits G n 26 [x7] := hf (7, 26) (by simp)
    obtain ⟨i7, e7⟩ := fits_list Purity.c rfl (fun c hc => fits_Purity hc) h7
    cases e7
    exact ⟨⟨i0, i1, i2, i3, i4, i5, i6, i7⟩, rfl⟩


theorem fitsA_struct {t : TypeId} {n : Nat} {y : IV} (hk : aggK (G.ti t).kind = true) (h : FitsA G n t y) : ∃ xs, y = .agg xs ∧ Fits G n t xs := by
  unfold FitsA at h
  rwa [if_pos hk] at h
theorem fitsA_one {t : TypeId} {n : Nat} {y : IV} (hk : aggK (G.ti t).kind = false) (h : FitsA G n t y) : Fits G n t [y] := by
  unfold FitsA at h
  rwa [if_neg (by rw [hk]; simp)] at h
end Go.Proofs.Ytpnlfkaijdjhlaa
