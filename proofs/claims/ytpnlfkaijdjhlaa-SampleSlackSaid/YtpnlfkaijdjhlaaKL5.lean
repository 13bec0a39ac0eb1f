/- With more slack each purity of a right sample is wider, or as it is, and the purities contain the sample's own shares, for every sample and every further slack. No further condition. -/
import Derived.Test.YtpnlfkaijdjhlaaRows
import Derived.Test.YtpnlfkaijdjhlaaKS3
import Derived.Test.YtpnlfkaijdjhlaaKC30
namespace Go.Proofs.Ytpnlfkaijdjhlaa
set_option linter.all false
open Go.Abs Go.ChangeAt

theorem fits_u16 {y : IV} : ∀ {n : Nat}, Fits G n 57 [y] → ∃ m : Int, y = .sc (.int .u16 m) ∧ 0 ≤ m ∧ m ≤ 65535
  | 0, h => h.elim
  | n + 1, h => by
    unfold Fits at h
    have hk : (G.ti 57).kind = .it .u16 := rfl
    rw [hk] at h
    obtain ⟨i, hi, hw⟩ := h
    cases hi
    unfold Lit.wf at hw
    simp only [Bool.and_eq_true, decide_eq_true_eq] at hw
    exact ⟨i, rfl, hw⟩
theorem c5 (ys : List IV) (h : FitsL G 6 [33, 57] ys) : Ctr G.P 5 ys (· = .bool true) := by
  match ys, h with
  | [y1, y2], h =>
    obtain ⟨h1, h2, _⟩ := h
    obtain ⟨_, rfl, g1⟩ := fitsA_struct rfl h1
    obtain ⟨s, rfl⟩ := fits_Sample g1
    obtain ⟨m, rfl, hm⟩ := fits_u16 (fitsA_one rfl h2)
    exact w5 s m hm
theorem own5 : ownKnob Try.prog.godebug = none := by kernel_rfl
theorem laidOut5 : laidOutB Try.prog = true := by kernel_rfl
set_option maxRecDepth 100000 in
theorem lifted5 (os : Os) (started : os.Started) (H : Type) (enc : TypeId × Value → H) :
    ReturnsInHanded {} Try.checked os 5 .any (Rows.sampleSlackSpec.pre6 enc Try.prog Try.f5 Rows.sampleSlackRow.domain false) (Rows.sampleSlackSpec.post enc Try.prog Try.f5 false true false false) := by
  refine returnsInHanded_of_change (C := Try.checked) own5 started (by kernel_rfl) Try.func5
    (ChangeSpec.witness6 (enc := enc) (C := Try.checked) false ⟨#[], #[.agg #[.int .i64 0, .slice none 0 0, .int .i64 0], .int .u16 0], []⟩ 8 (by kernel_rfl) (by kernel_rfl) (by kernel_rfl) (by kernel_rfl)) ?_
  intro W base args ds gs before hval0 hW hcnd _
  refine law_calls (b0 := base) good laidOut5 6 [33, 57] rfl rfl rfl Try.underlying4 (by kernel_rfl) rfl ?_ c5 hval0 hW
  intro ds hds
  match ds, hds with
  | [d1, d2], _ => rfl
theorem over5 : Rows.SampleSlackSaid :=
  OpenClaim.holds_of_wide 5 Try.f5 rfl rfl rfl rfl rfl rfl rfl ⟨rfl, rfl, rfl, rfl, rfl⟩ rfl rfl rfl rfl rfl (by kernel_rfl) Try.func5 (by kernel_rfl)
    (of_decide_eq_true (by kernel_rfl)) (by unfold Func.isWrapper; first | (rw [if_pos (by decide +kernel)]; kernel_rfl) | (rw [if_neg (by decide +kernel)]; exact ⟨rfl, rfl⟩))
    (fun os started H enc _ => lifted5 os started H enc)
end Go.Proofs.Ytpnlfkaijdjhlaa
