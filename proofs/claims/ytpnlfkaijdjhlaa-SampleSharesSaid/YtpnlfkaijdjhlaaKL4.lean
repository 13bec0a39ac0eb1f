/- A load whose shares differ from those of a right sample by at most the slack keeps its purities, and a load that keeps them differs by less than the slack and one per mille, for every sample and every load. No further condition. -/
import Derived.Test.YtpnlfkaijdjhlaaRows
import Derived.Test.YtpnlfkaijdjhlaaKS5
import Derived.Test.YtpnlfkaijdjhlaaKC30
namespace Go.Proofs.Ytpnlfkaijdjhlaa
set_option linter.all false
open Go.Abs Go.ChangeAt

theorem c4_ (ys : List IV) (h : FitsL G 6 [33, 31] ys) : Ctr G.P 4 ys (· = .bool true) := by
  match ys, h with
  | [y1, y2], h =>
    obtain ⟨h1, h2, _⟩ := h
    obtain ⟨_, rfl, g1⟩ := fitsA_struct rfl h1
    obtain ⟨s, rfl⟩ := fits_Sample g1
    obtain ⟨l, e2⟩ := fits_ints rfl rfl (fitsA_one rfl h2)
    cases e2
    exact w4 s l
theorem own4 : ownKnob Try.prog.godebug = none := by kernel_rfl
theorem laidOut4 : laidOutB Try.prog = true := by kernel_rfl
set_option maxRecDepth 100000 in
theorem lifted4 (os : Os) (started : os.Started) (H : Type) (enc : TypeId × Value → H) :
    ReturnsInHanded {} Try.checked os 4 .any (Rows.sampleSharesSpec.pre6 enc Try.prog Try.f4 Rows.sampleSharesRow.domain false) (Rows.sampleSharesSpec.post enc Try.prog Try.f4 false true false false) := by
  refine returnsInHanded_of_change (C := Try.checked) own4 started (by kernel_rfl) Try.func4
    (ChangeSpec.witness6 (enc := enc) (C := Try.checked) false ⟨#[], #[.agg #[.int .i64 0, .slice none 0 0, .int .i64 0], .slice none 0 0], []⟩ 8 (by kernel_rfl) (by kernel_rfl) (by kernel_rfl) (by kernel_rfl)) ?_
  intro W base args ds gs before hval0 hW hcnd _
  refine law_calls (b0 := base) good laidOut4 6 [33, 31] rfl rfl rfl Try.underlying4 (by kernel_rfl) rfl ?_ c4_ hval0 hW
  intro ds hds
  match ds, hds with
  | [d1, d2], _ => rfl
theorem over4 : Rows.SampleSharesSaid :=
  OpenClaim.holds_of_wide 4 Try.f4 rfl rfl rfl rfl rfl rfl rfl ⟨rfl, rfl, rfl, rfl, rfl⟩ rfl rfl rfl rfl rfl (by kernel_rfl) Try.func4 (by kernel_rfl)
    (of_decide_eq_true (by kernel_rfl)) (by unfold Func.isWrapper; first | (rw [if_pos (by decide +kernel)]; kernel_rfl) | (rw [if_neg (by decide +kernel)]; exact ⟨rfl, rfl⟩))
    (fun os started H enc _ => lifted4 os started H enc)
end Go.Proofs.Ytpnlfkaijdjhlaa
