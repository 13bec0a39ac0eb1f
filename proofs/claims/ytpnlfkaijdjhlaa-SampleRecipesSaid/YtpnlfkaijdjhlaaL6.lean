/- The further purities of a recipe are those of the moves that go from the one place to the other one, each once, ascending, for all evidence that is few and every recipe. No further condition. -/
import Derived.Test.YtpnlfkaijdjhlaaRows
import Derived.Test.YtpnlfkaijdjhlaaC31
import Derived.Test.YtpnlfkaijdjhlaaC30
namespace Go.Proofs.Ytpnlfkaijdjhlaa
set_option linter.all false
open Go.Abs Go.ChangeAt

theorem c6 (ys : List IV) (h : FitsL G 6 [28, 60] ys) : Ctr G.P 6 ys (· = .bool true) := by
  match ys, h with
  | [y1, y2], h =>
    obtain ⟨h1, h2, _⟩ := h
    obtain ⟨_, rfl, g1⟩ := fitsA_struct rfl h1
    obtain ⟨e, rfl⟩ := fits_Evid g1
    obtain ⟨_, rfl, g2⟩ := fitsA_struct rfl h2
    obtain ⟨x, rfl⟩ := fits_Recipe g2
    exact w6 e x
theorem own6 : ownKnob Try.prog.godebug = none := by kernel_rfl
theorem laidOut6 : laidOutB Try.prog = true := by kernel_rfl
set_option maxRecDepth 100000 in
theorem lifted6 (os : Os) (started : os.Started) (H : Type) (enc : TypeId × Value → H) :
    ReturnsInHanded {} Try.checked os 6 .any (Rows.sampleRecipesSpec.pre6 enc Try.prog Try.f6 Rows.sampleRecipesRow.domain false) (Rows.sampleRecipesSpec.post enc Try.prog Try.f6 false true false false) := by
  refine returnsInHanded_of_change (C := Try.checked) own6 started (by kernel_rfl) Try.func6
    (ChangeSpec.witness6 (enc := enc) (C := Try.checked) false ⟨#[], #[.agg #[.int .i64 0, .int .i64 0, .int .i64 0, .slice none 0 0, .slice none 0 0, .slice none 0 0, .slice none 0 0, .slice none 0 0], .agg #[.int .i64 0, .int .i64 0, .int .i64 0, .int .i64 0, .int .i64 0]], []⟩ 8 (by kernel_rfl) (by kernel_rfl) (by kernel_rfl) (by kernel_rfl)) ?_
  intro W base args ds gs before hval0 hW hcnd _
  refine law_calls (b0 := base) good laidOut6 6 [28, 60] rfl rfl rfl Try.underlying4 (by kernel_rfl) rfl ?_ c6 hval0 hW
  intro ds hds
  match ds, hds with
  | [d1, d2], _ => rfl
theorem over6 : Rows.SampleRecipesSaid :=
  OpenClaim.holds_of_wide 6 Try.f6 rfl rfl rfl rfl rfl rfl rfl ⟨rfl, rfl, rfl, rfl, rfl⟩ rfl rfl rfl rfl rfl (by kernel_rfl) Try.func6 (by kernel_rfl)
    (of_decide_eq_true (by kernel_rfl)) (by unfold Func.isWrapper; first | (rw [if_pos (by decide +kernel)]; kernel_rfl) | (rw [if_neg (by decide +kernel)]; exact ⟨rfl, rfl⟩))
    (fun os started H enc _ => lifted6 os started H enc)
end Go.Proofs.Ytpnlfkaijdjhlaa
