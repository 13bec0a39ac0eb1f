/- Every function of layer 19 returns what its reference returns, for all evidence, samples and recipes that are few. No further condition. -/
import Derived.Test.YtpnlfkaijdjhlaaRows
import Derived.Test.YtpnlfkaijdjhlaaC29
import Derived.Test.YtpnlfkaijdjhlaaC30
namespace Go.Proofs.Ytpnlfkaijdjhlaa
set_option linter.all false
open Go.Abs Go.ChangeAt

theorem c3 (ys : List IV) (h : FitsL G 6 [28, 29, 30, 33] ys) : Ctr G.P 3 ys (· = .bool true) := by
  match ys, h with
  | [y1, y2, y3, y4], h =>
    obtain ⟨h1, h2, h3, h4, _⟩ := h
    obtain ⟨_, rfl, g1⟩ := fitsA_struct rfl h1
    obtain ⟨e, rfl⟩ := fits_Evid g1
    obtain ⟨ss, e2⟩ := fits_list Sample.c rfl (fun _ hc => fits_Sample hc) (fitsA_one rfl h2)
    cases e2
    obtain ⟨rs, e3⟩ := fits_list Recipe.c rfl (fun _ hc => fits_Recipe hc) (fitsA_one rfl h3)
    cases e3
    obtain ⟨_, rfl, g4⟩ := fitsA_struct rfl h4
    obtain ⟨s, rfl⟩ := fits_Sample g4
    exact w3 e ss rs s
theorem own : ownKnob Try.prog.godebug = none := by kernel_rfl
theorem laidOut : laidOutB Try.prog = true := by kernel_rfl
set_option maxRecDepth 100000 in
theorem lifted3 (os : Os) (started : os.Started) (H : Type) (enc : TypeId × Value → H) :
    ReturnsInHanded {} Try.checked os 3 .any (Rows.sampleTellsSpec.pre6 enc Try.prog Try.f3 Rows.sampleTellsRow.domain false) (Rows.sampleTellsSpec.post enc Try.prog Try.f3 false true false false) := by
  refine returnsInHanded_of_change (C := Try.checked) own started (by kernel_rfl) Try.func3
    (ChangeSpec.witness6 (enc := enc) (C := Try.checked) false ⟨#[], #[.agg #[.int .i64 0, .int .i64 0, .int .i64 0, .slice none 0 0, .slice none 0 0, .slice none 0 0, .slice none 0 0, .slice none 0 0], .slice none 0 0, .slice none 0 0, .agg #[.int .i64 0, .slice none 0 0, .int .i64 0]], []⟩ 8 (by kernel_rfl) (by kernel_rfl) (by kernel_rfl) (by kernel_rfl)) ?_
  intro W base args ds gs before hval0 hW hcnd _
  refine law_calls (b0 := base) good laidOut 6 [28, 29, 30, 33] rfl rfl rfl Try.underlying4 (by kernel_rfl) rfl ?_ c3 hval0 hW
  intro ds hds
  match ds, hds with
  | [d1, d2, d3, d4], _ => rfl
theorem over3 : Rows.SampleTellsSaid :=
  OpenClaim.holds_of_wide 3 Try.f3 rfl rfl rfl rfl rfl rfl rfl ⟨rfl, rfl, rfl, rfl, rfl⟩ rfl rfl rfl rfl rfl (by kernel_rfl) Try.func3 (by kernel_rfl)
    (of_decide_eq_true (by kernel_rfl)) (by unfold Func.isWrapper; first | (rw [if_pos (by decide +kernel)]; kernel_rfl) | (rw [if_neg (by decide +kernel)]; exact ⟨rfl, rfl⟩))
    (fun os started H enc _ => lifted3 os started H enc)
end Go.Proofs.Ytpnlfkaijdjhlaa
