/- The least mass of right picks is at least the sum of the least masses of both of their parts, and each of them, the greatest mass at most the sum of the greatest ones, and no picks weigh nothing, for all small evidence, picks and cuts. No further condition. -/
import Derived.Test.YtfahloobpegieaaGreatKX33
import Derived.Test.YtfahloobpegieaaGreatKX34
import Derived.Test.YtfahloobpegieaaGreatRows
set_option linter.all false
set_option maxRecDepth 100000
namespace Go.Proofs.YtfahloobpegieaaGreat
section
open Go.Abs Go.ChangeAt
theorem k_wa (ys : List IV) (h : FitsL G 6 [28, 29, 5] ys) : Ctr G.P 4 ys (· = .bool true) := by
 obtain ⟨y1, _, rfl, h1, g1⟩ := ji7 h; obtain ⟨y2, _, rfl, h2, g2⟩ := ji7 g1; obtain ⟨y3, _, rfl, h3, g3⟩ := ji7 g2; obtain rfl := fitsL_nil g3; obtain ⟨e, rfl⟩ := fitsA_Evid h1; obtain ⟨ps, rfl⟩ := fitsA_picks h2; obtain ⟨c, rfl, hc⟩ := fits_u8 (jn6 rfl h3); exact w_adds e ps c hc
theorem own4 : ownKnob Tryz.prog.godebug = none := by kernel_rfl
theorem laidOut4 : laidOutB Tryz.prog = true := by kernel_rfl
theorem lifted4 (os : Os) (started : os.Started) (H : Type) (enc : TypeId × Value -> H) :
  ReturnsInHanded {} Tryz.checked os 4 .any (Rows.weighAddsSpec.pre6 enc Tryz.prog Tryz.f4 Rows.weighAddsRow.domain false) (Rows.weighAddsSpec.post enc Tryz.prog Tryz.f4 false true false false) := by
 refine returnsInHanded_of_change (C := Tryz.checked) own4 started (by kernel_rfl) Tryz.func4
  (ChangeSpec.witness6 (enc := enc) (C := Tryz.checked) false ⟨#[], #[.agg #[.int .i64 0, .int .i64 0, .int .i64 0, .slice none 0 0, .slice none 0 0, .slice none 0 0, .slice none 0 0, .slice none 0 0], .slice none 0 0, .int .u8 0], []⟩ 8 (by kernel_rfl) (by kernel_rfl) (by kernel_rfl) (by kernel_rfl)) ?_
 intro W base args ds gs before hval0 hW hcnd _; refine law_calls (b0 := base) good laidOut4 6 [28, 29, 5] rfl rfl rfl Tryz.underlying4 (by kernel_rfl) rfl ?_ k_wa hval0 hW; intro ds hds
 match ds, hds with
 | [d1, d2, d3], _ => rfl
theorem over_wa : Rows.WeighAddsSaid :=
 OpenClaim.holds_of_wide 4 Tryz.f4 rfl rfl rfl rfl rfl rfl rfl ⟨rfl, rfl, rfl, rfl, rfl⟩ rfl rfl rfl rfl rfl (by kernel_rfl) Tryz.func4 (by kernel_rfl)
  (of_decide_eq_true (by kernel_rfl)) (by unfold Func.isWrapper; first | (rw [if_pos (by decide +kernel)]; kernel_rfl) | (rw [if_neg (by decide +kernel)]; exact ⟨rfl, rfl⟩))
  (fun os started H enc _ => lifted4 os started H enc)
end
end Go.Proofs.YtfahloobpegieaaGreat
