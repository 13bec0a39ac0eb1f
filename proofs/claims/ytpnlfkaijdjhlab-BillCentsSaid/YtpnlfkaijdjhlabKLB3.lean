/- The amount of a fee lies within its bounds, is at most the fee, less by less than one where nothing cuts it, and monotone, for all fees of at most 8 digits and limits. No further condition. -/
import Derived.Test.YtpnlfkaijdjhlabRows
import Derived.Test.YtpnlfkaijdjhlabKX21
import Derived.Test.YtpnlfkaijdjhlabKX22
namespace Go.Proofs.Ytpnlfkaijdjhlab
set_option linter.all false
open Go.Abs Go.ChangeAt

theorem k_bc (ys : List IV) (h : FitsL G 6 [26, 26, 3, 3] ys) : Ctr G.P 5 ys (· = .bool true) := by
  obtain ⟨y1, _, rfl, h1, g1⟩ := fitsL_cons h
  obtain ⟨y2, _, rfl, h2, g2⟩ := fitsL_cons g1
  obtain ⟨y3, _, rfl, h3, g3⟩ := fitsL_cons g2
  obtain ⟨y4, _, rfl, h4, g4⟩ := fitsL_cons g3
  obtain rfl := fitsL_nil g4
  obtain ⟨s, l, t, m, rfl⟩ := fitsA_Frac h1
  obtain ⟨s', l', t', m', rfl⟩ := fitsA_Frac h2
  obtain ⟨i3, rfl⟩ := fitsA_int rfl h3
  obtain ⟨i4, rfl⟩ := fitsA_int rfl h4
  exact w_cents39 s t l m s' t' l' m' i3 i4
theorem own5 : ownKnob Try.prog.godebug = none := by kernel_rfl
theorem laidOut5 : laidOutB Try.prog = true := by kernel_rfl
set_option maxRecDepth 100000 in
theorem lifted5 (os : Os) (started : os.Started) (H : Type) (enc : TypeId × Value → H) :
    ReturnsInHanded {} Try.checked os 5 .any (Rows.billCentsSpec.pre6 enc Try.prog Try.f5 Rows.billCentsRow.domain false) (Rows.billCentsSpec.post enc Try.prog Try.f5 false true false false) := by
  refine returnsInHanded_of_change (C := Try.checked) own5 started (by kernel_rfl) Try.func5
    (ChangeSpec.witness6 (enc := enc) (C := Try.checked) false ⟨#[], #[.agg #[.int .i64 0, .slice none 0 0, .int .i64 0, .slice none 0 0], .agg #[.int .i64 0, .slice none 0 0, .int .i64 0, .slice none 0 0], .int .i64 0, .int .i64 0], []⟩ 8 (by kernel_rfl) (by kernel_rfl) (by kernel_rfl) (by kernel_rfl)) ?_
  intro W base args ds gs before hval0 hW hcnd _
  refine law_calls (b0 := base) good laidOut5 6 [26, 26, 3, 3] rfl rfl rfl Try.underlying4 (by kernel_rfl) rfl ?_ k_bc hval0 hW
  intro ds hds
  match ds, hds with
  | [d1, d2, d3, d4], _ => rfl
theorem over_bc : Rows.BillCentsSaid :=
  OpenClaim.holds_of_wide 5 Try.f5 rfl rfl rfl rfl rfl rfl rfl ⟨rfl, rfl, rfl, rfl, rfl⟩ rfl rfl rfl rfl rfl (by kernel_rfl) Try.func5 (by kernel_rfl)
    (of_decide_eq_true (by kernel_rfl)) (by unfold Func.isWrapper; first | (rw [if_pos (by decide +kernel)]; kernel_rfl) | (rw [if_neg (by decide +kernel)]; exact ⟨rfl, rfl⟩))
    (fun os started H enc _ => lifted5 os started H enc)
end Go.Proofs.Ytpnlfkaijdjhlab
