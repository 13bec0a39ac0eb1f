/- Every call of layer 39 returns what the reference returns, for all fees of at most 8 digits, limits and accounts that are few. No further condition. -/
import Derived.Test.YtpnlfkaijdjhlabRows
import Derived.Test.YtpnlfkaijdjhlabKX20
namespace Go.Proofs.Ytpnlfkaijdjhlab
set_option linter.all false
open Go.Abs Go.ChangeAt

theorem k_bt (ys : List IV) (h : FitsL G 6 [26, 3, 27, 3, 3, 3, 3] ys) : Ctr G.P 3 ys (· = .bool true) := by
  obtain ⟨y1, _, rfl, h1, g1⟩ := fitsL_cons h
  obtain ⟨y2, _, rfl, h2, g2⟩ := fitsL_cons g1
  obtain ⟨y3, _, rfl, h3, g3⟩ := fitsL_cons g2
  obtain ⟨y4, _, rfl, h4, g4⟩ := fitsL_cons g3
  obtain ⟨y5, _, rfl, h5, g5⟩ := fitsL_cons g4
  obtain ⟨y6, _, rfl, h6, g6⟩ := fitsL_cons g5
  obtain ⟨y7, _, rfl, h7, g7⟩ := fitsL_cons g6
  obtain rfl := fitsL_nil g7
  obtain ⟨s, l, t, m, rfl⟩ := fitsA_Frac h1
  obtain ⟨i2, rfl⟩ := fitsA_int rfl h2
  obtain ⟨a, rfl⟩ := fitsA_posts h3
  obtain ⟨i4, rfl⟩ := fitsA_int rfl h4
  obtain ⟨i5, rfl⟩ := fitsA_int rfl h5
  obtain ⟨i6, rfl⟩ := fitsA_int rfl h6
  obtain ⟨i7, rfl⟩ := fitsA_int rfl h7
  exact w_tells39 s t l m i2 a i4 i5 i6 i7
theorem own3 : ownKnob Try.prog.godebug = none := by kernel_rfl
theorem laidOut3 : laidOutB Try.prog = true := by kernel_rfl
set_option maxRecDepth 100000 in
theorem lifted3 (os : Os) (started : os.Started) (H : Type) (enc : TypeId × Value → H) :
    ReturnsInHanded {} Try.checked os 3 .any (Rows.billTellsSpec.pre6 enc Try.prog Try.f3 Rows.billTellsRow.domain false) (Rows.billTellsSpec.post enc Try.prog Try.f3 false true false false) := by
  refine returnsInHanded_of_change (C := Try.checked) own3 started (by kernel_rfl) Try.func3
    (ChangeSpec.witness6 (enc := enc) (C := Try.checked) false ⟨#[], #[.agg #[.int .i64 0, .slice none 0 0, .int .i64 0, .slice none 0 0], .int .i64 0, .slice none 0 0, .int .i64 0, .int .i64 0, .int .i64 0, .int .i64 0], []⟩ 8 (by kernel_rfl) (by kernel_rfl) (by kernel_rfl) (by kernel_rfl)) ?_
  intro W base args ds gs before hval0 hW hcnd _
  refine law_calls (b0 := base) good laidOut3 6 [26, 3, 27, 3, 3, 3, 3] rfl rfl rfl Try.underlying4 (by kernel_rfl) rfl ?_ k_bt hval0 hW
  intro ds hds
  match ds, hds with
  | [d1, d2, d3, d4, d5, d6, d7], _ => rfl
theorem over_bt : Rows.BillTellsSaid :=
  OpenClaim.holds_of_wide 3 Try.f3 rfl rfl rfl rfl rfl rfl rfl ⟨rfl, rfl, rfl, rfl, rfl⟩ rfl rfl rfl rfl rfl (by kernel_rfl) Try.func3 (by kernel_rfl)
    (of_decide_eq_true (by kernel_rfl)) (by unfold Func.isWrapper; first | (rw [if_pos (by decide +kernel)]; kernel_rfl) | (rw [if_neg (by decide +kernel)]; exact ⟨rfl, rfl⟩))
    (fun os started H enc _ => lifted3 os started H enc)
end Go.Proofs.Ytpnlfkaijdjhlab
