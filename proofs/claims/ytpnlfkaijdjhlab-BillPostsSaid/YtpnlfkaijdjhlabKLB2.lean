/- After a posting the balance is what was posted, the account is right and begins with what it was, each other balance stays, and the postings together are the sum of all balances, for all right accounts that are few. No further condition. -/
import Derived.Test.YtpnlfkaijdjhlabRows
import Derived.Test.YtpnlfkaijdjhlabKX21
import Derived.Test.YtpnlfkaijdjhlabKX22
namespace Go.Proofs.Ytpnlfkaijdjhlab
set_option linter.all false
open Go.Abs Go.ChangeAt

theorem k_bp (ys : List IV) (h : FitsL G 6 [27, 3, 3, 3, 3, 3] ys) : Ctr G.P 4 ys (· = .bool true) := by
  obtain ⟨y1, _, rfl, h1, g1⟩ := fitsL_cons h
  obtain ⟨y2, _, rfl, h2, g2⟩ := fitsL_cons g1
  obtain ⟨y3, _, rfl, h3, g3⟩ := fitsL_cons g2
  obtain ⟨y4, _, rfl, h4, g4⟩ := fitsL_cons g3
  obtain ⟨y5, _, rfl, h5, g5⟩ := fitsL_cons g4
  obtain ⟨y6, _, rfl, h6, g6⟩ := fitsL_cons g5
  obtain rfl := fitsL_nil g6
  obtain ⟨a, rfl⟩ := fitsA_posts h1
  obtain ⟨i2, rfl⟩ := fitsA_int rfl h2
  obtain ⟨i3, rfl⟩ := fitsA_int rfl h3
  obtain ⟨i4, rfl⟩ := fitsA_int rfl h4
  obtain ⟨i5, rfl⟩ := fitsA_int rfl h5
  obtain ⟨i6, rfl⟩ := fitsA_int rfl h6
  exact w_posts39 a i2 i3 i4 i5 i6
theorem own4 : ownKnob Try.prog.godebug = none := by kernel_rfl
theorem laidOut4 : laidOutB Try.prog = true := by kernel_rfl
set_option maxRecDepth 100000 in
theorem lifted4 (os : Os) (started : os.Started) (H : Type) (enc : TypeId × Value → H) :
    ReturnsInHanded {} Try.checked os 4 .any (Rows.billPostsSpec.pre6 enc Try.prog Try.f4 Rows.billPostsRow.domain false) (Rows.billPostsSpec.post enc Try.prog Try.f4 false true false false) := by
  refine returnsInHanded_of_change (C := Try.checked) own4 started (by kernel_rfl) Try.func4
    (ChangeSpec.witness6 (enc := enc) (C := Try.checked) false ⟨#[], #[.slice none 0 0, .int .i64 0, .int .i64 0, .int .i64 0, .int .i64 0, .int .i64 0], []⟩ 8 (by kernel_rfl) (by kernel_rfl) (by kernel_rfl) (by kernel_rfl)) ?_
  intro W base args ds gs before hval0 hW hcnd _
  refine law_calls (b0 := base) good laidOut4 6 [27, 3, 3, 3, 3, 3] rfl rfl rfl Try.underlying4 (by kernel_rfl) rfl ?_ k_bp hval0 hW
  intro ds hds
  match ds, hds with
  | [d1, d2, d3, d4, d5, d6], _ => rfl
theorem over_bp : Rows.BillPostsSaid :=
  OpenClaim.holds_of_wide 4 Try.f4 rfl rfl rfl rfl rfl rfl rfl ⟨rfl, rfl, rfl, rfl, rfl⟩ rfl rfl rfl rfl rfl (by kernel_rfl) Try.func4 (by kernel_rfl)
    (of_decide_eq_true (by kernel_rfl)) (by unfold Func.isWrapper; first | (rw [if_pos (by decide +kernel)]; kernel_rfl) | (rw [if_neg (by decide +kernel)]; exact ⟨rfl, rfl⟩))
    (fun os started H enc _ => lifted4 os started H enc)
end Go.Proofs.Ytpnlfkaijdjhlab
