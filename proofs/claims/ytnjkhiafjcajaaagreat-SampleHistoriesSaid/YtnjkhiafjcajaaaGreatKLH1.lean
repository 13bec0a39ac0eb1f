/- The expansion of right evidence is right, has the old purities first, and allows masses as a history exactly if the evidence does and they keep the further purities. No further condition. -/
import Derived.Test.YtnjkhiafjcajaaaGreatRows
import Derived.Test.YtnjkhiafjcajaaaGreatKX24
import Derived.Test.YtnjkhiafjcajaaaGreatKX25
namespace Go.Proofs.YtnjkhiafjcajaaaGreat
set_option linter.all false
open Go.Abs Go.ChangeAt

theorem fits_Raw {n : Nat} {xs : List IV} (h : Fits G n 57 xs) : ∃ x : Raw, xs = x.c := by
  obtain ⟨s, l, t, m, rfl⟩ := fits_Frac h
  exact ⟨⟨s, l, t, m⟩, rfl⟩
theorem fitsA_hist {n : Nat} {y : IV} (h : FitsA G n 31 y) : ∃ l : List (List Raw), y = hist l := by
  obtain ⟨l, e⟩ := fits_list rowC rfl (fun c hc => by
    obtain ⟨l, e⟩ := fits_list Raw.c rfl (fun _ hc => fits_Raw hc) hc
    exact ⟨l, e⟩) (fitsA_one rfl h)
  cases e
  exact ⟨l, rfl⟩
theorem k_sh (ys : List IV) (h : FitsL G 6 [28, 29, 30, 31] ys) : Ctr G.P 3 ys (· = .bool true) := by
  obtain ⟨y1, _, rfl, h1, g1⟩ := fitsL_cons h
  obtain ⟨y2, _, rfl, h2, g2⟩ := fitsL_cons g1
  obtain ⟨y3, _, rfl, h3, g3⟩ := fitsL_cons g2
  obtain ⟨y4, _, rfl, h4, g4⟩ := fitsL_cons g3
  obtain rfl := fitsL_nil g4
  obtain ⟨e, rfl⟩ := fitsA_Evid h1
  obtain ⟨ss, rfl⟩ := fitsA_samples h2
  obtain ⟨rs, rfl⟩ := fitsA_recipes h3
  obtain ⟨l, rfl⟩ := fitsA_hist h4
  exact w_hist e ss rs l
theorem own3 : ownKnob Tryz.prog.godebug = none := by kernel_rfl
theorem laidOut3 : laidOutB Tryz.prog = true := by kernel_rfl
set_option maxRecDepth 100000 in
theorem lifted3 (os : Os) (started : os.Started) (H : Type) (enc : TypeId × Value → H) :
    ReturnsInHanded {} Tryz.checked os 3 .any (Rows.sampleHistoriesSpec.pre6 enc Tryz.prog Tryz.f3 Rows.sampleHistoriesRow.domain false) (Rows.sampleHistoriesSpec.post enc Tryz.prog Tryz.f3 false true false false) := by
  refine returnsInHanded_of_change (C := Tryz.checked) own3 started (by kernel_rfl) Tryz.func3
    (ChangeSpec.witness6 (enc := enc) (C := Tryz.checked) false ⟨#[], #[.agg #[.int .i64 0, .int .i64 0, .int .i64 0, .slice none 0 0, .slice none 0 0, .slice none 0 0, .slice none 0 0, .slice none 0 0], .slice none 0 0, .slice none 0 0, .slice none 0 0], []⟩ 8 (by kernel_rfl) (by kernel_rfl) (by kernel_rfl) (by kernel_rfl)) ?_
  intro W base args ds gs before hval0 hW hcnd _
  refine law_calls (b0 := base) good laidOut3 6 [28, 29, 30, 31] rfl rfl rfl Tryz.underlying4 (by kernel_rfl) rfl ?_ k_sh hval0 hW
  intro ds hds
  match ds, hds with
  | [d1, d2, d3, d4], _ => rfl
theorem over_sh : Rows.SampleHistoriesSaid :=
  OpenClaim.holds_of_wide 3 Tryz.f3 rfl rfl rfl rfl rfl rfl rfl ⟨rfl, rfl, rfl, rfl, rfl⟩ rfl rfl rfl rfl rfl (by kernel_rfl) Tryz.func3 (by kernel_rfl)
    (of_decide_eq_true (by kernel_rfl)) (by unfold Func.isWrapper; first | (rw [if_pos (by decide +kernel)]; kernel_rfl) | (rw [if_neg (by decide +kernel)]; exact ⟨rfl, rfl⟩))
    (fun os started H enc _ => lifted3 os started H enc)
end Go.Proofs.YtnjkhiafjcajaaaGreat
