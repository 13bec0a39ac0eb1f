/- In no history that small possible evidence allows more goes to buyers and dumps than leaves the bins, and what stays at the other places is the difference; the least mass to buyers and dumps is at most the greatest mass out of bins. No further condition. -/
import Derived.Test.YtkcekimolppapaaGreatKC37
import Derived.Test.YtkcekimolppapaaGreatKC38
import Derived.Test.YtkcekimolppapaaGreatRows
set_option linter.all false
set_option maxRecDepth 10000000
set_option maxHeartbeats 16000000
namespace Go.Proofs.YtkcekimolppapaaGreat
section
open Go.Abs Go.ChangeAt
theorem k_wc(ys:List IV)(h:FitsL G 6 [28] ys):Ctr G.P 3 ys (· = .bool true):=by
 obtain⟨y1,_,rfl,h1,g1⟩:=fitsL_cons h;obtain rfl:=fitsL_nil g1;obtain⟨e,rfl⟩:=fitsA_Evid h1;exact w_conserves e
theorem own3:ownKnob Tryz.prog.godebug=none:=by kernel_rfl
theorem laidOut3:laidOutB Tryz.prog=true:=by kernel_rfl
theorem lifted3(os:Os)(started:os.Started)(H:Type)(enc:TypeId×Value->H):
  ReturnsInHanded {} Tryz.checked os 3 .any (Rows.weighConservesSpec.pre6 enc Tryz.prog Tryz.f3 Rows.weighConservesRow.domain false) (Rows.weighConservesSpec.post enc Tryz.prog Tryz.f3 false true false false):=by
 refine returnsInHanded_of_change (C:=Tryz.checked) own3 started (by kernel_rfl) Tryz.func3
  (ChangeSpec.witness6 (enc:=enc) (C:=Tryz.checked) false ⟨#[], #[.agg #[.int .i64 0,.int .i64 0,.int .i64 0,.slice none 0 0,.slice none 0 0,.slice none 0 0,.slice none 0 0,.slice none 0 0]],[]⟩ 8 (by kernel_rfl) (by kernel_rfl) (by kernel_rfl) (by kernel_rfl)) ?_
 intro W base args ds gs before hval0 hW hcnd _;refine law_calls (b0:=base) good laidOut3 6 [28] rfl rfl rfl Tryz.underlying4 (by kernel_rfl) rfl ?_ k_wc hval0 hW;intro ds hds
 match ds,hds with
 | [d1],_=>rfl
theorem over_wc:Rows.WeighConservesSaid:=
 OpenClaim.holds_of_wide 3 Tryz.f3 rfl rfl rfl rfl rfl rfl rfl ⟨rfl,rfl,rfl,rfl,rfl⟩ rfl rfl rfl rfl rfl (by kernel_rfl) Tryz.func3 (by kernel_rfl)
  (zK (by kernel_rfl)) (by unfold Func.isWrapper;first | (rw[zm (by decide+kernel)];kernel_rfl) | (rw[zn (by decide+kernel)];exact⟨rfl,rfl⟩))
  (fun os started H enc _=>lifted3 os started H enc)
end
end Go.Proofs.YtkcekimolppapaaGreat
