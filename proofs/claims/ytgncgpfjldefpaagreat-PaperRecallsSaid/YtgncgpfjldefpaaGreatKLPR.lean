/- With a recall not more is certain of a batch, with a purity that the history keeps not less, for all light evidence that some history allows. No further condition. -/
import Derived.Test.YtgncgpfjldefpaaGreatKR42
import Derived.Test.YtgncgpfjldefpaaGreatKR49
import Derived.Test.YtgncgpfjldefpaaGreatRows
set_option linter.all false
set_option maxRecDepth 10000000
set_option maxHeartbeats 16000000
namespace Go.Proofs.YtgncgpfjldefpaaGreat
section
open Go.Abs Go.ChangeAt
theorem k_pr(ys:List IV)(h:FitsL G 6 [49,50,52,54,56] ys):Ctr G.P 6 ys (· = .bool true):=by
 obtain⟨y1,_,rfl,h1,g1⟩:=jfz h;obtain⟨y2,_,rfl,h2,g2⟩:=jfz g1;obtain⟨y3,_,rfl,h3,g3⟩:=jfz g2;obtain⟨y4,_,rfl,h4,g4⟩:=jfz g3;obtain⟨y5,_,rfl,h5,g5⟩:=jfz g4;obtain rfl:=fitsL_nil g5;obtain⟨e,rfl⟩:=fitsA_Evid h1;obtain⟨l,rfl⟩:=fitsA_histH h2;obtain⟨x3,rfl,f3⟩:=jfg rfl h3;obtain⟨b,rfl⟩:=fits_Bat f3;obtain⟨x4,rfl,f4⟩:=jfg rfl h4;obtain⟨r,rfl⟩:=jl5 f4;obtain⟨x5,rfl,f5⟩:=jfg rfl h5;obtain⟨y,rfl⟩:=jl6 f5;exact pb_recalls pb_small e l b r y
theorem own6:ownKnob Tryz.prog.godebug=none:=by kernel_rfl
theorem laidOut6:laidOutB Tryz.prog=true:=by kernel_rfl
theorem lifted6(os:Os)(started:os.Started)(H:Type)(enc:TypeId×Value->H):
  ReturnsInHanded {} Tryz.checked os 6 .any (Rows.paperRecallsSpec.pre6 enc Tryz.prog Tryz.f6 Rows.paperRecallsRow.domain false) (Rows.paperRecallsSpec.post enc Tryz.prog Tryz.f6 false true false false):=by
 refine returnsInHanded_of_change (C:=Tryz.checked) own6 started (by kernel_rfl) Tryz.func6
  (ChangeSpec.witness6 (enc:=enc) (C:=Tryz.checked) false ⟨#[], #[.agg #[.int .i64 0,.int .i64 0,.int .i64 0,.slice none 0 0,.slice none 0 0,.slice none 0 0,.slice none 0 0,.slice none 0 0],.slice none 0 0,.agg #[.int .i64 0,.slice none 0 0],.agg #[.int .i64 0,.int .i64 0],.agg #[.int .i64 0,.int .i64 0,.int .i64 0,.int .i64 0]],[]⟩ 8 (by kernel_rfl) (by kernel_rfl) (by kernel_rfl) (by kernel_rfl)) ?_
 intro W base args ds gs before hval0 hW hcnd _;refine law_calls (b0:=base) good laidOut6 6 [49,50,52,54,56] rfl rfl rfl Tryz.underlying4 (by kernel_rfl) rfl ?_ k_pr hval0 hW;intro ds hds
 match ds,hds with
 | [d1,d2,d3,d4,d5],_=>rfl
theorem over_pr:Rows.PaperRecallsSaid:=
 OpenClaim.holds_of_wide 6 Tryz.f6 rfl rfl rfl rfl rfl rfl rfl ⟨rfl,rfl,rfl,rfl,rfl⟩ rfl rfl rfl rfl rfl (by kernel_rfl) Tryz.func6 (by kernel_rfl)
  (zJ (by kernel_rfl)) (by unfold Func.isWrapper;first | (rw[zn (by decide+kernel)];kernel_rfl) | (rw[zp (by decide+kernel)];exact⟨rfl,rfl⟩))
  (fun os started H enc _=>lifted6 os started H enc)
end
end Go.Proofs.YtgncgpfjldefpaaGreat
