/- Where both have a range, that of the expanded evidence begins not earlier and ends not later than that of the evidence, and if the expanded evidence is possible, the evidence is, for all small evidence, samples, recipes and picks. No further condition. -/
import Derived.Test.YtfahloobpegieaaGreatKX37
import Derived.Test.YtfahloobpegieaaGreatRows
set_option linter.all false
set_option maxRecDepth 100000
namespace Go.Proofs.YtfahloobpegieaaGreat
section
open Go.Abs Go.ChangeAt
theorem k_sw(ys:List IV)(h:FitsL G 6 [28,88,89,29] ys):Ctr G.P 6 ys (· = .bool true):=by
 obtain⟨y1,_,rfl,h1,g1⟩:=jh0 h;obtain⟨y2,_,rfl,h2,g2⟩:=jh0 g1;obtain⟨y3,_,rfl,h3,g3⟩:=jh0 g2;obtain⟨y4,_,rfl,h4,g4⟩:=jh0 g3;obtain rfl:=fitsL_nil g4;obtain⟨e,rfl⟩:=fitsA_Evid h1;obtain⟨ss,rfl⟩:=fitsA_samples h2;obtain⟨rs,rfl⟩:=fitsA_recipes h3;obtain⟨ps,rfl⟩:=fitsA_picks h4;exact w_sweighs e ss rs ps
theorem own6:ownKnob Tryz.prog.godebug=none:=by kernel_rfl
theorem laidOut6:laidOutB Tryz.prog=true:=by kernel_rfl
theorem lifted6(os:Os)(started:os.Started)(H:Type)(enc:TypeId×Value->H):
  ReturnsInHanded {} Tryz.checked os 6 .any (Rows.sampleWeighsSpec.pre6 enc Tryz.prog Tryz.f6 Rows.sampleWeighsRow.domain false) (Rows.sampleWeighsSpec.post enc Tryz.prog Tryz.f6 false true false false):=by
 refine returnsInHanded_of_change (C:=Tryz.checked) own6 started (by kernel_rfl) Tryz.func6
  (ChangeSpec.witness6 (enc:=enc) (C:=Tryz.checked) false ⟨#[], #[.agg #[.int .i64 0,.int .i64 0,.int .i64 0,.slice none 0 0,.slice none 0 0,.slice none 0 0,.slice none 0 0,.slice none 0 0],.slice none 0 0,.slice none 0 0,.slice none 0 0],[]⟩ 8 (by kernel_rfl) (by kernel_rfl) (by kernel_rfl) (by kernel_rfl)) ?_
 intro W base args ds gs before hval0 hW hcnd _;refine law_calls (b0:=base) good laidOut6 6 [28,88,89,29] rfl rfl rfl Tryz.underlying4 (by kernel_rfl) rfl ?_ k_sw hval0 hW;intro ds hds
 match ds,hds with
 | [d1,d2,d3,d4],_=>rfl
theorem over_sw:Rows.SampleWeighsSaid:=
 OpenClaim.holds_of_wide 6 Tryz.f6 rfl rfl rfl rfl rfl rfl rfl ⟨rfl,rfl,rfl,rfl,rfl⟩ rfl rfl rfl rfl rfl (by kernel_rfl) Tryz.func6 (by kernel_rfl)
  (of_decide_eq_true (by kernel_rfl)) (by unfold Func.isWrapper;first | (rw[if_pos (by decide+kernel)];kernel_rfl) | (rw[if_neg (by decide+kernel)];exact⟨rfl,rfl⟩))
  (fun os started H enc _=>lifted6 os started H enc)
end
end Go.Proofs.YtfahloobpegieaaGreat
