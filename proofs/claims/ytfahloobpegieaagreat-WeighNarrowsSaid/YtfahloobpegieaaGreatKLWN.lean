/- With a further purity, or a certificate of a scale that had none, the bounds are no wider, with a further recall no narrower, and without certificates they are as if all scales were recalled, for all small right evidence and picks. No further condition. -/
import Derived.Test.YtfahloobpegieaaGreatKX35
import Derived.Test.YtfahloobpegieaaGreatRows
set_option linter.all false
set_option maxRecDepth 100000
namespace Go.Proofs.YtfahloobpegieaaGreat
section
open Go.Abs Go.ChangeAt
theorem k_wn(ys:List IV)(h:FitsL G 6 [28,29,31,33,35] ys):Ctr G.P 3 ys (· = .bool true):=by
 obtain⟨y1,_,rfl,h1,g1⟩:=jfg h;obtain⟨y2,_,rfl,h2,g2⟩:=jfg g1;obtain⟨y3,_,rfl,h3,g3⟩:=jfg g2;obtain⟨y4,_,rfl,h4,g4⟩:=jfg g3;obtain⟨y5,_,rfl,h5,g5⟩:=jfg g4;obtain rfl:=fitsL_nil g5;obtain⟨e,rfl⟩:=fitsA_Evid h1;obtain⟨ps,rfl⟩:=fitsA_picks h2;obtain⟨x3,rfl,f3⟩:=jf1 rfl h3;obtain⟨p,rfl⟩:=jk9 f3;obtain⟨x4,rfl,f4⟩:=jf1 rfl h4;obtain⟨c,rfl⟩:=jnv f4;obtain⟨x5,rfl,f5⟩:=jf1 rfl h5;obtain⟨x,rfl⟩:=jk8 f5;exact w_narrows e ps p c x
theorem own3:ownKnob Tryz.prog.godebug=none:=by kernel_rfl
theorem laidOut3:laidOutB Tryz.prog=true:=by kernel_rfl
theorem lifted3(os:Os)(started:os.Started)(H:Type)(enc:TypeId×Value->H):
  ReturnsInHanded {} Tryz.checked os 3 .any (Rows.weighNarrowsSpec.pre6 enc Tryz.prog Tryz.f3 Rows.weighNarrowsRow.domain false) (Rows.weighNarrowsSpec.post enc Tryz.prog Tryz.f3 false true false false):=by
 refine returnsInHanded_of_change (C:=Tryz.checked) own3 started (by kernel_rfl) Tryz.func3
  (ChangeSpec.witness6 (enc:=enc) (C:=Tryz.checked) false ⟨#[], #[.agg #[.int .i64 0,.int .i64 0,.int .i64 0,.slice none 0 0,.slice none 0 0,.slice none 0 0,.slice none 0 0,.slice none 0 0],.slice none 0 0,.agg #[.int .i64 0,.int .i64 0,.int .i64 0,.int .i64 0],.agg #[.int .i64 0,.int .i64 0,.int .i64 0,.int .i64 0,.int .i64 0,.int .i64 0],.agg #[.int .i64 0,.int .i64 0]],[]⟩ 8 (by kernel_rfl) (by kernel_rfl) (by kernel_rfl) (by kernel_rfl)) ?_
 intro W base args ds gs before hval0 hW hcnd _;refine law_calls (b0:=base) good laidOut3 6 [28,29,31,33,35] rfl rfl rfl Tryz.underlying4 (by kernel_rfl) rfl ?_ k_wn hval0 hW;intro ds hds
 match ds,hds with
 | [d1,d2,d3,d4,d5],_=>rfl
theorem over_wn:Rows.WeighNarrowsSaid:=
 OpenClaim.holds_of_wide 3 Tryz.f3 rfl rfl rfl rfl rfl rfl rfl ⟨rfl,rfl,rfl,rfl,rfl⟩ rfl rfl rfl rfl rfl (by kernel_rfl) Tryz.func3 (by kernel_rfl)
  (of_decide_eq_true (by kernel_rfl)) (by unfold Func.isWrapper;first | (rw[if_pos (by decide+kernel)];kernel_rfl) | (rw[if_neg (by decide+kernel)];exact⟨rfl,rfl⟩))
  (fun os started H enc _=>lifted3 os started H enc)
end
end Go.Proofs.YtfahloobpegieaaGreat
