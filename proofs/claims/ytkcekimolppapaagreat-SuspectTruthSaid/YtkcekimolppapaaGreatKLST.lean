/- For all small right evidence, sets of scales, and histories that the evidence without them allows: it is possible without them; and if it is not possible as it is, at least as many used scales are among them as a set that is returned has. No further condition. -/
import Derived.Test.YtkcekimolppapaaGreatKS48
import Derived.Test.YtkcekimolppapaaGreatRows
set_option linter.all false
set_option maxRecDepth 10000000
set_option maxHeartbeats 16000000
namespace Go.Proofs.YtkcekimolppapaaGreat
section
open Go.Abs Go.ChangeAt
theorem k_st(ys:List IV)(h:FitsL G 6 [28,31,61] ys):Ctr G.P 6 ys (· = .bool true):=by
 obtain⟨y1,_,rfl,h1,g1⟩:=jd3 h;obtain⟨y2,_,rfl,h2,g2⟩:=jd3 g1;obtain⟨y3,_,rfl,h3,g3⟩:=jd3 g2;obtain rfl:=jiw g3;obtain⟨e,rfl⟩:=jht h1;obtain⟨l,rfl⟩:=jgq h2;obtain⟨m,rfl⟩:=fitsA_histH h3;exact w_truth e l m
theorem own6:ownKnob Tryz.prog.godebug=none:=by kernel_rfl
theorem laidOut6:laidOutB Tryz.prog=true:=by kernel_rfl
theorem lifted6(os:Os)(started:os.Started)(H:Type)(enc:TypeId×Value->H):
  ReturnsInHanded {} Tryz.checked os 6 .any (Rows.suspectTruthSpec.pre6 enc Tryz.prog Tryz.f6 Rows.suspectTruthRow.domain false) (Rows.suspectTruthSpec.post enc Tryz.prog Tryz.f6 false true false false):=by
 refine returnsInHanded_of_change (C:=Tryz.checked) own6 started (by kernel_rfl) Tryz.func6
  (ChangeSpec.witness6 (enc:=enc) (C:=Tryz.checked) false ⟨#[], #[.agg #[.int .i64 0,.int .i64 0,.int .i64 0,.slice none 0 0,.slice none 0 0,.slice none 0 0,.slice none 0 0,.slice none 0 0],.slice none 0 0,.slice none 0 0],[]⟩ 8 (by kernel_rfl) (by kernel_rfl) (by kernel_rfl) (by kernel_rfl)) ?_
 intro W base args ds gs before hval0 hW hcnd _;refine jir (b0:=base) good laidOut6 6 [28,31,61] rfl rfl rfl Tryz.underlying4 (by kernel_rfl) rfl ?_ k_st hval0 hW;intro ds hds
 match ds,hds with
 | [d1,d2,d3],_=>rfl
theorem over_st:Rows.SuspectTruthSaid:=
 OpenClaim.holds_of_wide 6 Tryz.f6 rfl rfl rfl rfl rfl rfl rfl ⟨rfl,rfl,rfl,rfl,rfl⟩ rfl rfl rfl rfl rfl (by kernel_rfl) Tryz.func6 (by kernel_rfl)
  (zJ (by kernel_rfl)) (by unfold Func.isWrapper;first | (rw[zm (by decide+kernel)];kernel_rfl) | (rw[zn (by decide+kernel)];exact⟨rfl,rfl⟩))
  (fun os started H enc _=>lifted6 os started H enc)
end
end Go.Proofs.YtkcekimolppapaaGreat
