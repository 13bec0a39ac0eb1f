/- For all small right evidence, and lists of scales: the evidence without them is possible exactly if it is with a recall of each of them; it stays possible without a further scale; and each material in each move has the same least mass in both. No further condition. -/
import Derived.Test.YtkcekimolppapaaGreatKS50
import Derived.Test.YtkcekimolppapaaGreatRows
set_option linter.all false
set_option maxRecDepth 10000000
set_option maxHeartbeats 16000000
namespace Go.Proofs.YtkcekimolppapaaGreat
section
open Go.Abs Go.ChangeAt
theorem k_sr(ys:List IV)(h:FitsL G 6 [28,31,3,83] ys):Ctr G.P 5 ys (· = .bool true):=by
 obtain⟨y1,_,rfl,h1,g1⟩:=jd3 h;obtain⟨y2,_,rfl,h2,g2⟩:=jd3 g1;obtain⟨y3,_,rfl,h3,g3⟩:=jd3 g2;obtain⟨y4,_,rfl,h4,g4⟩:=jd3 g3;obtain rfl:=jiw g4;obtain⟨e,rfl⟩:=jht h1;obtain⟨l,rfl⟩:=jgq h2;obtain⟨m,rfl⟩:=fitsA_int rfl h3;obtain⟨x4,rfl,f4⟩:=jk4 rfl h4;obtain⟨p,rfl⟩:=fits_Pick f4;exact w_recalls e l m p.1 p.2
theorem own5:ownKnob Tryz.prog.godebug=none:=by kernel_rfl
theorem laidOut5:laidOutB Tryz.prog=true:=by kernel_rfl
theorem lifted5(os:Os)(started:os.Started)(H:Type)(enc:TypeId×Value->H):
  ReturnsInHanded {} Tryz.checked os 5 .any (Rows.suspectRecallsSpec.pre6 enc Tryz.prog Tryz.f5 Rows.suspectRecallsRow.domain false) (Rows.suspectRecallsSpec.post enc Tryz.prog Tryz.f5 false true false false):=by
 refine returnsInHanded_of_change (C:=Tryz.checked) own5 started (by kernel_rfl) Tryz.func5
  (ChangeSpec.witness6 (enc:=enc) (C:=Tryz.checked) false ⟨#[], #[.agg #[.int .i64 0,.int .i64 0,.int .i64 0,.slice none 0 0,.slice none 0 0,.slice none 0 0,.slice none 0 0,.slice none 0 0],.slice none 0 0,.int .i64 0,.agg #[.int .i64 0,.int .i64 0]],[]⟩ 8 (by kernel_rfl) (by kernel_rfl) (by kernel_rfl) (by kernel_rfl)) ?_
 intro W base args ds gs before hval0 hW hcnd _;refine jir (b0:=base) good laidOut5 6 [28,31,3,83] rfl rfl rfl Tryz.underlying4 (by kernel_rfl) rfl ?_ k_sr hval0 hW;intro ds hds
 match ds,hds with
 | [d1,d2,d3,d4],_=>rfl
theorem over_sr:Rows.SuspectRecallsSaid:=
 OpenClaim.holds_of_wide 5 Tryz.f5 rfl rfl rfl rfl rfl rfl rfl ⟨rfl,rfl,rfl,rfl,rfl⟩ rfl rfl rfl rfl rfl (by kernel_rfl) Tryz.func5 (by kernel_rfl)
  (zJ (by kernel_rfl)) (by unfold Func.isWrapper;first | (rw[zm (by decide+kernel)];kernel_rfl) | (rw[zn (by decide+kernel)];exact⟨rfl,rfl⟩))
  (fun os started H enc _=>lifted5 os started H enc)
end
end Go.Proofs.YtkcekimolppapaaGreat
