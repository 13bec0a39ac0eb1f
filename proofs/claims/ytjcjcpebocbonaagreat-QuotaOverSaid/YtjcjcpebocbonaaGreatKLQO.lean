/- For all right rights, light evidence, histories that it allows, depots, places and days: if more kilograms have certainly come to the place than the depot has capacity, then in the history more has come than all communes hold together at the depot, on any day. No further condition. -/
import Derived.Test.YtjcjcpebocbonaaGreatKY48
import Derived.Test.YtjcjcpebocbonaaGreatKY49
import Derived.Test.YtjcjcpebocbonaaGreatRows
set_option linter.all false
set_option maxRecDepth 10000000
set_option maxHeartbeats 16000000
namespace Go.Proofs.YtjcjcpebocbonaaGreat
section
set_option maxRecDepth 1000000
open Go.Abs Go.ChangeAt
theorem k_qo(ys:List IV)(h:FitsL G 6 [25,32,33,3,3,3,3] ys):Ctr G.P 3 ys (· = .bool true):=by
 obtain⟨y1,_,rfl,h1,g1⟩:=jeb h;obtain⟨y2,_,rfl,h2,g2⟩:=jeb g1;obtain⟨y3,_,rfl,h3,g3⟩:=jeb g2;obtain⟨y4,_,rfl,h4,g4⟩:=jeb g3;obtain⟨y5,_,rfl,h5,g5⟩:=jeb g4;obtain⟨y6,_,rfl,h6,g6⟩:=jeb g5;obtain⟨y7,_,rfl,h7,g7⟩:=jeb g6;obtain rfl:=fitsL_nil g7;obtain⟨r,rfl⟩:=fitsA_Rts h1;obtain⟨e,rfl⟩:=fitsA_Evid h2;obtain⟨l,rfl⟩:=fitsA_histH h3;obtain⟨d,rfl⟩:=jhq h4;obtain⟨p,rfl⟩:=jhq h5;obtain⟨y,rfl⟩:=jhq h6;obtain⟨o,rfl⟩:=jhq h7;exact q_olaw q_small r e l d p y o
theorem own3:ownKnob Tryz.prog.godebug=none:=by kernel_rfl
theorem laidOut3:laidOutB Tryz.prog=true:=by kernel_rfl
theorem lifted3(os:Os)(started:os.Started)(H:Type)(enc:TypeId×Value->H):
  ReturnsInHanded {} Tryz.checked os 3 .any (Rows.quotaOverSpec.pre6 enc Tryz.prog Tryz.f3 Rows.quotaOverRow.domain false) (Rows.quotaOverSpec.post enc Tryz.prog Tryz.f3 false true false false):=by
 refine returnsInHanded_of_change (C:=Tryz.checked) own3 started (by kernel_rfl) Tryz.func3
  (ChangeSpec.witness6 (enc:=enc) (C:=Tryz.checked) false ⟨#[], #[.agg #[.int .i64 0,.slice none 0 0,.slice none 0 0,.slice none 0 0],.agg #[.int .i64 0,.int .i64 0,.int .i64 0,.slice none 0 0,.slice none 0 0,.slice none 0 0,.slice none 0 0,.slice none 0 0],.slice none 0 0,.int .i64 0,.int .i64 0,.int .i64 0,.int .i64 0],[]⟩ 8 (by kernel_rfl) (by kernel_rfl) (by kernel_rfl) (by kernel_rfl)) ?_
 intro W base args ds gs before a1 hW a7 _;refine law_calls (b0:=base) good laidOut3 6 [25,32,33,3,3,3,3] rfl rfl rfl Tryz.underlying4 (by kernel_rfl) rfl ?_ k_qo a1 hW;intro ds a6
 match ds,a6 with
 | [d1,d2,d3,d4,d5,d6,d7],_=>rfl
theorem over_qo:Rows.QuotaOverSaid:=
 OpenClaim.holds_of_wide 3 Tryz.f3 rfl rfl rfl rfl rfl rfl rfl ⟨rfl,rfl,rfl,rfl,rfl⟩ rfl rfl rfl rfl rfl (by kernel_rfl) Tryz.func3 (by kernel_rfl)
  (zI (by kernel_rfl)) (by unfold Func.isWrapper;first | (rw[ze (by decide+kernel)];kernel_rfl) | (rw[zl (by decide+kernel)];exact⟨rfl,rfl⟩))
  (fun os started H enc _=>lifted3 os started H enc)
end
end Go.Proofs.YtjcjcpebocbonaaGreat
