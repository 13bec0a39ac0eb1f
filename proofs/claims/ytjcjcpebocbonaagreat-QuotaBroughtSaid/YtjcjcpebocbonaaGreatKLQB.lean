/- For all light evidence, histories that it allows, places and days: at least as many kilograms as Brought returns have come to the place on the day; and with a further recall Brought returns not more. No further condition. -/
import Derived.Test.YtjcjcpebocbonaaGreatKZ48
import Derived.Test.YtjcjcpebocbonaaGreatKZ49
import Derived.Test.YtjcjcpebocbonaaGreatRows
set_option linter.all false
set_option maxRecDepth 10000000
set_option maxHeartbeats 16000000
namespace Go.Proofs.YtjcjcpebocbonaaGreat
section
set_option maxRecDepth 1000000
open Go.Abs Go.ChangeAt
theorem k_qb(ys:List IV)(h:FitsL G 6 [32,33,3,3,57] ys):Ctr G.P 4 ys (· = .bool true):=by
 obtain⟨y1,_,rfl,h1,g1⟩:=jg8 h;obtain⟨y2,_,rfl,h2,g2⟩:=jg8 g1;obtain⟨y3,_,rfl,h3,g3⟩:=jg8 g2;obtain⟨y4,_,rfl,h4,g4⟩:=jg8 g3;obtain⟨y5,_,rfl,h5,g5⟩:=jg8 g4;obtain rfl:=fitsL_nil g5;obtain⟨e,rfl⟩:=fitsA_Evid h1;obtain⟨l,rfl⟩:=fitsA_histH h2;obtain⟨p,rfl⟩:=jni h3;obtain⟨d,rfl⟩:=jni h4;obtain⟨x5,rfl,f5⟩:=jkd rfl h5;obtain⟨r,rfl⟩:=jlw f5;exact q_blaw q_small e l p d r
theorem own4:ownKnob Tryz.prog.godebug=none:=by kernel_rfl
theorem laidOut4:laidOutB Tryz.prog=true:=by kernel_rfl
theorem lifted4(os:Os)(started:os.Started)(H:Type)(enc:TypeId×Value->H):
  ReturnsInHanded {} Tryz.checked os 4 .any (Rows.quotaBroughtSpec.pre6 enc Tryz.prog Tryz.f4 Rows.quotaBroughtRow.domain false) (Rows.quotaBroughtSpec.post enc Tryz.prog Tryz.f4 false true false false):=by
 refine returnsInHanded_of_change (C:=Tryz.checked) own4 started (by kernel_rfl) Tryz.func4
  (ChangeSpec.witness6 (enc:=enc) (C:=Tryz.checked) false ⟨#[], #[.agg #[.int .i64 0,.int .i64 0,.int .i64 0,.slice none 0 0,.slice none 0 0,.slice none 0 0,.slice none 0 0,.slice none 0 0],.slice none 0 0,.int .i64 0,.int .i64 0,.agg #[.int .i64 0,.int .i64 0]],[]⟩ 8 (by kernel_rfl) (by kernel_rfl) (by kernel_rfl) (by kernel_rfl)) ?_
 intro W base args ds gs before a1 hW a7 _;refine law_calls (b0:=base) good laidOut4 6 [32,33,3,3,57] rfl rfl rfl Tryz.underlying4 (by kernel_rfl) rfl ?_ k_qb a1 hW;intro ds a6
 match ds,a6 with
 | [d1,d2,d3,d4,d5],_=>rfl
theorem over_qb:Rows.QuotaBroughtSaid:=
 OpenClaim.holds_of_wide 4 Tryz.f4 rfl rfl rfl rfl rfl rfl rfl ⟨rfl,rfl,rfl,rfl,rfl⟩ rfl rfl rfl rfl rfl (by kernel_rfl) Tryz.func4 (by kernel_rfl)
  (zI (by kernel_rfl)) (by unfold Func.isWrapper;first | (rw[zh (by decide+kernel)];kernel_rfl) | (rw[zl (by decide+kernel)];exact⟨rfl,rfl⟩))
  (fun os started H enc _=>lifted4 os started H enc)
end
end Go.Proofs.YtjcjcpebocbonaaGreat
