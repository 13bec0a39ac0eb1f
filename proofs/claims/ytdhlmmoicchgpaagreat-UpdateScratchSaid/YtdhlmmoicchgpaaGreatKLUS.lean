/- UpdateScratch: behind at most two steps, and a question that is asked before the last one, the bounds are those of a new watch, and those that weigh.Range says, for all small evidence and questions. No further condition. -/
import Derived.Test.YtdhlmmoicchgpaaGreatKU46
import Derived.Test.YtdhlmmoicchgpaaGreatRows
set_option linter.all false
set_option maxRecDepth 10000000
set_option maxHeartbeats 16000000
namespace Go.Proofs.YtdhlmmoicchgpaaGreat
section
open Go.Abs Go.ChangeAt
theorem k_us(ys:List IV)(h:FitsL G 6 [28,29,30,31] ys):Ctr G.P 3 ys (· = .bool true):=by
 obtain⟨y1,_,rfl,h1,g1⟩:=jh5 h;obtain⟨y2,_,rfl,h2,g2⟩:=jh5 g1;obtain⟨y3,_,rfl,h3,g3⟩:=jh5 g2;obtain⟨y4,_,rfl,h4,g4⟩:=jh5 g3;obtain rfl:=fitsL_nil g4;obtain⟨e,rfl⟩:=fitsA_Evid h1;obtain⟨qs,rfl⟩:=fitsA_qs h2;obtain⟨xs,rfl⟩:=fitsA_steps h3;obtain⟨a,rfl⟩:=fitsA_picks h4;exact u_scratch e qs xs a
theorem own3:ownKnob Tryz.prog.godebug=none:=by kernel_rfl
theorem laidOut3:laidOutB Tryz.prog=true:=by kernel_rfl
theorem lifted3(os:Os)(started:os.Started)(H:Type)(enc:TypeId×Value->H):
  ReturnsInHanded {} Tryz.checked os 3 .any (Rows.updateScratchSpec.pre6 enc Tryz.prog Tryz.f3 Rows.updateScratchRow.domain false) (Rows.updateScratchSpec.post enc Tryz.prog Tryz.f3 false true false false):=by
 refine returnsInHanded_of_change (C:=Tryz.checked) own3 started (by kernel_rfl) Tryz.func3
  (ChangeSpec.witness6 (enc:=enc) (C:=Tryz.checked) false ⟨#[], #[.agg #[.int .i64 0,.int .i64 0,.int .i64 0,.slice none 0 0,.slice none 0 0,.slice none 0 0,.slice none 0 0,.slice none 0 0],.slice none 0 0,.slice none 0 0,.slice none 0 0],[]⟩ 8 (by kernel_rfl) (by kernel_rfl) (by kernel_rfl) (by kernel_rfl)) ?_
 intro W base args ds gs before hval0 hW hcnd _;refine law_calls (b0:=base) good laidOut3 6 [28,29,30,31] rfl rfl rfl Tryz.underlying4 (by kernel_rfl) rfl ?_ k_us hval0 hW;intro ds hds
 match ds,hds with
 | [d1,d2,d3,d4],_=>rfl
theorem over_us:Rows.UpdateScratchSaid:=
 OpenClaim.holds_of_wide 3 Tryz.f3 rfl rfl rfl rfl rfl rfl rfl ⟨rfl,rfl,rfl,rfl,rfl⟩ rfl rfl rfl rfl rfl (by kernel_rfl) Tryz.func3 (by kernel_rfl)
  (zK (by kernel_rfl)) (by unfold Func.isWrapper;first | (rw[zp (by decide+kernel)];kernel_rfl) | (rw[zu (by decide+kernel)];exact⟨rfl,rfl⟩))
  (fun os started H enc _=>lifted3 os started H enc)
end
end Go.Proofs.YtdhlmmoicchgpaaGreat
