/- UpdateNarrows: a further move, purity or certificate of a scale that had none makes no bounds wider, a recall none narrower, and what is returned are the questions whose bounds change, for all small evidence and questions and at most two steps. No further condition. -/
import Derived.Test.YtdhlmmoicchgpaaGreatKV46
import Derived.Test.YtdhlmmoicchgpaaGreatRows
set_option linter.all false
set_option maxRecDepth 10000000
set_option maxHeartbeats 16000000
namespace Go.Proofs.YtdhlmmoicchgpaaGreat
section
open Go.Abs Go.ChangeAt
theorem k_un(ys:List IV)(h:FitsL G 6 [28,29,30] ys):Ctr G.P 4 ys (· = .bool true):=by
 obtain⟨y1,_,rfl,h1,g1⟩:=jej h;obtain⟨y2,_,rfl,h2,g2⟩:=jej g1;obtain⟨y3,_,rfl,h3,g3⟩:=jej g2;obtain rfl:=jpd g3;obtain⟨e,rfl⟩:=jmn h1;obtain⟨qs,rfl⟩:=js1 h2;obtain⟨xs,rfl⟩:=fitsA_steps h3;exact u_narrows e qs xs
theorem own4:ownKnob Tryz.prog.godebug=none:=by kernel_rfl
theorem laidOut4:laidOutB Tryz.prog=true:=by kernel_rfl
theorem lifted4(os:Os)(started:os.Started)(H:Type)(enc:TypeId×Value->H):
  ReturnsInHanded {} Tryz.checked os 4 .any (Rows.updateNarrowsSpec.pre6 enc Tryz.prog Tryz.f4 Rows.updateNarrowsRow.domain false) (Rows.updateNarrowsSpec.post enc Tryz.prog Tryz.f4 false true false false):=by
 refine returnsInHanded_of_change (C:=Tryz.checked) own4 started (by kernel_rfl) Tryz.func4
  (ChangeSpec.witness6 (enc:=enc) (C:=Tryz.checked) false ⟨#[], #[.agg #[.int .i64 0,.int .i64 0,.int .i64 0,.slice none 0 0,.slice none 0 0,.slice none 0 0,.slice none 0 0,.slice none 0 0],.slice none 0 0,.slice none 0 0],[]⟩ 8 (by kernel_rfl) (by kernel_rfl) (by kernel_rfl) (by kernel_rfl)) ?_
 intro W base args ds gs before hval0 hW hcnd _;refine jp6 (b0:=base) good laidOut4 6 [28,29,30] rfl rfl rfl Tryz.underlying4 (by kernel_rfl) rfl ?_ k_un hval0 hW;intro ds hds
 match ds,hds with
 | [d1,d2,d3],_=>rfl
theorem over_un:Rows.UpdateNarrowsSaid:=
 OpenClaim.holds_of_wide 4 Tryz.f4 rfl rfl rfl rfl rfl rfl rfl ⟨rfl,rfl,rfl,rfl,rfl⟩ rfl rfl rfl rfl rfl (by kernel_rfl) Tryz.func4 (by kernel_rfl)
  (zK (by kernel_rfl)) (by unfold Func.isWrapper;first | (rw[zm (by decide+kernel)];kernel_rfl) | (rw[zr (by decide+kernel)];exact⟨rfl,rfl⟩))
  (fun os started H enc _=>lifted4 os started H enc)
end
end Go.Proofs.YtdhlmmoicchgpaaGreat
