/- For all small right evidence there is blame exactly if it is not possible; it names a least weight; and if the evidence is possible without the scales of a set, one of them weighed a move that is named with its weight. No further condition. -/
import Derived.Test.YtkcekimolppapaaGreatKS41
import Derived.Test.YtkcekimolppapaaGreatKS42
import Derived.Test.YtkcekimolppapaaGreatRows
set_option linter.all false
set_option maxRecDepth 10000000
set_option maxHeartbeats 16000000
namespace Go.Proofs.YtkcekimolppapaaGreat
section
open Go.Abs Go.ChangeAt
theorem k_sb(ys:List IV)(h:FitsL G 6 [28,31] ys):Ctr G.P 8 ys (· = .bool true):=by
 obtain⟨y1,_,rfl,h1,g1⟩:=jd3 h;obtain⟨y2,_,rfl,h2,g2⟩:=jd3 g1;obtain rfl:=jiw g2;obtain⟨e,rfl⟩:=jht h1;obtain⟨l,rfl⟩:=jgq h2;exact w_blames e l
theorem own8:ownKnob Tryz.prog.godebug=none:=by kernel_rfl
theorem laidOut8:laidOutB Tryz.prog=true:=by kernel_rfl
theorem lifted8(os:Os)(started:os.Started)(H:Type)(enc:TypeId×Value->H):
  ReturnsInHanded {} Tryz.checked os 8 .any (Rows.suspectBlamesSpec.pre6 enc Tryz.prog Tryz.f8 Rows.suspectBlamesRow.domain false) (Rows.suspectBlamesSpec.post enc Tryz.prog Tryz.f8 false true false false):=by
 refine returnsInHanded_of_change (C:=Tryz.checked) own8 started (by kernel_rfl) Tryz.func8
  (ChangeSpec.witness6 (enc:=enc) (C:=Tryz.checked) false ⟨#[], #[.agg #[.int .i64 0,.int .i64 0,.int .i64 0,.slice none 0 0,.slice none 0 0,.slice none 0 0,.slice none 0 0,.slice none 0 0],.slice none 0 0],[]⟩ 8 (by kernel_rfl) (by kernel_rfl) (by kernel_rfl) (by kernel_rfl)) ?_
 intro W base args ds gs before hval0 hW hcnd _;refine jir (b0:=base) good laidOut8 6 [28,31] rfl rfl rfl Tryz.underlying4 (by kernel_rfl) rfl ?_ k_sb hval0 hW;intro ds hds
 match ds,hds with
 | [d1,d2],_=>rfl
theorem over_sb:Rows.SuspectBlamesSaid:=
 OpenClaim.holds_of_wide 8 Tryz.f8 rfl rfl rfl rfl rfl rfl rfl ⟨rfl,rfl,rfl,rfl,rfl⟩ rfl rfl rfl rfl rfl (by kernel_rfl) Tryz.func8 (by kernel_rfl)
  (zJ (by kernel_rfl)) (by unfold Func.isWrapper;first | (rw[zm (by decide+kernel)];kernel_rfl) | (rw[zn (by decide+kernel)];exact⟨rfl,rfl⟩))
  (fun os started H enc _=>lifted8 os started H enc)
end
end Go.Proofs.YtkcekimolppapaaGreat
