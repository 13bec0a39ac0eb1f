/- For all small right evidence, and sets of scales: there are suspects exactly if it is not possible; without those of a set that is returned it is possible; and no set with fewer used scales makes it possible. No further condition. -/
import Derived.Test.YtkcekimolppapaaGreatKS44
import Derived.Test.YtkcekimolppapaaGreatKS42
import Derived.Test.YtkcekimolppapaaGreatRows
set_option linter.all false
set_option maxRecDepth 10000000
set_option maxHeartbeats 16000000
namespace Go.Proofs.YtkcekimolppapaaGreat
section
open Go.Abs Go.ChangeAt
theorem k_sf(ys:List IV)(h:FitsL G 6 [28,31] ys):Ctr G.P 7 ys (· = .bool true):=by
 obtain⟨y1,_,rfl,h1,g1⟩:=jd3 h;obtain⟨y2,_,rfl,h2,g2⟩:=jd3 g1;obtain rfl:=jiw g2;obtain⟨e,rfl⟩:=jht h1;obtain⟨l,rfl⟩:=jgq h2;exact w_fewest e l
theorem own7:ownKnob Tryz.prog.godebug=none:=by kernel_rfl
theorem laidOut7:laidOutB Tryz.prog=true:=by kernel_rfl
theorem lifted7(os:Os)(started:os.Started)(H:Type)(enc:TypeId×Value->H):
  ReturnsInHanded {} Tryz.checked os 7 .any (Rows.suspectFewestSpec.pre6 enc Tryz.prog Tryz.f7 Rows.suspectFewestRow.domain false) (Rows.suspectFewestSpec.post enc Tryz.prog Tryz.f7 false true false false):=by
 refine returnsInHanded_of_change (C:=Tryz.checked) own7 started (by kernel_rfl) Tryz.func7
  (ChangeSpec.witness6 (enc:=enc) (C:=Tryz.checked) false ⟨#[], #[.agg #[.int .i64 0,.int .i64 0,.int .i64 0,.slice none 0 0,.slice none 0 0,.slice none 0 0,.slice none 0 0,.slice none 0 0],.slice none 0 0],[]⟩ 8 (by kernel_rfl) (by kernel_rfl) (by kernel_rfl) (by kernel_rfl)) ?_
 intro W base args ds gs before hval0 hW hcnd _;refine jir (b0:=base) good laidOut7 6 [28,31] rfl rfl rfl Tryz.underlying4 (by kernel_rfl) rfl ?_ k_sf hval0 hW;intro ds hds
 match ds,hds with
 | [d1,d2],_=>rfl
theorem over_sf:Rows.SuspectFewestSaid:=
 OpenClaim.holds_of_wide 7 Tryz.f7 rfl rfl rfl rfl rfl rfl rfl ⟨rfl,rfl,rfl,rfl,rfl⟩ rfl rfl rfl rfl rfl (by kernel_rfl) Tryz.func7 (by kernel_rfl)
  (zJ (by kernel_rfl)) (by unfold Func.isWrapper;first | (rw[zm (by decide+kernel)];kernel_rfl) | (rw[zn (by decide+kernel)];exact⟨rfl,rfl⟩))
  (fun os started H enc _=>lifted7 os started H enc)
end
end Go.Proofs.YtkcekimolppapaaGreat
