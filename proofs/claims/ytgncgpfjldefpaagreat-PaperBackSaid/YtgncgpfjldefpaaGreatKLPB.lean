/- If a paper is split and both parts are joined, there is a live paper of the same batch, owner and grams at the end, all totals are the same, and the parts can be retired, each one for itself, and not joined then, for all small right ledgers. No further condition. -/
import Derived.Test.YtgncgpfjldefpaaGreatKP43
import Derived.Test.YtgncgpfjldefpaaGreatKP50
import Derived.Test.YtgncgpfjldefpaaGreatKP46
import Derived.Test.YtgncgpfjldefpaaGreatRows
set_option linter.all false
set_option maxRecDepth 10000000
set_option maxHeartbeats 16000000
namespace Go.Proofs.YtgncgpfjldefpaaGreat
section
open Go.Abs Go.ChangeAt
theorem k_pb(ys:List IV)(h:FitsL G 6 [25,3,3,3] ys):Ctr G.P 5 ys (· = .bool true):=by
 obtain⟨y1,_,rfl,h1,g1⟩:=jde h;obtain⟨y2,_,rfl,h2,g2⟩:=jde g1;obtain⟨y3,_,rfl,h3,g3⟩:=jde g2;obtain⟨y4,_,rfl,h4,g4⟩:=jde g3;obtain rfl:=jos g4;obtain⟨p,rfl⟩:=jot h1;obtain⟨b,rfl⟩:=jf8 rfl h2;obtain⟨i,rfl⟩:=jf8 rfl h3;obtain⟨n,rfl⟩:=jf8 rfl h4;exact pb_back jqj p b i n
theorem own5:ownKnob Tryz.prog.godebug=none:=by kernel_rfl
theorem laidOut5:laidOutB Tryz.prog=true:=by kernel_rfl
theorem lifted5(os:Os)(started:os.Started)(H:Type)(enc:TypeId×Value->H):
  ReturnsInHanded {} Tryz.checked os 5 .any (Rows.paperBackSpec.pre6 enc Tryz.prog Tryz.f5 Rows.paperBackRow.domain false) (Rows.paperBackSpec.post enc Tryz.prog Tryz.f5 false true false false):=by
 refine returnsInHanded_of_change (C:=Tryz.checked) own5 started (by kernel_rfl) Tryz.func5
  (ChangeSpec.witness6 (enc:=enc) (C:=Tryz.checked) false ⟨#[], #[.agg #[.slice none 0 0,.slice none 0 0],.int .i64 0,.int .i64 0,.int .i64 0],[]⟩ 8 (by kernel_rfl) (by kernel_rfl) (by kernel_rfl) (by kernel_rfl)) ?_
 intro W base args ds gs before hval0 hW hcnd _;refine jok (b0:=base) good laidOut5 6 [25,3,3,3] rfl rfl rfl Tryz.underlying4 (by kernel_rfl) rfl ?_ k_pb hval0 hW;intro ds hds
 match ds,hds with
 | [d1,d2,d3,d4],_=>rfl
theorem over_pb:Rows.PaperBackSaid:=
 OpenClaim.holds_of_wide 5 Tryz.f5 rfl rfl rfl rfl rfl rfl rfl ⟨rfl,rfl,rfl,rfl,rfl⟩ rfl rfl rfl rfl rfl (by kernel_rfl) Tryz.func5 (by kernel_rfl)
  (zF (by kernel_rfl)) (by unfold Func.isWrapper;first | (rw[zm (by decide+kernel)];kernel_rfl) | (rw[zp (by decide+kernel)];exact⟨rfl,rfl⟩))
  (fun os started H enc _=>lifted5 os started H enc)
end
end Go.Proofs.YtgncgpfjldefpaaGreat
