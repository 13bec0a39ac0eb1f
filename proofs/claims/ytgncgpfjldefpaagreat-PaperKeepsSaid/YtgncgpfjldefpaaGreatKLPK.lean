/- After a step that is not issuing the ledger is right, has the same batches with the same totals and the same papers but for the ones that are named, and a retired paper does not stand and can neither be split nor given, for all small right ledgers. No further condition. -/
import Derived.Test.YtgncgpfjldefpaaGreatKP43
import Derived.Test.YtgncgpfjldefpaaGreatKP48
import Derived.Test.YtgncgpfjldefpaaGreatKP46
import Derived.Test.YtgncgpfjldefpaaGreatRows
set_option linter.all false
set_option maxRecDepth 10000000
set_option maxHeartbeats 16000000
namespace Go.Proofs.YtgncgpfjldefpaaGreat
section
open Go.Abs Go.ChangeAt
theorem k_pk(ys:List IV)(h:FitsL G 6 [25,3,3,3,3] ys):Ctr G.P 4 ys (· = .bool true):=by
 obtain⟨y1,_,rfl,h1,g1⟩:=jde h;obtain⟨y2,_,rfl,h2,g2⟩:=jde g1;obtain⟨y3,_,rfl,h3,g3⟩:=jde g2;obtain⟨y4,_,rfl,h4,g4⟩:=jde g3;obtain⟨y5,_,rfl,h5,g5⟩:=jde g4;obtain rfl:=jos g5;obtain⟨p,rfl⟩:=jot h1;obtain⟨b,rfl⟩:=jf8 rfl h2;obtain⟨i,rfl⟩:=jf8 rfl h3;obtain⟨j,rfl⟩:=jf8 rfl h4;obtain⟨n,rfl⟩:=jf8 rfl h5;exact pb_keeps jqj p b i j n
theorem own4:ownKnob Tryz.prog.godebug=none:=by kernel_rfl
theorem laidOut4:laidOutB Tryz.prog=true:=by kernel_rfl
theorem lifted4(os:Os)(started:os.Started)(H:Type)(enc:TypeId×Value->H):
  ReturnsInHanded {} Tryz.checked os 4 .any (Rows.paperKeepsSpec.pre6 enc Tryz.prog Tryz.f4 Rows.paperKeepsRow.domain false) (Rows.paperKeepsSpec.post enc Tryz.prog Tryz.f4 false true false false):=by
 refine returnsInHanded_of_change (C:=Tryz.checked) own4 started (by kernel_rfl) Tryz.func4
  (ChangeSpec.witness6 (enc:=enc) (C:=Tryz.checked) false ⟨#[], #[.agg #[.slice none 0 0,.slice none 0 0],.int .i64 0,.int .i64 0,.int .i64 0,.int .i64 0],[]⟩ 8 (by kernel_rfl) (by kernel_rfl) (by kernel_rfl) (by kernel_rfl)) ?_
 intro W base args ds gs before hval0 hW hcnd _;refine jok (b0:=base) good laidOut4 6 [25,3,3,3,3] rfl rfl rfl Tryz.underlying4 (by kernel_rfl) rfl ?_ k_pk hval0 hW;intro ds hds
 match ds,hds with
 | [d1,d2,d3,d4,d5],_=>rfl
theorem over_pk:Rows.PaperKeepsSaid:=
 OpenClaim.holds_of_wide 4 Tryz.f4 rfl rfl rfl rfl rfl rfl rfl ⟨rfl,rfl,rfl,rfl,rfl⟩ rfl rfl rfl rfl rfl (by kernel_rfl) Tryz.func4 (by kernel_rfl)
  (zF (by kernel_rfl)) (by unfold Func.isWrapper;first | (rw[zm (by decide+kernel)];kernel_rfl) | (rw[zp (by decide+kernel)];exact⟨rfl,rfl⟩))
  (fun os started H enc _=>lifted4 os started H enc)
end
end Go.Proofs.YtgncgpfjldefpaaGreat
