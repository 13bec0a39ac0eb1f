/- For all small evidence, right picks, histories and ranges: the evidence has no range exactly if it allows no history; in a history that it allows the mass of the picks is within the bounds of the range, and of each other one that is accepted, which are the same; and each bound is the mass in such a history. No further condition. -/
import Derived.Test.YthahgoopboilkaaGreatKE44
import Derived.Test.YthahgoopboilkaaGreatRows
set_option linter.all false
set_option maxRecDepth 10000000
set_option maxHeartbeats 16000000
namespace Go.Proofs.YthahgoopboilkaaGreat
section
open Go.Abs Go.ChangeAt
theorem k_we(ys:List IV)(h:FitsL G 8 [28,29,30,40] ys):Ctr G.P 3 ys (· = .bool true):=by
 obtain⟨y1,_,rfl,h1,g1⟩:=jhc h;obtain⟨y2,_,rfl,h2,g2⟩:=jhc g1;obtain⟨y3,_,rfl,h3,g3⟩:=jhc g2;obtain⟨y4,_,rfl,h4,g4⟩:=jhc g3;obtain rfl:=fitsL_nil g4;obtain⟨e,rfl⟩:=fitsA_Evid h1;obtain⟨ps,rfl⟩:=fitsA_picks h2;obtain⟨l,rfl⟩:=fitsA_histH h3;obtain⟨o,rfl⟩:=fitsA_range h4;exact w_encloses e ps l o
theorem own3:ownKnob Tryz.prog.godebug=none:=by kernel_rfl
theorem laidOut3:laidOutB Tryz.prog=true:=by kernel_rfl
theorem lifted3(os:Os)(started:os.Started)(H:Type)(enc:TypeId×Value->H):
  ReturnsInHanded {} Tryz.checked os 3 .any (Rows.weighEnclosesSpec.pre6 enc Tryz.prog Tryz.f3 Rows.weighEnclosesRow.domain false) (Rows.weighEnclosesSpec.post enc Tryz.prog Tryz.f3 false true false false):=by
 refine returnsInHanded_of_change (C:=Tryz.checked) own3 started (by kernel_rfl) Tryz.func3
  (ChangeSpec.witness6 (enc:=enc) (C:=Tryz.checked) false ⟨#[], #[.agg #[.int .i64 0,.int .i64 0,.int .i64 0,.slice none 0 0,.slice none 0 0,.slice none 0 0,.slice none 0 0,.slice none 0 0],.slice none 0 0,.slice none 0 0,.agg #[.int .i64 0,.int .i64 0,.slice none 0 0,.int .i64 0,.slice none 0 0,.slice none 0 0,.slice none 0 0,.slice none 0 0,.int .i64 0,.int .i64 0,.slice none 0 0,.int .i64 0,.slice none 0 0,.slice none 0 0,.slice none 0 0,.slice none 0 0]],[]⟩ 8 (by kernel_rfl) (by kernel_rfl) (by kernel_rfl) (by kernel_rfl)) ?_
 intro W base args ds gs before hval0 hW hcnd _;refine law_calls (b0:=base) good laidOut3 8 [28,29,30,40] rfl rfl rfl Tryz.underlying4 (by kernel_rfl) rfl ?_ k_we hval0 hW;intro ds hds
 match ds,hds with
 | [d1,d2,d3,d4],_=>rfl
theorem over_we:Rows.WeighEnclosesSaid:=
 OpenClaim.holds_of_wide 3 Tryz.f3 rfl rfl rfl rfl rfl rfl rfl ⟨rfl,rfl,rfl,rfl,rfl⟩ rfl rfl rfl rfl rfl (by kernel_rfl) Tryz.func3 (by kernel_rfl)
  (zI (by kernel_rfl)) (by unfold Func.isWrapper;first | (rw[zm (by decide+kernel)];kernel_rfl) | (rw[zn (by decide+kernel)];exact⟨rfl,rfl⟩))
  (fun os started H enc _=>lifted3 os started H enc)
end
end Go.Proofs.YthahgoopboilkaaGreat
