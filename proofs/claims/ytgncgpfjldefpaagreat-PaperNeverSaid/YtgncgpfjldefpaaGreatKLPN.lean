/- For all light evidence, histories that it allows, and right ledgers with at most four batches: the papers of each batch that stand by what is certain have together at most the mass of its material in its moves, and all papers of a material that stand at most what has come to buyers of it. No further condition. -/
import Derived.Test.YtgncgpfjldefpaaGreatKN44
import Derived.Test.YtgncgpfjldefpaaGreatKN52
import Derived.Test.YtgncgpfjldefpaaGreatRows
set_option linter.all false
set_option maxRecDepth 10000000
set_option maxHeartbeats 16000000
namespace Go.Proofs.YtgncgpfjldefpaaGreat
section
open Go.Abs Go.ChangeAt
theorem k_pn(ys:List IV)(h:FitsL G 6 [49,50,25] ys):Ctr G.P 7 ys (· = .bool true):=by
 obtain⟨y1,_,rfl,h1,g1⟩:=jjl h;obtain⟨y2,_,rfl,h2,g2⟩:=jjl g1;obtain⟨y3,_,rfl,h3,g3⟩:=jjl g2;obtain rfl:=fitsL_nil g3;obtain⟨e,rfl⟩:=fitsA_Evid h1;obtain⟨l,rfl⟩:=fitsA_histH h2;obtain⟨p,rfl⟩:=fitsA_Led h3;exact pb_never pb_small e l p
theorem own7:ownKnob Tryz.prog.godebug=none:=by kernel_rfl
theorem laidOut7:laidOutB Tryz.prog=true:=by kernel_rfl
theorem lifted7(os:Os)(started:os.Started)(H:Type)(enc:TypeId×Value->H):
  ReturnsInHanded {} Tryz.checked os 7 .any (Rows.paperNeverSpec.pre6 enc Tryz.prog Tryz.f7 Rows.paperNeverRow.domain false) (Rows.paperNeverSpec.post enc Tryz.prog Tryz.f7 false true false false):=by
 refine returnsInHanded_of_change (C:=Tryz.checked) own7 started (by kernel_rfl) Tryz.func7
  (ChangeSpec.witness6 (enc:=enc) (C:=Tryz.checked) false ⟨#[], #[.agg #[.int .i64 0,.int .i64 0,.int .i64 0,.slice none 0 0,.slice none 0 0,.slice none 0 0,.slice none 0 0,.slice none 0 0],.slice none 0 0,.agg #[.slice none 0 0,.slice none 0 0]],[]⟩ 8 (by kernel_rfl) (by kernel_rfl) (by kernel_rfl) (by kernel_rfl)) ?_
 intro W base args ds gs before hval0 hW hcnd _;refine law_calls (b0:=base) good laidOut7 6 [49,50,25] rfl rfl rfl Tryz.underlying4 (by kernel_rfl) rfl ?_ k_pn hval0 hW;intro ds hds
 match ds,hds with
 | [d1,d2,d3],_=>rfl
theorem over_pn:Rows.PaperNeverSaid:=
 OpenClaim.holds_of_wide 7 Tryz.f7 rfl rfl rfl rfl rfl rfl rfl ⟨rfl,rfl,rfl,rfl,rfl⟩ rfl rfl rfl rfl rfl (by kernel_rfl) Tryz.func7 (by kernel_rfl)
  (zJ (by kernel_rfl)) (by unfold Func.isWrapper;first | (rw[zm (by decide+kernel)];kernel_rfl) | (rw[zp (by decide+kernel)];exact⟨rfl,rfl⟩))
  (fun os started H enc _=>lifted7 os started H enc)
end
end Go.Proofs.YtgncgpfjldefpaaGreat
