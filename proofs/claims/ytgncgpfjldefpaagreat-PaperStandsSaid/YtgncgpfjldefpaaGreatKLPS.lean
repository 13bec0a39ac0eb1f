/- What stands by a list of numbers that has nowhere more stands by the other list, of two live papers of a batch the later one does not stand without the earlier one, and what stands of a batch has, with what is retired, at most the number, for all small right ledgers and lists. No further condition. -/
import Derived.Test.YtgncgpfjldefpaaGreatKX44
import Derived.Test.YtgncgpfjldefpaaGreatKX45
import Derived.Test.YtgncgpfjldefpaaGreatKX46
import Derived.Test.YtgncgpfjldefpaaGreatRows
set_option linter.all false
set_option maxRecDepth 100000
namespace Go.Proofs.YtgncgpfjldefpaaGreat
section
open Go.Abs Go.ChangeAt
theorem k_ps(ys:List IV)(h:FitsL G 6 [25,26,27] ys):Ctr G.P 3 ys (· = .bool true):=by
 obtain⟨y1,_,rfl,h1,g1⟩:=jiz h;obtain⟨y2,_,rfl,h2,g2⟩:=jiz g1;obtain⟨y3,_,rfl,h3,g3⟩:=jiz g2;obtain rfl:=fitsL_nil g3;obtain⟨p,rfl⟩:=fitsA_Led h1;obtain⟨cert,rfl⟩:=fitsA_intsP h2;obtain⟨drops,rfl,hd⟩:=fitsA_u16s h3;exact pb_stands pb_small p cert drops hd
theorem own3:ownKnob Tryz.prog.godebug=none:=by kernel_rfl
theorem laidOut3:laidOutB Tryz.prog=true:=by kernel_rfl
theorem lifted3(os:Os)(started:os.Started)(H:Type)(enc:TypeId×Value->H):
  ReturnsInHanded {} Tryz.checked os 3 .any (Rows.paperStandsSpec.pre6 enc Tryz.prog Tryz.f3 Rows.paperStandsRow.domain false) (Rows.paperStandsSpec.post enc Tryz.prog Tryz.f3 false true false false):=by
 refine returnsInHanded_of_change (C:=Tryz.checked) own3 started (by kernel_rfl) Tryz.func3
  (ChangeSpec.witness6 (enc:=enc) (C:=Tryz.checked) false ⟨#[], #[.agg #[.slice none 0 0,.slice none 0 0],.slice none 0 0,.slice none 0 0],[]⟩ 8 (by kernel_rfl) (by kernel_rfl) (by kernel_rfl) (by kernel_rfl)) ?_
 intro W base args ds gs before hval0 hW hcnd _;refine law_calls (b0:=base) good laidOut3 6 [25,26,27] rfl rfl rfl Tryz.underlying4 (by kernel_rfl) rfl ?_ k_ps hval0 hW;intro ds hds
 match ds,hds with
 | [d1,d2,d3],_=>rfl
theorem over_ps:Rows.PaperStandsSaid:=
 OpenClaim.holds_of_wide 3 Tryz.f3 rfl rfl rfl rfl rfl rfl rfl ⟨rfl,rfl,rfl,rfl,rfl⟩ rfl rfl rfl rfl rfl (by kernel_rfl) Tryz.func3 (by kernel_rfl)
  (of_decide_eq_true (by kernel_rfl)) (by unfold Func.isWrapper;first | (rw[if_pos (by decide+kernel)];kernel_rfl) | (rw[if_neg (by decide+kernel)];exact⟨rfl,rfl⟩))
  (fun os started H enc _=>lifted3 os started H enc)
end
end Go.Proofs.YtgncgpfjldefpaaGreat
