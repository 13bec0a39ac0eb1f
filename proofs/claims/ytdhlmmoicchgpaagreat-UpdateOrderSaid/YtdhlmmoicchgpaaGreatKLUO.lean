/- UpdateOrder: two steps that are purities, recalls or certificates of different scales give the same bounds in both orders, one of them done twice gives the same bounds as once and changes nothing, and what is done with a copy does not change the watch, for all small evidence and questions. No further condition. -/
import Derived.Test.YtdhlmmoicchgpaaGreatKV51
import Derived.Test.YtdhlmmoicchgpaaGreatRows
set_option linter.all false
set_option maxRecDepth 10000000
set_option maxHeartbeats 16000000
namespace Go.Proofs.YtdhlmmoicchgpaaGreat
section
open Go.Abs Go.ChangeAt
theorem k_uo(ys:List IV)(h:FitsL G 6 [28,29,52,52] ys):Ctr G.P 5 ys (· = .bool true):=by
 obtain⟨y1,_,rfl,h1,g1⟩:=jej h;obtain⟨y2,_,rfl,h2,g2⟩:=jej g1;obtain⟨y3,_,rfl,h3,g3⟩:=jej g2;obtain⟨y4,_,rfl,h4,g4⟩:=jej g3;obtain rfl:=jpd g4;obtain⟨e,rfl⟩:=jmn h1;obtain⟨qs,rfl⟩:=js1 h2;obtain⟨x3,rfl,f3⟩:=jh2 rfl h3;obtain⟨x,rfl⟩:=jnq f3;obtain⟨x4,rfl,f4⟩:=jh2 rfl h4;obtain⟨y,rfl⟩:=jnq f4;exact u_order e qs x y
theorem own5:ownKnob Tryz.prog.godebug=none:=by kernel_rfl
theorem laidOut5:laidOutB Tryz.prog=true:=by kernel_rfl
theorem lifted5(os:Os)(started:os.Started)(H:Type)(enc:TypeId×Value->H):
  ReturnsInHanded {} Tryz.checked os 5 .any (Rows.updateOrderSpec.pre6 enc Tryz.prog Tryz.f5 Rows.updateOrderRow.domain false) (Rows.updateOrderSpec.post enc Tryz.prog Tryz.f5 false true false false):=by
 refine returnsInHanded_of_change (C:=Tryz.checked) own5 started (by kernel_rfl) Tryz.func5
  (ChangeSpec.witness6 (enc:=enc) (C:=Tryz.checked) false ⟨#[], #[.agg #[.int .i64 0,.int .i64 0,.int .i64 0,.slice none 0 0,.slice none 0 0,.slice none 0 0,.slice none 0 0,.slice none 0 0],.slice none 0 0,.agg #[.int .i64 0,.int .i64 0,.int .i64 0,.int .i64 0,.int .i64 0,.int .i64 0,.bool false,.int .i64 0,.int .i64 0,.int .i64 0,.int .i64 0,.int .i64 0,.int .i64 0,.int .i64 0,.int .i64 0,.int .i64 0,.int .i64 0,.int .i64 0,.int .i64 0],.agg #[.int .i64 0,.int .i64 0,.int .i64 0,.int .i64 0,.int .i64 0,.int .i64 0,.bool false,.int .i64 0,.int .i64 0,.int .i64 0,.int .i64 0,.int .i64 0,.int .i64 0,.int .i64 0,.int .i64 0,.int .i64 0,.int .i64 0,.int .i64 0,.int .i64 0]],[]⟩ 8 (by kernel_rfl) (by kernel_rfl) (by kernel_rfl) (by kernel_rfl)) ?_
 intro W base args ds gs before hval0 hW hcnd _;refine jp6 (b0:=base) good laidOut5 6 [28,29,52,52] rfl rfl rfl Tryz.underlying4 (by kernel_rfl) rfl ?_ k_uo hval0 hW;intro ds hds
 match ds,hds with
 | [d1,d2,d3,d4],_=>rfl
theorem over_uo:Rows.UpdateOrderSaid:=
 OpenClaim.holds_of_wide 5 Tryz.f5 rfl rfl rfl rfl rfl rfl rfl ⟨rfl,rfl,rfl,rfl,rfl⟩ rfl rfl rfl rfl rfl (by kernel_rfl) Tryz.func5 (by kernel_rfl)
  (zK (by kernel_rfl)) (by unfold Func.isWrapper;first | (rw[zm (by decide+kernel)];kernel_rfl) | (rw[zr (by decide+kernel)];exact⟨rfl,rfl⟩))
  (fun os started H enc _=>lifted5 os started H enc)
end
end Go.Proofs.YtdhlmmoicchgpaaGreat
