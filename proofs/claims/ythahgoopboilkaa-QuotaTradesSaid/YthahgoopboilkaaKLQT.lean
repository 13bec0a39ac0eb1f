/- For all right rights, transfers and a use: the rights are right after a trade, and after the use; at each depot of a transfer, on its day, all communes hold together what they held, at most the capacity, and none less than it has used; each holds what it held, with what it got and less what it gave; and the use lessens what is left by its kilograms, and nothing else. No further condition. -/
import Derived.Test.YthahgoopboilkaaKT15
import Derived.Test.YthahgoopboilkaaRows
set_option linter.all false
set_option maxRecDepth 10000000
set_option maxHeartbeats 16000000
namespace Go.Proofs.Ythahgoopboilkaa
section
open Go.Abs Go.ChangeAt Go.LQ
theorem q_trades(r:Rts)(l:List Trn)(c d y k:Int):Ctr G.P 3 [.agg (rtC r),.sl (l.map xC),.int c,.int d,.int y,.int k] (· = .bool true):=by
 refine ctrX_of (c:=tailN 0 (jb9 Try.f3)) (t:=12) good Try.func3 rfl (by decide+kernel) (Nat.le_of_ble_eq_true rfl) rfl ?_;refine SemC.cutsF good (fun _:Unit=>SQ (.sl (l.map xC)) (.int 0) c d y k (rtC r)) (fun _=>RightQ r/\l.length<=45) 3 rfl (by decide+kernel) (qt_A (fun s h=>h) fun h1 h2 _ s hs=>⟨(),⟨h1,h2⟩,hs⟩) fun _ ⟨h1,h2⟩=> ?_;rw[jcl];refine SemC.cutsF good (fun _:Unit=>SQ (.sl (l.map xC)) (.int 0) c d y k (rtC r)) (fun _=>True) 2 rfl (by decide+kernel) (qt_B h1 (fun s hs=>⟨(),trivial,hs⟩) h2) fun _ _=> ?_;rw[jcl];exact SemC.awp good (by decide+kernel) (qt_C h1)
theorem k_qt(ys:List IV)(h:FitsL G 6 [25,26,3,3,3,3] ys):Ctr G.P 3 ys (· = .bool true):=by
 obtain⟨y1,_,rfl,h1,g1⟩:=jc4 h;obtain⟨y2,_,rfl,h2,g2⟩:=jc4 g1;obtain⟨y3,_,rfl,h3,g3⟩:=jc4 g2;obtain⟨y4,_,rfl,h4,g4⟩:=jc4 g3;obtain⟨y5,_,rfl,h5,g5⟩:=jc4 g4;obtain⟨y6,_,rfl,h6,g6⟩:=jc4 g5;obtain rfl:=fitsL_nil g6;obtain⟨r,rfl⟩:=fitsA_Rts h1;obtain⟨l,rfl⟩:=fitsA_Trns h2;obtain⟨c,rfl⟩:=jdk h3;obtain⟨d,rfl⟩:=jdk h4;obtain⟨y,rfl⟩:=jdk h5;obtain⟨k,rfl⟩:=jdk h6;exact q_trades r l c d y k
theorem own3:ownKnob Try.prog.godebug=none:=by kernel_rfl
theorem laidOut3:laidOutB Try.prog=true:=by kernel_rfl
theorem lifted3(os:Os)(started:os.Started)(H:Type)(enc:TypeId×Value->H):
  ReturnsInHanded {} Try.checked os 3 .any (Rows.quotaTradesSpec.pre6 enc Try.prog Try.f3 Rows.quotaTradesRow.domain false) (Rows.quotaTradesSpec.post enc Try.prog Try.f3 false true false false):=by
 refine returnsInHanded_of_change (C:=Try.checked) own3 started (by kernel_rfl) Try.func3
  (ChangeSpec.witness6 (enc:=enc) (C:=Try.checked) false ⟨#[], #[.agg #[.int .i64 0,.slice none 0 0,.slice none 0 0,.slice none 0 0],.slice none 0 0,.int .i64 0,.int .i64 0,.int .i64 0,.int .i64 0],[]⟩ 8 (by kernel_rfl) (by kernel_rfl) (by kernel_rfl) (by kernel_rfl)) ?_
 intro W base args ds gs before hval0 hW hcnd _;refine law_calls (b0:=base) good laidOut3 6 [25,26,3,3,3,3] rfl rfl rfl Try.underlying4 (by kernel_rfl) rfl ?_ k_qt hval0 hW;intro ds hds
 match ds,hds with
 | [d1,d2,d3,d4,d5,d6],_=>rfl
theorem over_qt:Rows.QuotaTradesSaid:=
 OpenClaim.holds_of_wide 3 Try.f3 rfl rfl rfl rfl rfl rfl rfl ⟨rfl,rfl,rfl,rfl,rfl⟩ rfl rfl rfl rfl rfl (by kernel_rfl) Try.func3 (by kernel_rfl)
  (of_decide_eq_true (by kernel_rfl)) (by unfold Func.isWrapper;first | (rw[if_pos (by decide+kernel)];kernel_rfl) | (rw[if_neg (by decide+kernel)];exact⟨rfl,rfl⟩))
  (fun os started H enc _=>lifted3 os started H enc)
end
end Go.Proofs.Ythahgoopboilkaa
