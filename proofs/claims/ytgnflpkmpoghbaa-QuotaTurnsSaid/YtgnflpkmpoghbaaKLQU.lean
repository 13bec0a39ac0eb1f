/- For all right rights and transfers: in another order, and with one of them divided into two, they lead to the same rights, or are not possible either; the same trade back leaves everything as it was; and a trade that is possible in two steps is possible at once, and leads to the same. No further condition. -/
import Derived.Test.YtgnflpkmpoghbaaKU18
import Derived.Test.YtgnflpkmpoghbaaRows
set_option linter.all false
set_option maxRecDepth 10000000
set_option maxHeartbeats 16000000
namespace Go.Proofs.Ytgnflpkmpoghbaa
section
open Go.Abs Go.ChangeAt Go.LQ
theorem fits_u8T{c:List IV}:∀{n:Nat},Fits G n 5 c->∃m:Int,(0<=m/\m<=255)/\c=[.sc (.int .u8 m)]
 | 0,h=>h.elim
 | n+1,h=>by
  unfold Fits at h;have hk:(G.ti 5).kind= .it .u8:=rfl;rw[hk]at h;obtain⟨i,hi,hw⟩:=h;unfold Lit.wf at hw;simp only[Bool.and_eq_true,decide_eq_true_eq]at hw;exact⟨i,hw,hi⟩
theorem fits_i64T{c:List IV}:∀{n:Nat},Fits G n 3 c->∃m:Int,(-9223372036854775808<=m/\m<=9223372036854775807)/\c=[.int m]
 | 0,h=>h.elim
 | n+1,h=>by
  unfold Fits at h;have hk:(G.ti 3).kind= .it .i64:=rfl;rw[hk]at h;obtain⟨i,hi,hw⟩:=h;unfold Lit.wf at hw;simp only[Bool.and_eq_true,decide_eq_true_eq]at hw;exact⟨i,hw,hi⟩
theorem k_qu(ys:List IV)(h:FitsL G 6 [25,26,5,3] ys):Ctr G.P 3 ys (· = .bool true):=by
 obtain⟨y1,_,rfl,h1,g1⟩:=jea h;obtain⟨y2,_,rfl,h2,g2⟩:=jea g1;obtain⟨y3,_,rfl,h3,g3⟩:=jea g2;obtain⟨y4,_,rfl,h4,g4⟩:=jea g3;obtain rfl:=fitsL_nil g4;obtain⟨r,rfl⟩:=fitsA_Rts h1;obtain⟨l,rfl⟩:=fitsA_Trns h2;obtain⟨f,hf,e3⟩:=fits_u8T (jgx rfl h3);cases e3;obtain⟨p,hp,e4⟩:=fits_i64T (jgx rfl h4);cases e4;exact q_turns r l f p hf hp.2
theorem own3:ownKnob Try.prog.godebug=none:=by kernel_rfl
theorem laidOut3:laidOutB Try.prog=true:=by kernel_rfl
theorem lifted3(os:Os)(started:os.Started)(H:Type)(enc:TypeId×Value->H):
  ReturnsInHanded {} Try.checked os 3 .any (Rows.quotaTurnsSpec.pre6 enc Try.prog Try.f3 Rows.quotaTurnsRow.domain false) (Rows.quotaTurnsSpec.post enc Try.prog Try.f3 false true false false):=by
 refine returnsInHanded_of_change (C:=Try.checked) own3 started (by kernel_rfl) Try.func3
  (ChangeSpec.witness6 (enc:=enc) (C:=Try.checked) false ⟨#[], #[.agg #[.int .i64 0,.slice none 0 0,.slice none 0 0,.slice none 0 0],.slice none 0 0,.int .u8 0,.int .i64 0],[]⟩ 8 (by kernel_rfl) (by kernel_rfl) (by kernel_rfl) (by kernel_rfl)) ?_
 intro W base args ds gs before hval0 hW hcnd _;refine law_calls (b0:=base) good laidOut3 6 [25,26,5,3] rfl rfl rfl Try.underlying4 (by kernel_rfl) rfl ?_ k_qu hval0 hW;intro ds hds
 match ds,hds with
 | [d1,d2,d3,d4],_=>rfl
theorem over_qu:Rows.QuotaTurnsSaid:=
 OpenClaim.holds_of_wide 3 Try.f3 rfl rfl rfl rfl rfl rfl rfl ⟨rfl,rfl,rfl,rfl,rfl⟩ rfl rfl rfl rfl rfl (by kernel_rfl) Try.func3 (by kernel_rfl)
  (of_decide_eq_true (by kernel_rfl)) (by unfold Func.isWrapper;first | (rw[if_pos (by decide+kernel)];kernel_rfl) | (rw[if_neg (by decide+kernel)];exact⟨rfl,rfl⟩))
  (fun os started H enc _=>lifted3 os started H enc)
end
end Go.Proofs.Ytgnflpkmpoghbaa
