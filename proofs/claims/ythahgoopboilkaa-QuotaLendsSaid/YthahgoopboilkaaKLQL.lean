/- For all right rights, depots and days, and loans of what communes have left to devices, which spend some of it offline, and report it: whatever the devices of a commune have spent can be used by it, and all communes have used together at most the capacity. No further condition. -/
import Derived.Test.YthahgoopboilkaaKM18
import Derived.Test.YthahgoopboilkaaRows
set_option linter.all false
set_option maxRecDepth 10000000
set_option maxHeartbeats 16000000
namespace Go.Proofs.Ythahgoopboilkaa
section
open Go.Abs Go.ChangeAt Go.LQ
theorem jkg{c:List IV}:∀{n:Nat},Fits G n 5 c->∃m:Int,(0<=m/\m<=255)/\c=[.sc (.int .u8 m)]
 | 0,h=>h.elim
 | n+1,h=>by
  unfold Fits at h;have hk:(G.ti 5).kind= .it .u8:=rfl;rw[hk]at h;obtain⟨i,hi,hw⟩:=h;unfold Lit.wf at hw;simp only[Bool.and_eq_true,decide_eq_true_eq]at hw;exact⟨i,hw,hi⟩
theorem jj0{c:List IV}:∀{n:Nat},Fits G n 49 c->∃m:Int,(0<=m/\m<=65535)/\c=[.sc (.int .u16 m)]
 | 0,h=>h.elim
 | n+1,h=>by
  unfold Fits at h;have hk:(G.ti 49).kind= .it .u16:=rfl;rw[hk]at h;obtain⟨i,hi,hw⟩:=h;unfold Lit.wf at hw;simp only[Bool.and_eq_true,decide_eq_true_eq]at hw;exact⟨i,hw,hi⟩
theorem fits_Act{n:Nat}{xs:List IV}(h:Fits G n 51 xs):∃q:{a:Act//ActOk a},xs=acC q.1:=by
 obtain⟨hl,m,hf⟩:=jjj (t:=51) (fs:=[(0,5),(1,5),(2,49),(3,49)]) rfl h;obtain⟨x0,x1,x2,x3,rfl⟩:=oq4 (show xs.length=4 from hl);have h0:Fits G m 5 [x0]:=hf (0,5) (by simp);obtain⟨i0,b0,e0⟩:=jkg h0;cases e0;have h1:Fits G m 5 [x1]:=hf (1,5) (by simp);obtain⟨i1,b1,e1⟩:=jkg h1;cases e1;have h2:Fits G m 49 [x2]:=hf (2,49) (by simp);obtain⟨i2,b2,e2⟩:=jj0 h2;cases e2;have h3:Fits G m 49 [x3]:=hf (3,49) (by simp);obtain⟨i3,b3,e3⟩:=jj0 h3;cases e3;exact⟨⟨⟨i0,i1,i2,i3⟩,⟨b0,b1,b2,b3⟩⟩,rfl⟩
theorem fitsA_Acts{n:Nat}{y:IV}(h:FitsA G n 44 y):∃l:List Act,y= .sl (l.map acC)/\∀a∈l,ActOk a:=by
 obtain⟨l,e⟩:=jep (fun m:{a:Act//ActOk a}=>acC m.1) rfl (fun _ hc=>fits_Act hc) (jj1 rfl h);cases e;refine⟨l.map Subtype.val,by rw[List.map_map];rfl,fun m hm=> ?_⟩;obtain⟨z,_,rfl⟩:=List.mem_map.1 hm;exact z.2
theorem k_ql(ys:List IV)(h:FitsL G 6 [25,3,3,44] ys):Ctr G.P 5 ys (· = .bool true):=by
 obtain⟨y1,_,rfl,h1,g1⟩:=je2 h;obtain⟨y2,_,rfl,h2,g2⟩:=je2 g1;obtain⟨y3,_,rfl,h3,g3⟩:=je2 g2;obtain⟨y4,_,rfl,h4,g4⟩:=je2 g3;obtain rfl:=fitsL_nil g4;obtain⟨r,rfl⟩:=fitsA_Rts h1;obtain⟨d,rfl⟩:=jhb h2;obtain⟨y,rfl⟩:=jhb h3;obtain⟨l,rfl,ha⟩:=fitsA_Acts h4;exact q_lends r d y l ha
theorem own5:ownKnob Try.prog.godebug=none:=by kernel_rfl
theorem laidOut5:laidOutB Try.prog=true:=by kernel_rfl
theorem lifted5(os:Os)(started:os.Started)(H:Type)(enc:TypeId×Value->H):
  ReturnsInHanded {} Try.checked os 5 .any (Rows.quotaLendsSpec.pre6 enc Try.prog Try.f5 Rows.quotaLendsRow.domain false) (Rows.quotaLendsSpec.post enc Try.prog Try.f5 false true false false):=by
 refine returnsInHanded_of_change (C:=Try.checked) own5 started (by kernel_rfl) Try.func5
  (ChangeSpec.witness6 (enc:=enc) (C:=Try.checked) false ⟨#[], #[.agg #[.int .i64 0,.slice none 0 0,.slice none 0 0,.slice none 0 0],.int .i64 0,.int .i64 0,.slice none 0 0],[]⟩ 8 (by kernel_rfl) (by kernel_rfl) (by kernel_rfl) (by kernel_rfl)) ?_
 intro W base args ds gs before hval0 hW hcnd _;refine law_calls (b0:=base) good laidOut5 6 [25,3,3,44] rfl rfl rfl Try.underlying4 (by kernel_rfl) rfl ?_ k_ql hval0 hW;intro ds hds
 match ds,hds with
 | [d1,d2,d3,d4],_=>rfl
theorem over_ql:Rows.QuotaLendsSaid:=
 OpenClaim.holds_of_wide 5 Try.f5 rfl rfl rfl rfl rfl rfl rfl ⟨rfl,rfl,rfl,rfl,rfl⟩ rfl rfl rfl rfl rfl (by kernel_rfl) Try.func5 (by kernel_rfl)
  (of_decide_eq_true (by kernel_rfl)) (by unfold Func.isWrapper;first | (rw[if_pos (by decide+kernel)];kernel_rfl) | (rw[if_neg (by decide+kernel)];exact⟨rfl,rfl⟩))
  (fun os started H enc _=>lifted5 os started H enc)
end
end Go.Proofs.Ythahgoopboilkaa
