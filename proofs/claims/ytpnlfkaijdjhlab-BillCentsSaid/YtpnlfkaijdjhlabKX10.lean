/- Written by gentab.py: the types of this seat's translation, and that the table fits the loaded program. -/
import Derived.Test.YtpnlfkaijdjhlabKX9
import Derived.Test.YtpnlfkaijdjhlabProg
import Derived.KernelRfl
namespace Go.Proofs.Ytpnlfkaijdjhlab
set_option linter.all false
open Go.Abs
def ti : Nat → TI
  | 2 => ⟨1, 8, [.int .i64], .it .i64, false⟩
  | 3 => ⟨1, 8, [.int .i64], .it .i64, false⟩
  | 4 => ⟨1, 1, [.bool], .bl, false⟩
  | 5 => ⟨1, 1, [.int .u8], .it .u8, false⟩
  | 9 => ⟨1, 16, [.str], .str, false⟩
  | 12 => ⟨1, 8, [.int .u64], .it .u64, false⟩
  | 15 => ⟨1, 8, [.no], .no, false⟩
  | 16 => ⟨1, 8, [.no], .no, false⟩
  | 17 => ⟨1, 8, [.no], .no, false⟩
  | 21 => ⟨1, 4, [.int .i32], .it .i32, false⟩
  | 22 => ⟨1, 24, [.sl], .sl 3, false⟩
  | 23 => ⟨2, 32, [.int .i64, .sl], .st [(0, 3), (1, 22)], false⟩
  | 24 => ⟨2, 32, [.int .i64, .sl], .st [(0, 3), (1, 22)], false⟩
  | 25 => ⟨4, 64, [.int .i64, .sl, .int .i64, .sl], .st [(0, 24), (2, 24)], false⟩
  | 26 => ⟨4, 64, [.int .i64, .sl, .int .i64, .sl], .st [(0, 24), (2, 24)], false⟩
  | 27 => ⟨1, 24, [.sl], .sl 39, false⟩
  | 31 => ⟨1, 8, [.int .i64], .it .i64, false⟩
  | 38 => ⟨4, 32, [.int .i64, .int .i64, .int .i64, .int .i64], .st [(0, 3), (1, 3), (2, 3), (3, 3)], false⟩
  | 39 => ⟨4, 32, [.int .i64, .int .i64, .int .i64, .int .i64], .st [(0, 3), (1, 3), (2, 3), (3, 3)], true⟩
  | 46 => ⟨1, 24, [.sl], .sl 89, false⟩
  | 47 => ⟨4, 80, [.int .i64, .sl, .sl, .sl], .st [(0, 3), (1, 22), (2, 46), (3, 46)], false⟩
  | 48 => ⟨4, 80, [.int .i64, .sl, .sl, .sl], .st [(0, 3), (1, 22), (2, 46), (3, 46)], false⟩
  | 49 => ⟨1, 24, [.sl], .sl 55, false⟩
  | 54 => ⟨5, 40, [.int .i64, .int .i64, .int .i64, .int .i64, .int .i64], .st [(0, 3), (1, 3), (2, 3), (3, 3), (4, 3)], false⟩
  | 55 => ⟨5, 40, [.int .i64, .int .i64, .int .i64, .int .i64, .int .i64], .st [(0, 3), (1, 3), (2, 3), (3, 3), (4, 3)], true⟩
  | 64 => ⟨1, 8, [.no], .mp 72 69, false⟩
  | 68 => ⟨2, 16, [.int .i64, .int .i64], .st [(0, 3), (1, 3)], false⟩
  | 69 => ⟨2, 16, [.int .i64, .int .i64], .st [(0, 3), (1, 3)], true⟩
  | 71 => ⟨2, 16, [.int .i64, .int .i64], .st [(0, 3), (1, 3)], false⟩
  | 72 => ⟨2, 16, [.int .i64, .int .i64], .st [(0, 3), (1, 3)], true⟩
  | 87 => ⟨1, 8, [.no], .mp 91 3, false⟩
  | 88 => ⟨4, 32, [.int .i64, .int .i64, .int .i64, .int .i64], .st [(0, 3), (1, 3), (2, 3), (3, 3)], false⟩
  | 89 => ⟨4, 32, [.int .i64, .int .i64, .int .i64, .int .i64], .st [(0, 3), (1, 3), (2, 3), (3, 3)], true⟩
  | 90 => ⟨3, 24, [.int .i64, .int .i64, .int .i64], .arr 3 3, false⟩
  | 91 => ⟨3, 24, [.int .i64, .int .i64, .int .i64], .arr 3 3, false⟩
  | 99 => ⟨1, 8, [.int .u64], .it .u64, false⟩
  | 111 => ⟨1, 24, [.sl], .sl 91, false⟩
  | 123 => ⟨1, 8, [.int .u64], .it .u64, false⟩
  | 141 => ⟨1, 4, [.int .u32], .it .u32, false⟩
  | 147 => ⟨1, 8, [.no], .no, false⟩
  | 149 => ⟨1, 8, [.no], .no, false⟩
  | 161 => ⟨1, 8, [.no], .no, false⟩
  | 164 => ⟨11, 48, [.int .u64, .int .u64, .int .u32, .int .u8, .int .u8, .int .u8, .int .u8, .no, .no, .int .i32, .int .i32], .st [(0, 12), (1, 12), (2, 141), (3, 158), (4, 5), (5, 5), (6, 159), (7, 160), (8, 161), (9, 162), (10, 163)], false⟩
  | _ => ⟨0, 0, [], .no, false⟩
noncomputable def G : Ctx := { P := Try.prog, ti := ti, fns := 117 }
theorem G_P : G.P = Try.prog := rfl
theorem G_ti (t : Nat) : G.ti t = ti t := rfl
theorem G_fns : G.fns = 117 := rfl
theorem G_own : G.own = false := rfl
/-- The same, but that what is appended to an empty literal may be written to. -/
noncomputable def GO : Ctx := { G with own := true }
theorem GO_ti (t : Nat) : GO.ti t = ti t := rfl
theorem GO_fns : GO.fns = 117 := rfl
theorem GO_own : GO.own = true := rfl
attribute [go_sem] G_ti G_fns G_own GO_ti GO_fns GO_own ti
theorem ti_big (t : Nat) (h : 167 ≤ t) : ti t = ⟨0, 0, [], .no, false⟩ := by
  unfold ti
  split <;> first | omega | rfl
theorem ti_ok : ((List.range 167).all fun t => (ti t).size == 0 || (ti t).okB Try.prog t) = true := by kernel_rfl
theorem fn_ok : ((List.range 117).all fun f => decide (f < 3) || callable Try.prog f) = true := by kernel_rfl
theorem mixed_ok : Try.prog.follows .mixedOrders = true := by kernel_rfl
theorem good : G.Good where
  ok t ht := by
    rcases Nat.lt_or_ge t 167 with h | h
    · have := List.all_eq_true.1 ti_ok t (List.mem_range.2 h)
      simp only [Bool.or_eq_true, beq_iff_eq] at this
      exact this.resolve_left ht
    · exact absurd (by rw [G_ti, ti_big t h]) ht
  fn f hf := by
    have := List.all_eq_true.1 fn_ok f (List.mem_range.2 hf.2)
    simp only [Bool.or_eq_true, decide_eq_true_eq] at this
    exact this.resolve_left (by omega)
  mixed := mixed_ok
theorem goodO : GO.Good where
  ok := good.ok
  fn := good.fn
  mixed := mixed_ok
theorem knG_72 : keyN G 72 = some 2 := by rfl
attribute [go_sem] knG_72
theorem ikG_69 : intK G 69 = false := by rfl
attribute [go_sem] ikG_69
theorem zeG_69 : zeroE G 69 = some (.agg [.sc (.int .i64 0), .sc (.int .i64 0)]) := by rfl
attribute [go_sem] zeG_69
theorem knGO_72 : keyN GO 72 = some 2 := by rfl
attribute [go_sem] knGO_72
theorem ikGO_69 : intK GO 69 = false := by rfl
attribute [go_sem] ikGO_69
theorem zeGO_69 : zeroE GO 69 = some (.agg [.sc (.int .i64 0), .sc (.int .i64 0)]) := by rfl
attribute [go_sem] zeGO_69
theorem knG_91 : keyN G 91 = some 3 := by rfl
attribute [go_sem] knG_91
theorem ikG_3 : intK G 3 = true := by rfl
attribute [go_sem] ikG_3
theorem zeG_3 : zeroE G 3 = some (.sc (.int .i64 0)) := by rfl
attribute [go_sem] zeG_3
theorem knGO_91 : keyN GO 91 = some 3 := by rfl
attribute [go_sem] knGO_91
theorem ikGO_3 : intK GO 3 = true := by rfl
attribute [go_sem] ikGO_3
theorem zeGO_3 : zeroE GO 3 = some (.sc (.int .i64 0)) := by rfl
attribute [go_sem] zeGO_3
end Go.Proofs.Ytpnlfkaijdjhlab
