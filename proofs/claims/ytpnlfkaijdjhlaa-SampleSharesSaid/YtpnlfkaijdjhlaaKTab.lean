/- Written by gentab.py: the types of this seat's translation, and that the table fits the loaded program. -/
import Derived.Test.YtpnlfkaijdjhlaaKA3
import Derived.Test.YtpnlfkaijdjhlaaProg
import Derived.KernelRfl
namespace Go.Proofs.Ytpnlfkaijdjhlaa
set_option linter.all false
open Go.Abs
def ti : Nat → TI
  | 2 => ⟨1, 8, [.int .i64], .it .i64, false⟩
  | 3 => ⟨1, 8, [.int .i64], .it .i64, false⟩
  | 4 => ⟨1, 1, [.bool], .bl, false⟩
  | 5 => ⟨1, 1, [.int .u8], .it .u8, false⟩
  | 9 => ⟨1, 16, [.str], .str, false⟩
  | 12 => ⟨1, 8, [.int .u64], .it .u64, false⟩
  | 15 => ⟨1, 8, [.no], .no, false⟩
  | 16 => ⟨1, 8, [.no], .no, false⟩
  | 17 => ⟨1, 8, [.no], .no, false⟩
  | 21 => ⟨1, 4, [.int .i32], .it .i32, false⟩
  | 22 => ⟨1, 24, [.sl], .sl 68, false⟩
  | 23 => ⟨1, 24, [.sl], .sl 64, false⟩
  | 24 => ⟨1, 24, [.sl], .sl 80, false⟩
  | 25 => ⟨1, 24, [.sl], .sl 83, false⟩
  | 26 => ⟨1, 24, [.sl], .sl 52, false⟩
  | 27 => ⟨8, 144, [.int .i64, .int .i64, .int .i64, .sl, .sl, .sl, .sl, .sl], .st [(0, 3), (1, 3), (2, 3), (3, 22), (4, 23), (5, 24), (6, 25), (7, 26)], false⟩
  | 28 => ⟨8, 144, [.int .i64, .int .i64, .int .i64, .sl, .sl, .sl, .sl, .sl], .st [(0, 3), (1, 3), (2, 3), (3, 22), (4, 23), (5, 24), (6, 25), (7, 26)], false⟩
  | 29 => ⟨1, 24, [.sl], .sl 33, false⟩
  | 30 => ⟨1, 24, [.sl], .sl 60, false⟩
  | 31 => ⟨1, 24, [.sl], .sl 3, false⟩
  | 32 => ⟨3, 40, [.int .i64, .sl, .int .i64], .st [(0, 3), (1, 31), (2, 3)], false⟩
  | 33 => ⟨3, 40, [.int .i64, .sl, .int .i64], .st [(0, 3), (1, 31), (2, 3)], false⟩
  | 37 => ⟨1, 8, [.int .i64], .it .i64, false⟩
  | 46 => ⟨2, 32, [.int .i64, .sl], .st [(0, 3), (1, 31)], false⟩
  | 47 => ⟨2, 32, [.int .i64, .sl], .st [(0, 3), (1, 31)], false⟩
  | 48 => ⟨4, 64, [.int .i64, .sl, .int .i64, .sl], .st [(0, 47), (2, 47)], false⟩
  | 49 => ⟨4, 64, [.int .i64, .sl, .int .i64, .sl], .st [(0, 47), (2, 47)], false⟩
  | 51 => ⟨4, 32, [.int .i64, .int .i64, .int .i64, .int .i64], .st [(0, 3), (1, 3), (2, 3), (3, 3)], false⟩
  | 52 => ⟨4, 32, [.int .i64, .int .i64, .int .i64, .int .i64], .st [(0, 3), (1, 3), (2, 3), (3, 3)], true⟩
  | 57 => ⟨1, 2, [.int .u16], .it .u16, false⟩
  | 59 => ⟨5, 40, [.int .i64, .int .i64, .int .i64, .int .i64, .int .i64], .st [(0, 3), (1, 3), (2, 3), (3, 3), (4, 3)], false⟩
  | 60 => ⟨5, 40, [.int .i64, .int .i64, .int .i64, .int .i64, .int .i64], .st [(0, 3), (1, 3), (2, 3), (3, 3), (4, 3)], true⟩
  | 63 => ⟨6, 48, [.int .i64, .int .i64, .int .i64, .int .i64, .int .i64, .bool], .st [(0, 3), (1, 3), (2, 3), (3, 3), (4, 3), (5, 4)], false⟩
  | 64 => ⟨6, 48, [.int .i64, .int .i64, .int .i64, .int .i64, .int .i64, .bool], .st [(0, 3), (1, 3), (2, 3), (3, 3), (4, 3), (5, 4)], true⟩
  | 67 => ⟨3, 24, [.int .i64, .int .i64, .int .i64], .st [(0, 3), (1, 3), (2, 3)], false⟩
  | 68 => ⟨3, 24, [.int .i64, .int .i64, .int .i64], .st [(0, 3), (1, 3), (2, 3)], true⟩
  | 79 => ⟨6, 48, [.int .i64, .int .i64, .int .i64, .int .i64, .int .i64, .int .i64], .st [(0, 3), (1, 3), (2, 3), (3, 3), (4, 3), (5, 3)], false⟩
  | 80 => ⟨6, 48, [.int .i64, .int .i64, .int .i64, .int .i64, .int .i64, .int .i64], .st [(0, 3), (1, 3), (2, 3), (3, 3), (4, 3), (5, 3)], true⟩
  | 82 => ⟨2, 16, [.int .i64, .int .i64], .st [(0, 3), (1, 3)], false⟩
  | 83 => ⟨2, 16, [.int .i64, .int .i64], .st [(0, 3), (1, 3)], true⟩
  | 107 => ⟨2, 16, [.int .i64, .int .i64], .arr 2 3, false⟩
  | 108 => ⟨1, 24, [.sl], .sl 107, false⟩
  | 122 => ⟨1, 4, [.int .u32], .it .u32, false⟩
  | 126 => ⟨1, 8, [.no], .no, false⟩
  | 129 => ⟨11, 48, [.int .u64, .int .u64, .int .u32, .int .u8, .int .u8, .int .u8, .int .u8, .no, .no, .int .i32, .int .i32], .st [(0, 12), (1, 12), (2, 122), (3, 123), (4, 5), (5, 5), (6, 124), (7, 125), (8, 126), (9, 127), (10, 128)], false⟩
  | _ => ⟨0, 0, [], .no, false⟩
noncomputable def G : Ctx := ⟨Try.prog, ti, 77⟩
theorem G_P : G.P = Try.prog := rfl
theorem G_ti (t : Nat) : G.ti t = ti t := rfl
theorem G_fns : G.fns = 77 := rfl
attribute [go_sem] G_ti G_fns ti
theorem ti_big (t : Nat) (h : 132 ≤ t) : ti t = ⟨0, 0, [], .no, false⟩ := by
  unfold ti
  split <;> first | omega | rfl
theorem ti_ok : ((List.range 132).all fun t => (ti t).size == 0 || (ti t).okB Try.prog t) = true := by kernel_rfl
theorem fn_ok : ((List.range 77).all fun f => decide (f < 3) || callable Try.prog f) = true := by kernel_rfl
theorem mixed_ok : Try.prog.follows .mixedOrders = true := by kernel_rfl
theorem good : G.Good where
  ok t ht := by
    rcases Nat.lt_or_ge t 132 with h | h
    · have := List.all_eq_true.1 ti_ok t (List.mem_range.2 h)
      simp only [Bool.or_eq_true, beq_iff_eq] at this
      exact this.resolve_left ht
    · exact absurd (by rw [G_ti, ti_big t h]) ht
  fn f hf := by
    have := List.all_eq_true.1 fn_ok f (List.mem_range.2 hf.2)
    simp only [Bool.or_eq_true, decide_eq_true_eq] at this
    exact this.resolve_left (by omega)
  mixed := mixed_ok
end Go.Proofs.Ytpnlfkaijdjhlaa
