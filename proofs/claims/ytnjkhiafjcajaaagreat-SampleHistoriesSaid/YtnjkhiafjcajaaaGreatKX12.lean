/- Written by gentab.py: the types of this seat's translation, and that the table fits the loaded program. -/
import Derived.Test.YtnjkhiafjcajaaaGreatKX11
import Derived.Test.YtnjkhiafjcajaaaGreatProg
import Derived.KernelRfl
namespace Go.Proofs.YtnjkhiafjcajaaaGreat
set_option linter.all false
open Go.Abs
def ti : Nat → TI
  | 2 => ⟨1, 8, [.int .i64], .it .i64, false⟩
  | 3 => ⟨1, 8, [.int .i64], .it .i64, false⟩
  | 4 => ⟨1, 1, [.bool], .bl, false⟩
  | 5 => ⟨1, 1, [.int .u8], .it .u8, false⟩
  | 9 => ⟨1, 16, [.str], .str, false⟩
  | 12 => ⟨1, 8, [.int .u64], .it .u64, false⟩
  | 15 => ⟨1, 8, [.no], .no, false⟩
  | 16 => ⟨1, 8, [.no], .no, false⟩
  | 17 => ⟨1, 8, [.no], .no, false⟩
  | 21 => ⟨1, 4, [.int .i32], .it .i32, false⟩
  | 22 => ⟨1, 24, [.sl], .sl 97, false⟩
  | 23 => ⟨1, 24, [.sl], .sl 105, false⟩
  | 24 => ⟨1, 24, [.sl], .sl 49, false⟩
  | 25 => ⟨1, 24, [.sl], .sl 51, false⟩
  | 26 => ⟨1, 24, [.sl], .sl 43, false⟩
  | 27 => ⟨8, 144, [.int .i64, .int .i64, .int .i64, .sl, .sl, .sl, .sl, .sl], .st [(0, 3), (1, 3), (2, 3), (3, 22), (4, 23), (5, 24), (6, 25), (7, 26)], false⟩
  | 28 => ⟨8, 144, [.int .i64, .int .i64, .int .i64, .sl, .sl, .sl, .sl, .sl], .st [(0, 3), (1, 3), (2, 3), (3, 22), (4, 23), (5, 24), (6, 25), (7, 26)], false⟩
  | 29 => ⟨1, 24, [.sl], .sl 103, false⟩
  | 30 => ⟨1, 24, [.sl], .sl 107, false⟩
  | 31 => ⟨1, 24, [.sl], .sl 45, false⟩
  | 36 => ⟨1, 8, [.int .i64], .it .i64, false⟩
  | 42 => ⟨4, 32, [.int .i64, .int .i64, .int .i64, .int .i64], .st [(0, 3), (1, 3), (2, 3), (3, 3)], false⟩
  | 43 => ⟨4, 32, [.int .i64, .int .i64, .int .i64, .int .i64], .st [(0, 3), (1, 3), (2, 3), (3, 3)], true⟩
  | 45 => ⟨1, 24, [.sl], .sl 57, false⟩
  | 47 => ⟨1, 24, [.sl], .sl 128, false⟩
  | 48 => ⟨6, 48, [.int .i64, .int .i64, .int .i64, .int .i64, .int .i64, .int .i64], .st [(0, 3), (1, 3), (2, 3), (3, 3), (4, 3), (5, 3)], false⟩
  | 49 => ⟨6, 48, [.int .i64, .int .i64, .int .i64, .int .i64, .int .i64, .int .i64], .st [(0, 3), (1, 3), (2, 3), (3, 3), (4, 3), (5, 3)], true⟩
  | 50 => ⟨2, 16, [.int .i64, .int .i64], .st [(0, 3), (1, 3)], false⟩
  | 51 => ⟨2, 16, [.int .i64, .int .i64], .st [(0, 3), (1, 3)], true⟩
  | 53 => ⟨1, 24, [.sl], .sl 3, false⟩
  | 54 => ⟨2, 32, [.int .i64, .sl], .st [(0, 3), (1, 53)], false⟩
  | 55 => ⟨2, 32, [.int .i64, .sl], .st [(0, 3), (1, 53)], false⟩
  | 56 => ⟨4, 64, [.int .i64, .sl, .int .i64, .sl], .st [(0, 55), (2, 55)], false⟩
  | 57 => ⟨4, 64, [.int .i64, .sl, .int .i64, .sl], .st [(0, 55), (2, 55)], false⟩
  | 58 => ⟨8, 144, [.int .i64, .int .i64, .sl, .int .i64, .sl, .sl, .sl, .sl], .st [(0, 3), (1, 57), (5, 45), (6, 45), (7, 45)], false⟩
  | 59 => ⟨8, 144, [.int .i64, .int .i64, .sl, .int .i64, .sl, .sl, .sl, .sl], .st [(0, 3), (1, 57), (5, 45), (6, 45), (7, 45)], false⟩
  | 60 => ⟨16, 288, [.int .i64, .int .i64, .sl, .int .i64, .sl, .sl, .sl, .sl, .int .i64, .int .i64, .sl, .int .i64, .sl, .sl, .sl, .sl], .st [(0, 59), (8, 59)], false⟩
  | 61 => ⟨16, 288, [.int .i64, .int .i64, .sl, .int .i64, .sl, .sl, .sl, .sl, .int .i64, .int .i64, .sl, .int .i64, .sl, .sl, .sl, .sl], .st [(0, 59), (8, 59)], false⟩
  | 62 => ⟨10, 136, [.int .i64, .sl, .int .i64, .sl, .int .i64, .sl, .int .i64, .sl, .bool, .bool], .st [(0, 57), (4, 57), (8, 4), (9, 4)], false⟩
  | 63 => ⟨10, 136, [.int .i64, .sl, .int .i64, .sl, .int .i64, .sl, .int .i64, .sl, .bool, .bool], .st [(0, 57), (4, 57), (8, 4), (9, 4)], false⟩
  | 79 => ⟨1, 24, [.sl], .sl 215, false⟩
  | 80 => ⟨2, 32, [.int .i64, .sl], .st [(0, 3), (1, 79)], false⟩
  | 81 => ⟨2, 32, [.int .i64, .sl], .st [(0, 3), (1, 79)], false⟩
  | 84 => ⟨1, 24, [.sl], .sl 152, false⟩
  | 96 => ⟨3, 24, [.int .i64, .int .i64, .int .i64], .st [(0, 3), (1, 3), (2, 3)], false⟩
  | 97 => ⟨3, 24, [.int .i64, .int .i64, .int .i64], .st [(0, 3), (1, 3), (2, 3)], true⟩
  | 102 => ⟨3, 40, [.int .i64, .sl, .int .i64], .st [(0, 3), (1, 53), (2, 3)], false⟩
  | 103 => ⟨3, 40, [.int .i64, .sl, .int .i64], .st [(0, 3), (1, 53), (2, 3)], false⟩
  | 104 => ⟨6, 48, [.int .i64, .int .i64, .int .i64, .int .i64, .int .i64, .bool], .st [(0, 3), (1, 3), (2, 3), (3, 3), (4, 3), (5, 4)], false⟩
  | 105 => ⟨6, 48, [.int .i64, .int .i64, .int .i64, .int .i64, .int .i64, .bool], .st [(0, 3), (1, 3), (2, 3), (3, 3), (4, 3), (5, 4)], true⟩
  | 106 => ⟨5, 40, [.int .i64, .int .i64, .int .i64, .int .i64, .int .i64], .st [(0, 3), (1, 3), (2, 3), (3, 3), (4, 3)], false⟩
  | 107 => ⟨5, 40, [.int .i64, .int .i64, .int .i64, .int .i64, .int .i64], .st [(0, 3), (1, 3), (2, 3), (3, 3), (4, 3)], true⟩
  | 119 => ⟨1, 24, [.sl], .sl 45, false⟩
  | 127 => ⟨2, 16, [.int .i64, .int .i64], .st [(0, 3), (1, 3)], false⟩
  | 128 => ⟨2, 16, [.int .i64, .int .i64], .st [(0, 3), (1, 3)], true⟩
  | 145 => ⟨1, 24, [.sl], .sl 210, false⟩
  | 146 => ⟨10, 192, [.int .i64, .int .i64, .int .i64, .sl, .sl, .sl, .sl, .sl, .sl, .sl], .st [(0, 28), (8, 79), (9, 145)], false⟩
  | 147 => ⟨10, 192, [.int .i64, .int .i64, .int .i64, .sl, .sl, .sl, .sl, .sl, .sl, .sl], .st [(0, 28), (8, 79), (9, 145)], false⟩
  | 148 => ⟨1, 8, [.no], .no, false⟩
  | 151 => ⟨5, 72, [.int .i64, .int .i64, .sl, .int .i64, .sl], .st [(0, 3), (1, 57)], false⟩
  | 152 => ⟨5, 72, [.int .i64, .int .i64, .sl, .int .i64, .sl], .st [(0, 3), (1, 57)], false⟩
  | 168 => ⟨2, 16, [.int .i64, .int .i64], .arr 2 3, false⟩
  | 169 => ⟨1, 24, [.sl], .sl 168, false⟩
  | 186 => ⟨1, 8, [.int .u64], .it .u64, false⟩
  | 187 => ⟨1, 8, [.int .u64], .it .u64, false⟩
  | 193 => ⟨1, 8, [.no], .no, false⟩
  | 209 => ⟨4, 32, [.int .i64, .int .i64, .int .i64, .int .i64], .st [(0, 3), (1, 3), (2, 3), (3, 3)], false⟩
  | 210 => ⟨4, 32, [.int .i64, .int .i64, .int .i64, .int .i64], .st [(0, 3), (1, 3), (2, 3), (3, 3)], true⟩
  | 214 => ⟨6, 96, [.sl, .int .i64, .int .i64, .sl, .int .i64, .sl], .st [(0, 84), (1, 3), (2, 57)], false⟩
  | 215 => ⟨6, 96, [.sl, .int .i64, .int .i64, .sl, .int .i64, .sl], .st [(0, 84), (1, 3), (2, 57)], false⟩
  | 216 => ⟨1, 24, [.sl], .sl 222, false⟩
  | 217 => ⟨1, 24, [.sl], .sl 241, false⟩
  | 218 => ⟨6, 128, [.int .i64, .sl, .sl, .sl, .sl, .sl], .st [(0, 3), (1, 216), (2, 45), (3, 53), (4, 53), (5, 217)], false⟩
  | 219 => ⟨6, 128, [.int .i64, .sl, .sl, .sl, .sl, .sl], .st [(0, 3), (1, 216), (2, 45), (3, 53), (4, 53), (5, 217)], false⟩
  | 221 => ⟨5, 88, [.int .i64, .sl, .int .i64, .sl, .sl], .st [(0, 57), (4, 45)], false⟩
  | 222 => ⟨5, 88, [.int .i64, .sl, .int .i64, .sl, .sl], .st [(0, 57), (4, 45)], false⟩
  | 238 => ⟨1, 4, [.int .u32], .it .u32, false⟩
  | 240 => ⟨2, 16, [.int .i64, .bool], .st [(0, 3), (1, 4)], false⟩
  | 241 => ⟨2, 16, [.int .i64, .bool], .st [(0, 3), (1, 4)], true⟩
  | 242 => ⟨1, 8, [.no], .no, false⟩
  | 250 => ⟨1, 8, [.no], .no, false⟩
  | 252 => ⟨1, 8, [.no], .no, false⟩
  | 264 => ⟨1, 8, [.no], .no, false⟩
  | 267 => ⟨11, 48, [.int .u64, .int .u64, .int .u32, .int .u8, .int .u8, .int .u8, .int .u8, .no, .no, .int .i32, .int .i32], .st [(0, 12), (1, 12), (2, 238), (3, 261), (4, 5), (5, 5), (6, 262), (7, 263), (8, 264), (9, 265), (10, 266)], false⟩
  | _ => ⟨0, 0, [], .no, false⟩
noncomputable def G : Ctx := { P := Tryz.prog, ti := ti, fns := 208 }
theorem G_P : G.P = Tryz.prog := rfl
theorem G_ti (t : Nat) : G.ti t = ti t := rfl
theorem G_fns : G.fns = 208 := rfl
theorem G_own : G.own = false := rfl
/-- The same, but that what is appended to an empty literal may be written to. -/
noncomputable def GO : Ctx := { G with own := true }
theorem GO_ti (t : Nat) : GO.ti t = ti t := rfl
theorem GO_fns : GO.fns = 208 := rfl
theorem GO_own : GO.own = true := rfl
theorem G_perm : G.perm = [] := rfl
theorem G_frz : G.frz = [] := rfl
theorem G_emp : G.emp = false := rfl
theorem GO_perm : GO.perm = [] := rfl
theorem GO_frz : GO.frz = [] := rfl
theorem GO_emp : GO.emp = false := rfl
/-- The same, but that the variables of some slots lie in blocks of their own, and that the arguments of some calls are not written to any more. -/
noncomputable def GH (p f : List Nat) : Ctx := { G with perm := p, frz := f, emp := true }
theorem GH_ti (p f : List Nat) (t : Nat) : (GH p f).ti t = ti t := rfl
theorem GH_fns (p f : List Nat) : (GH p f).fns = 208 := rfl
theorem GH_own (p f : List Nat) : (GH p f).own = false := rfl
theorem GH_perm (p f : List Nat) : (GH p f).perm = p := rfl
theorem GH_frz (p f : List Nat) : (GH p f).frz = f := rfl
theorem GH_emp (p f : List Nat) : (GH p f).emp = true := rfl
attribute [go_sem] G_ti G_fns G_own GO_ti GO_fns GO_own ti G_perm G_frz G_emp GO_perm GO_frz GO_emp GH_ti GH_fns GH_own GH_perm GH_frz GH_emp
theorem ti_big (t : Nat) (h : 270 ≤ t) : ti t = ⟨0, 0, [], .no, false⟩ := by
  unfold ti
  split <;> first | omega | rfl
theorem ti_ok : ((List.range 270).all fun t => (ti t).size == 0 || (ti t).okB Tryz.prog t) = true := by kernel_rfl
theorem fn_ok : ((List.range 208).all fun f => decide (f < 3) || callable Tryz.prog f) = true := by kernel_rfl
theorem mixed_ok : Tryz.prog.follows .mixedOrders = true := by kernel_rfl
theorem good : G.Good where
  ok t ht := by
    rcases Nat.lt_or_ge t 270 with h | h
    · have := List.all_eq_true.1 ti_ok t (List.mem_range.2 h)
      simp only [Bool.or_eq_true, beq_iff_eq] at this
      exact this.resolve_left ht
    · exact absurd (by rw [G_ti, ti_big t h]) ht
  fn f hf := by
    have := List.all_eq_true.1 fn_ok f (List.mem_range.2 hf.2)
    simp only [Bool.or_eq_true, decide_eq_true_eq] at this
    exact this.resolve_left (by omega)
  mixed := mixed_ok
theorem goodO : GO.Good where
  ok := good.ok
  fn := good.fn
  mixed := mixed_ok
theorem goodH (p f : List Nat) : (GH p f).Good where
  ok := good.ok
  fn := good.fn
  mixed := mixed_ok
end Go.Proofs.YtnjkhiafjcajaaaGreat
