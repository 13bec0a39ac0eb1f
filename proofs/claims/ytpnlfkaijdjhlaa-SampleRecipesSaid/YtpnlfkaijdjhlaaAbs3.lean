/-
  Operations that compute a value: arithmetic, loads, fields, indexes. Program-independent. The generic layer under all claims of this repo: 3 of several.
-/
import Derived.Test.YtpnlfkaijdjhlaaAbs2
namespace Go.Abs
set_option linter.all false
open Go.RowKit (Below)

/-! ### Types out of the table -/
section
variable {G : Ctx} {t : TypeId}
theorem Ctx.Ok.info (hG : G.Ok) (h : (G.ti t).size ≠ 0) : ∃ i z, G.P.info? t = some i ∧ i.size = (G.ti t).size ∧ i.bytes = (G.ti t).bytes ∧ i.zero = some z ∧ z.cells.toList.map ofZV = (G.ti t).zero ∧ z.cells.size = (G.ti t).size := by
  have := hG t h
  unfold TI.okB at this
  split at this
  · rename_i i hi
    simp only [Bool.and_eq_true, beq_iff_eq] at this
    obtain ⟨⟨⟨⟨h1, h2⟩, _⟩, h4⟩, _⟩ := this
    split at h4
    · rename_i z hz
      simp only [Bool.and_eq_true, beq_iff_eq] at h4
      exact ⟨i, z, hi, h1, h2, hz, h4.1, h4.2⟩
    · cases h4
  · cases this
theorem Ctx.Ok.kind (hG : G.Ok) (h : (G.ti t).size ≠ 0) : (G.ti t).kind.okB (G.P.underlying t) = true := by
  have := hG t h
  unfold TI.okB at this
  split at this
  · simp only [Bool.and_eq_true] at this
    exact this.1.1.2
  · cases this
theorem Ctx.Ok.size (hG : G.Ok) (h : (G.ti t).size ≠ 0) (w : World) : (sizeOf t).run G.P w = .ok (G.ti t).size w := by
  obtain ⟨i, z, hi, hs, _⟩ := hG.info h
  simp [sizeOf, typeInfo, hi, hs]
theorem Ctx.Ok.sl (hG : G.Ok) (h : (G.ti t).size ≠ 0) {e} (hk : (G.ti t).kind = .sl e) : G.P.underlying t = some (.slice e) := by
  have := hG.kind h
  rw [hk] at this
  unfold TK.okB at this
  split at this <;> simp_all
theorem Ctx.Ok.arr (hG : G.Ok) (h : (G.ti t).size ≠ 0) {n e} (hk : (G.ti t).kind = .arr n e) : G.P.underlying t = some (.array n e) := by
  have := hG.kind h
  rw [hk] at this
  unfold TK.okB at this
  split at this <;> simp_all
theorem Ctx.Ok.st (hG : G.Ok) (h : (G.ti t).size ≠ 0) {fs} (hk : (G.ti t).kind = .st fs) : ∃ gs, G.P.underlying t = some (.struct gs) ∧ gs.toList.map (fun f => (f.offset, f.type)) = fs := by
  have := hG.kind h
  rw [hk] at this
  unfold TK.okB at this
  split at this <;> simp_all
theorem Ctx.Ok.bl (hG : G.Ok) (h : (G.ti t).size ≠ 0) (hk : (G.ti t).kind = .bl) : G.P.underlying t = some .bool := by
  have := hG.kind h
  rw [hk] at this
  unfold TK.okB at this
  split at this <;> simp_all
theorem Ctx.Ok.it (hG : G.Ok) (h : (G.ti t).size ≠ 0) {k} (hk : (G.ti t).kind = .it k) : G.P.underlying t = some (.int k) := by
  have := hG.kind h
  rw [hk] at this
  unfold TK.okB at this
  split at this <;> simp_all
theorem Ctx.Ok.str (hG : G.Ok) (h : (G.ti t).size ≠ 0) (hk : (G.ti t).kind = .str) : G.P.underlying t = some .string := by
  have := hG.kind h
  rw [hk] at this
  unfold TK.okB at this
  split at this <;> simp_all

/-- A type whose value is a row of cells, and not one cell. -/
def aggK : TK → Bool
  | .st _ | .arr _ _ => true
  | _ => false
theorem Ctx.Ok.isAgg (hG : G.Ok) (h : (G.ti t).size ≠ 0) (w : World) : (Go.isAgg t).run G.P w = .ok (aggK (G.ti t).kind) w := by
  have := hG.kind h
  unfold TK.okB at this
  split at this <;> first | (cases this; done) | skip
  all_goals
    rename_i h1 h2
    rw [h1]
    simp only [Go.isAgg, aggK, Sem.run_bind, run_underlying h2, Result.andThen_ok]
  all_goals rfl
end

/-! ### Scalars -/
def scBin (G : Ctx) (op : BinOp) (t : TypeId) (a b : Value) : Option Value :=
  match a, b with
  | .int k x, .int k' y =>
    match op with
    | .shl => if y < 0 then none else some (.int k (k.wrap (x * 2 ^ (min y.toNat k.bits))))
    | .shr => if y < 0 then none else some (.int k (x.fdiv (2 ^ (min y.toNat k.bits))))
    | .add => if k = k' then some (.int k (k.wrap (x + y))) else none
    | .sub => if k = k' then some (.int k (k.wrap (x - y))) else none
    | .mul => if k = k' then some (.int k (k.wrap (x * y))) else none
    | .quo => if k = k' then if y = 0 then none else some (.int k (k.wrap (x.tdiv y))) else none
    | .rem => if k = k' then if y = 0 then none else some (.int k (x.tmod y)) else none
    | .and => if k = k' then some (.int k (bits .and k x y)) else none
    | .or => if k = k' then some (.int k (bits .or k x y)) else none
    | .xor => if k = k' then some (.int k (bits .xor k x y)) else none
    | .andNot => if k = k' then some (.int k (bits .andNot k x y)) else none
    | .eql => if k = k' then some (.bool (decide (x = y))) else none
    | .neq => if k = k' then some (.bool (!decide (x = y))) else none
    | .lss => if k = k' then some (.bool (decide (x < y))) else none
    | .leq => if k = k' then some (.bool (decide (x ≤ y))) else none
    | .gtr => if k = k' then some (.bool (decide (y < x))) else none
    | .geq => if k = k' then some (.bool (decide (y ≤ x))) else none
  | .bool x, .bool y =>
    if (G.ti t).size ≠ 0 ∧ (G.ti t).kind = .bl then
      match op with
      | .eql => some (.bool (x == y))
      | .neq => some (.bool (!(x == y)))
      | _ => none
    else none
  | .string x, .string y =>
    match op with
    | .eql => some (.bool (x == y))
    | .neq => some (.bool (!(x == y)))
    | _ => none
  | _, _ => none

theorem scBin_run {G : Ctx} (hG : G.Ok) {op t a b c} (h : scBin G op t a b = some c) (x y : Operand) (w : World) :
    Sem.run G.P (do eqGuard op t x y a b; binOp op t a b) w = .ok c w ∧ plainV c = true ∧ c.oneCell' = true := by
  unfold scBin at h
  split at h
  · rename_i k x' k' y'
    cases op <;> simp only at h
    all_goals (repeat' (split at h))
    all_goals first | (cases h; done) | skip
    all_goals (rename_i h1 <;> cases h <;> (try subst h1) <;> refine ⟨?_, rfl, rfl⟩)
    all_goals first
      | (simp [go_sem, Op.shift, Op.intDiv, *]; done)
      | (simp [go_sem, Op.intArith, Op.intCmp, bits, *]; done)
      | skip
    all_goals (simp only [eqGuard_at_int, Sem.run_bind, Sem.run_pure, Result.andThen_ok, binOp_eql, binOp_neq]; rfl)
  · split at h
    · rename_i x' y' hk
      have hu := hG.bl hk.1 hk.2
      cases op <;> simp only at h <;> first | (cases h; done) | skip
      all_goals (cases h; refine ⟨?_, rfl, rfl⟩; simp [go_sem, binOp, Op.equal, Op.maxDepth, run_equalIn_bool _ _ _ _ _ hu])
    · cases h
  · cases op <;> simp only at h <;> first | (cases h; done) | skip
    all_goals (cases h; refine ⟨?_, rfl, rfl⟩; simp [go_sem, binOp, Op.stringOp, beq_toListBytes])
  · cases h

def scUn (op : UnOp) (a : Value) : Option Value :=
  match op, a with
  | .not, .bool b => some (.bool !b)
  | .neg, .int k n => some (.int k (k.wrap (0 - n)))
  | _, _ => none
theorem scUn_run {P : Program} {op a c} (h : scUn op a = some c) (w : World) : (Op.unary op a).run P w = .ok c w ∧ plainV c = true ∧ c.oneCell' = true := by
  unfold scUn at h
  split at h <;> first | (cases h; done) | skip
  all_goals (cases h; refine ⟨?_, rfl, rfl⟩; simp [Op.unary, Op.intArith])

def scMin2 : Value → Value → Option Value
  | .int k x, .int k' y => if k = k' then some (.int k (min x y)) else none
  | _, _ => none
def scMax2 : Value → Value → Option Value
  | .int k x, .int k' y => if k = k' then some (.int k (max x y)) else none
  | _, _ => none
def scFold (f : Value → Value → Option Value) (x : Value) : List Value → Option Value
  | [] => some x
  | y :: r => match f x y with
    | some z => scFold f z r
    | none => none
def scs : List AV → Option (List Value)
  | [] => some []
  | .im (.sc v) :: r => match scs r with
    | some vs => some (v :: vs)
    | none => none
  | _ :: _ => none
theorem scMin2_run {P : Program} {x y z} (h : scMin2 x y = some z) (w : World) : (Builtin.min2 x y).run P w = .ok z w ∧ plainV z = true := by
  unfold scMin2 at h
  split at h
  · split at h
    · rename_i k x k' y hk
      cases h
      refine ⟨?_, rfl⟩
      subst hk
      simp only [Builtin.min2, Sem.run_pure]
      congr 2
      show (if y < x then y else x) = if x ≤ y then x else y
      split <;> split <;> omega
    · cases h
  · cases h
theorem scMax2_run {P : Program} {x y z} (h : scMax2 x y = some z) (w : World) : (Builtin.max2 x y).run P w = .ok z w ∧ plainV z = true := by
  unfold scMax2 at h
  split at h
  · split at h
    · rename_i k x k' y hk
      cases h
      refine ⟨?_, rfl⟩
      subst hk
      simp only [Builtin.max2, Sem.run_pure]
      congr 2
      show (if y > x then y else x) = if x ≤ y then y else x
      split <;> split <;> omega
    · cases h
  · cases h
theorem scFold_run {P : Program} {f : Value → Value → Option Value} {g : Value → Value → Sem Value} (hfg : ∀ x y z w, f x y = some z → (g x y).run P w = .ok z w ∧ plainV z = true) :
    ∀ (r : List Value) (x z : Value) (w : World), plainV x = true → scFold f x r = some z → (r.foldlM g x).run P w = .ok z w ∧ plainV z = true
  | [], x, z, w, hp, h => by simp only [scFold, Option.some.injEq] at h; subst h; exact ⟨rfl, hp⟩
  | y :: r, x, z, w, hp, h => by
    simp only [scFold] at h
    split at h
    · rename_i u hu
      obtain ⟨h1, h2⟩ := hfg x y u w hu
      obtain ⟨h3, h4⟩ := scFold_run hfg r u z w h2 h
      exact ⟨by simp [List.foldlM_cons, h1, h3], h4⟩
    · cases h
end Go.Abs
