/-
  The operations that compute a value, all of them in one function, and that the machine does what it says. Program-independent. The generic layer under all claims of this repo: 5 of several.
-/
import Derived.Test.YtpnlfkaijdjhlaaAbs4
namespace Go.Abs
set_option linter.all false
open Go.RowKit (Below)

/-! ### Structs held against each other -/
def eqCells (G : Ctx) : List (Nat × TypeId) → List IV → List IV → Option Bool
  | [], [], [] => some true
  | (_, t) :: ks, x :: xs, y :: ys =>
    match eqCells G ks xs ys with
    | none => none
    | some r =>
      if (G.ti t).size = 0 then none else
      match (G.ti t).kind, x, y with
      | .it _, .sc (.int k a), .sc (.int k' b) => if k = k' then some (decide (a = b) && r) else none
      | .bl, .sc (.bool a), .sc (.bool b) => some ((a == b) && r)
      | .str, .sc (.string a), .sc (.string b) => some ((a == b) && r)
      | _, _, _ => none
  | _, _, _ => none

theorem RepL.at_sc {w M xs vs} (h : RepL w M xs vs) {k : Nat} {u : Value} (hx : xs[k]? = some (.sc u)) : vs[k]? = some u := by
  have hl : k < vs.length := by rw [← h.1]; exact (List.getElem?_eq_some_iff.1 hx).1
  have := h.2 k _ _ hx (List.getElem?_eq_getElem hl)
  rw [List.getElem?_eq_getElem hl, this.sc_inv]

theorem part_one {P : Program} {t : TypeId} {d : TypeDesc} (hu : P.underlying t = some d) (hd : (d matches .struct _ | .array _ _) = false) {us : Array Value} {k : Nat} {u : Value} (hk : us.toList[k]? = some u) (w : World) :
    (part t us k).run P w = .ok u w := by
  have hk' : us[k]? = some u := by simpa using hk
  have ha : (Go.isAgg t).run P w = .ok false w := by
    unfold Go.isAgg
    simp only [Sem.run_bind, run_underlying hu, Result.andThen_ok]
    cases d <;> first | (simp at hd; done) | rfl
  simp [part, ha, hk']

theorem eqFields_run {G : Ctx} (hG : G.Ok) {w : World} {M M' : Nat → Nat → Prop} {xs ys : List IV} {us vs : Array Value} (hx : RepL w M xs us.toList) (hy : RepL w M' ys vs.toList) (d : Nat) :
    ∀ (fs : List Field) (k : Nat) (r : Bool), fs.map (·.offset) = List.range' k fs.length → (∀ f ∈ fs, f.name ≠ "_") → eqCells G (fs.map fun f => (f.offset, f.type)) (xs.drop k) (ys.drop k) = some r →
      (Op.eqFields (d + 1) us vs fs).run G.P w = .ok r w
  | [], k, r, _, _, h => by
    have : r = true := by
      unfold eqCells at h
      split at h <;> simp_all
    subst this; rfl
  | f :: fs, k, r, ho, hn, h => by
    simp only [List.map_cons, List.length_cons, List.range'_succ, List.cons.injEq] at ho
    obtain ⟨hk, ho⟩ := ho
    have hnm : f.name ≠ "_" := hn f (by simp)
    simp only [List.map_cons] at h
    unfold eqCells at h
    split at h
    · rename_i h1 _ _; simp at h1
    · rename_i t ks x xs' y ys' e1 e2 e3
      simp only [List.cons.injEq, Prod.mk.injEq] at e1
      obtain ⟨⟨_, rfl⟩, rfl⟩ := e1
      have hxk : xs[k]? = some x := by have := congrArg (fun l => l[0]?) e2; simpa using this
      have hyk : ys[k]? = some y := by have := congrArg (fun l => l[0]?) e3; simpa using this
      have hxd : xs' = xs.drop (k + 1) := by have := congrArg List.tail e2; simpa using this.symm
      have hyd : ys' = ys.drop (k + 1) := by have := congrArg List.tail e3; simpa using this.symm
      subst hxd; subst hyd
      split at h
      · cases h
      · rename_i r' hr
        split at h
        · cases h
        · rename_i hs
          have ih := eqFields_run hG hx hy d fs (k + 1) r' ho (fun f hf => hn f (by simp [hf])) hr
          simp only [Op.eqFields, ne_eq, hnm, not_false_eq_true, if_true, Sem.run_bind, hk]
          split at h
          · rename_i kk k1 a k2 b hkd
            split at h
            · rename_i hkk
              cases h
              subst hkk
              have hu := hG.it hs hkd
              rw [part_one hu rfl (hx.at_sc hxk), Result.andThen_ok, part_one hu rfl (hy.at_sc hyk), Result.andThen_ok, run_equalIn_int w d _ _ _ a b hu, Result.andThen_ok]
              by_cases hab : a = b
              · simp [hab, ih]
              · simp [hab]
            · cases h
          · rename_i a b hkd
            cases h
            have hu := hG.bl hs hkd
            rw [part_one hu rfl (hx.at_sc hxk), Result.andThen_ok, part_one hu rfl (hy.at_sc hyk), Result.andThen_ok, run_equalIn_bool' w d _ a b hu, Result.andThen_ok]
            by_cases hab : a = b
            · simp [hab, ih]
            · simp [hab]
          · rename_i a b hkd
            cases h
            have hu := hG.str hs hkd
            rw [part_one hu rfl (hx.at_sc hxk), Result.andThen_ok, part_one hu rfl (hy.at_sc hyk), Result.andThen_ok, run_equalIn_string w d _ a b hu, Result.andThen_ok, ← beq_toListBytes]
            cases hab : a == b
            · simp
            · simp [ih]
          · cases h
    · cases h

def aggBin (G : Ctx) (op : BinOp) (t : TypeId) (xs ys : List IV) : Option Value :=
  if (G.ti t).size ≠ 0 ∧ (G.ti t).eq = true then
    match (G.ti t).kind with
    | .st fs => match eqCells G fs xs ys with
      | some r => match op with
        | .eql => some (.bool r)
        | .neq => some (.bool !r)
        | _ => none
      | none => none
    | _ => none
  else none

theorem aggBin_run {G : Ctx} (hG : G.Ok) {op t xs ys c} (h : aggBin G op t xs ys = some c) {w : World} {M M' : Nat → Nat → Prop} {us vs : Array Value} (hx : RepL w M xs us.toList) (hy : RepL w M' ys vs.toList) (x y : Operand) :
    Sem.run G.P (do eqGuard op t x y (.agg us) (.agg vs); binOp op t (.agg us) (.agg vs)) w = .ok c w ∧ plainV c = true ∧ c.oneCell' = true := by
  unfold aggBin at h
  split at h
  · rename_i hc
    split at h
    · rename_i fs hk
      split at h
      · rename_i r hr
        obtain ⟨gs, hu, hgs⟩ := hG.st hc.1 hk
        have hok := hG t hc.1
        unfold TI.okB at hok
        split at hok
        · simp only [hc.2, Bool.not_true, Bool.false_or, Bool.and_eq_true, hu] at hok
          obtain ⟨_, ⟨⟨⟨hb, ho⟩, hsz⟩, hst⟩, hg⟩ := hok
          have hfo : G.P.fieldsOf t = gs := by simp [Program.fieldsOf, hu]
          have hst' : G.P.stoodInHeld t = false := by simpa using hst
          have hg' : G.P.eqGuardType G.P.depth t = false := by simpa using hg
          have hnm : ∀ f ∈ gs.toList, f.name ≠ "_" := fun f hf => by
            have := List.all_eq_true.1 hb f hf
            simp only [basicB, Bool.and_eq_true, bne_iff_ne, ne_eq] at this
            exact this.1
          have ho' : gs.toList.map (·.offset) = List.range' 0 gs.toList.length := by
            have := (beq_iff_eq.1 ho)
            rw [this, List.range_eq_range']; simp
          have hrun := eqFields_run (G := G) hG hx hy 9998 gs.toList 0 r ho' hnm (by rw [hgs]; simpa using hr)
          have heq : (Op.equalIn 10000 t (.agg us) (.agg vs)).run G.P w = .ok r w := by
            rw [show (10000 : Nat) = 9999 + 1 from rfl, run_equalIn_struct w 9999 t us vs (by rw [hfo]; exact hu) hst', hfo]; exact hrun
          cases op <;> simp only at h <;> first | (cases h; done) | skip
          · cases h
            refine ⟨?_, rfl, rfl⟩
            rw [Sem.run_bind, run_eqGuard_agg w _ t x y us vs hg', Result.andThen_ok, run_eql_struct, heq]; rfl
          · cases h
            refine ⟨?_, rfl, rfl⟩
            rw [Sem.run_bind, run_eqGuard_agg w _ t x y us vs hg', Result.andThen_ok, run_neq_struct, heq]; rfl
        · cases hok
      · cases h
    · cases h
  · cases h
end Go.Abs
