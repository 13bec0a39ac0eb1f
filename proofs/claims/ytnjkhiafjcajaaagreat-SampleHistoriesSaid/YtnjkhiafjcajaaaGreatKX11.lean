/-
  The operations one by one: what a rewriting takes of each. Program-independent. The generic layer under all claims of this repo: behind 17.
-/
import Derived.Test.YtnjkhiafjcajaaaGreatKX10
import Derived.Attr
namespace Go.Abs
set_option linter.all false

section
variable {G : Ctx}
theorem Opt_yv (o : Oper) (K : St → Prop) (st : St) : aVal G K st o = Opt (yv G st o) (K := ⟨fun av => K (st.put o.dst av)⟩) := aVal_eq K st o
theorem aop_move (dst : Option Tmp) (ty : TypeId) (pos : String) (af : Array Edge) (gd : Option (Nat × Bool)) (x : Operand) (K : St → Prop) (st : St) : aop G ⟨dst, .move x, ty, pos, af, gd⟩ K st = Opt (yv G st ⟨dst, .move x, ty, pos, af, gd⟩) (K := ⟨fun av => K (st.put dst av)⟩) := aVal_eq K st ⟨dst, .move x, ty, pos, af, gd⟩
theorem aq_move (dst : Option Tmp) (ty : TypeId) (pos : String) (af : Array Edge) (gd : Option (Nat × Bool)) (x : Operand) (K : AV → Prop) (st : St) : aq G st ⟨dst, .move x, ty, pos, af, gd⟩ K = Opt (yv G st ⟨dst, .move x, ty, pos, af, gd⟩) (K := ⟨K⟩) := by rw [aq_eq]
theorem aop_assign (dst : Option Tmp) (ty : TypeId) (pos : String) (af : Array Edge) (gd : Option (Nat × Bool)) (x : Operand) (K : St → Prop) (st : St) : aop G ⟨dst, .assign x, ty, pos, af, gd⟩ K st = Opt (yv G st ⟨dst, .assign x, ty, pos, af, gd⟩) (K := ⟨fun av => K (st.put dst av)⟩) := aVal_eq K st ⟨dst, .assign x, ty, pos, af, gd⟩
theorem aq_assign (dst : Option Tmp) (ty : TypeId) (pos : String) (af : Array Edge) (gd : Option (Nat × Bool)) (x : Operand) (K : AV → Prop) (st : St) : aq G st ⟨dst, .assign x, ty, pos, af, gd⟩ K = Opt (yv G st ⟨dst, .assign x, ty, pos, af, gd⟩) (K := ⟨K⟩) := by rw [aq_eq]
theorem aop_pick (dst : Option Tmp) (ty : TypeId) (pos : String) (af : Array Edge) (gd : Option (Nat × Bool)) (c a b : Operand) (K : St → Prop) (st : St) : aop G ⟨dst, .pick c a b, ty, pos, af, gd⟩ K st = Opt (yv G st ⟨dst, .pick c a b, ty, pos, af, gd⟩) (K := ⟨fun av => K (st.put dst av)⟩) := aVal_eq K st ⟨dst, .pick c a b, ty, pos, af, gd⟩
theorem aq_pick (dst : Option Tmp) (ty : TypeId) (pos : String) (af : Array Edge) (gd : Option (Nat × Bool)) (c a b : Operand) (K : AV → Prop) (st : St) : aq G st ⟨dst, .pick c a b, ty, pos, af, gd⟩ K = Opt (yv G st ⟨dst, .pick c a b, ty, pos, af, gd⟩) (K := ⟨K⟩) := by rw [aq_eq]
theorem aop_unOp (dst : Option Tmp) (ty : TypeId) (pos : String) (af : Array Edge) (gd : Option (Nat × Bool)) (u : UnOp) (t : TypeId) (x : Operand) (K : St → Prop) (st : St) : aop G ⟨dst, .unOp u t x, ty, pos, af, gd⟩ K st = Opt (yv G st ⟨dst, .unOp u t x, ty, pos, af, gd⟩) (K := ⟨fun av => K (st.put dst av)⟩) := aVal_eq K st ⟨dst, .unOp u t x, ty, pos, af, gd⟩
theorem aq_unOp (dst : Option Tmp) (ty : TypeId) (pos : String) (af : Array Edge) (gd : Option (Nat × Bool)) (u : UnOp) (t : TypeId) (x : Operand) (K : AV → Prop) (st : St) : aq G st ⟨dst, .unOp u t x, ty, pos, af, gd⟩ K = Opt (yv G st ⟨dst, .unOp u t x, ty, pos, af, gd⟩) (K := ⟨K⟩) := by rw [aq_eq]
theorem aop_nilCheck (dst : Option Tmp) (ty : TypeId) (pos : String) (af : Array Edge) (gd : Option (Nat × Bool)) (x : Operand) (K : St → Prop) (st : St) : aop G ⟨dst, .nilCheck x, ty, pos, af, gd⟩ K st = Opt (yv G st ⟨dst, .nilCheck x, ty, pos, af, gd⟩) (K := ⟨fun av => K (st.put dst av)⟩) := aVal_eq K st ⟨dst, .nilCheck x, ty, pos, af, gd⟩
theorem aq_nilCheck (dst : Option Tmp) (ty : TypeId) (pos : String) (af : Array Edge) (gd : Option (Nat × Bool)) (x : Operand) (K : AV → Prop) (st : St) : aq G st ⟨dst, .nilCheck x, ty, pos, af, gd⟩ K = Opt (yv G st ⟨dst, .nilCheck x, ty, pos, af, gd⟩) (K := ⟨K⟩) := by rw [aq_eq]
theorem aop_load (dst : Option Tmp) (ty : TypeId) (pos : String) (af : Array Edge) (gd : Option (Nat × Bool)) (t : TypeId) (p : Operand) (K : St → Prop) (st : St) : aop G ⟨dst, .load t p, ty, pos, af, gd⟩ K st = Opt (yv G st ⟨dst, .load t p, ty, pos, af, gd⟩) (K := ⟨fun av => K (st.put dst av)⟩) := aVal_eq K st ⟨dst, .load t p, ty, pos, af, gd⟩
theorem aq_load (dst : Option Tmp) (ty : TypeId) (pos : String) (af : Array Edge) (gd : Option (Nat × Bool)) (t : TypeId) (p : Operand) (K : AV → Prop) (st : St) : aq G st ⟨dst, .load t p, ty, pos, af, gd⟩ K = Opt (yv G st ⟨dst, .load t p, ty, pos, af, gd⟩) (K := ⟨K⟩) := by rw [aq_eq]
theorem aop_fieldAddr (dst : Option Tmp) (ty : TypeId) (pos : String) (af : Array Edge) (gd : Option (Nat × Bool)) (t : TypeId) (x : Operand) (f : Nat) (K : St → Prop) (st : St) : aop G ⟨dst, .fieldAddr t x f, ty, pos, af, gd⟩ K st = Opt (yv G st ⟨dst, .fieldAddr t x f, ty, pos, af, gd⟩) (K := ⟨fun av => K (st.put dst av)⟩) := aVal_eq K st ⟨dst, .fieldAddr t x f, ty, pos, af, gd⟩
theorem aq_fieldAddr (dst : Option Tmp) (ty : TypeId) (pos : String) (af : Array Edge) (gd : Option (Nat × Bool)) (t : TypeId) (x : Operand) (f : Nat) (K : AV → Prop) (st : St) : aq G st ⟨dst, .fieldAddr t x f, ty, pos, af, gd⟩ K = Opt (yv G st ⟨dst, .fieldAddr t x f, ty, pos, af, gd⟩) (K := ⟨K⟩) := by rw [aq_eq]
theorem aop_field (dst : Option Tmp) (ty : TypeId) (pos : String) (af : Array Edge) (gd : Option (Nat × Bool)) (t : TypeId) (x : Operand) (f : Nat) (K : St → Prop) (st : St) : aop G ⟨dst, .field t x f, ty, pos, af, gd⟩ K st = Opt (yv G st ⟨dst, .field t x f, ty, pos, af, gd⟩) (K := ⟨fun av => K (st.put dst av)⟩) := aVal_eq K st ⟨dst, .field t x f, ty, pos, af, gd⟩
theorem aq_field (dst : Option Tmp) (ty : TypeId) (pos : String) (af : Array Edge) (gd : Option (Nat × Bool)) (t : TypeId) (x : Operand) (f : Nat) (K : AV → Prop) (st : St) : aq G st ⟨dst, .field t x f, ty, pos, af, gd⟩ K = Opt (yv G st ⟨dst, .field t x f, ty, pos, af, gd⟩) (K := ⟨K⟩) := by rw [aq_eq]
theorem aop_indexAddr (dst : Option Tmp) (ty : TypeId) (pos : String) (af : Array Edge) (gd : Option (Nat × Bool)) (t : TypeId) (x i : Operand) (K : St → Prop) (st : St) : aop G ⟨dst, .indexAddr t x i, ty, pos, af, gd⟩ K st = Opt (yv G st ⟨dst, .indexAddr t x i, ty, pos, af, gd⟩) (K := ⟨fun av => K (st.put dst av)⟩) := aVal_eq K st ⟨dst, .indexAddr t x i, ty, pos, af, gd⟩
theorem aq_indexAddr (dst : Option Tmp) (ty : TypeId) (pos : String) (af : Array Edge) (gd : Option (Nat × Bool)) (t : TypeId) (x i : Operand) (K : AV → Prop) (st : St) : aq G st ⟨dst, .indexAddr t x i, ty, pos, af, gd⟩ K = Opt (yv G st ⟨dst, .indexAddr t x i, ty, pos, af, gd⟩) (K := ⟨K⟩) := by rw [aq_eq]
theorem aop_index (dst : Option Tmp) (ty : TypeId) (pos : String) (af : Array Edge) (gd : Option (Nat × Bool)) (t : TypeId) (x i : Operand) (K : St → Prop) (st : St) : aop G ⟨dst, .index t x i, ty, pos, af, gd⟩ K st = Opt (yv G st ⟨dst, .index t x i, ty, pos, af, gd⟩) (K := ⟨fun av => K (st.put dst av)⟩) := aVal_eq K st ⟨dst, .index t x i, ty, pos, af, gd⟩
theorem aq_index (dst : Option Tmp) (ty : TypeId) (pos : String) (af : Array Edge) (gd : Option (Nat × Bool)) (t : TypeId) (x i : Operand) (K : AV → Prop) (st : St) : aq G st ⟨dst, .index t x i, ty, pos, af, gd⟩ K = Opt (yv G st ⟨dst, .index t x i, ty, pos, af, gd⟩) (K := ⟨K⟩) := by rw [aq_eq]
theorem aop_extract (dst : Option Tmp) (ty : TypeId) (pos : String) (af : Array Edge) (gd : Option (Nat × Bool)) (x : Operand) (k : Nat) (K : St → Prop) (st : St) : aop G ⟨dst, .extract x k, ty, pos, af, gd⟩ K st = Opt (yv G st ⟨dst, .extract x k, ty, pos, af, gd⟩) (K := ⟨fun av => K (st.put dst av)⟩) := aVal_eq K st ⟨dst, .extract x k, ty, pos, af, gd⟩
theorem aq_extract (dst : Option Tmp) (ty : TypeId) (pos : String) (af : Array Edge) (gd : Option (Nat × Bool)) (x : Operand) (k : Nat) (K : AV → Prop) (st : St) : aq G st ⟨dst, .extract x k, ty, pos, af, gd⟩ K = Opt (yv G st ⟨dst, .extract x k, ty, pos, af, gd⟩) (K := ⟨K⟩) := by rw [aq_eq]
theorem aop_build (dst : Option Tmp) (ty : TypeId) (pos : String) (af : Array Edge) (gd : Option (Nat × Bool)) (t : TypeId) (ps : Array (Nat × Operand)) (K : St → Prop) (st : St) : aop G ⟨dst, .build t ps, ty, pos, af, gd⟩ K st = Opt (yv G st ⟨dst, .build t ps, ty, pos, af, gd⟩) (K := ⟨fun av => K (st.put dst av)⟩) := aVal_eq K st ⟨dst, .build t ps, ty, pos, af, gd⟩
theorem aq_build (dst : Option Tmp) (ty : TypeId) (pos : String) (af : Array Edge) (gd : Option (Nat × Bool)) (t : TypeId) (ps : Array (Nat × Operand)) (K : AV → Prop) (st : St) : aq G st ⟨dst, .build t ps, ty, pos, af, gd⟩ K = Opt (yv G st ⟨dst, .build t ps, ty, pos, af, gd⟩) (K := ⟨K⟩) := by rw [aq_eq]
theorem aop_buildSlice (dst : Option Tmp) (ty : TypeId) (pos : String) (af : Array Edge) (gd : Option (Nat × Bool)) (t : TypeId) (n : Nat) (ps : Array (Nat × Operand)) (K : St → Prop) (st : St) : aop G ⟨dst, .buildSlice t n ps, ty, pos, af, gd⟩ K st = Opt (yv G st ⟨dst, .buildSlice t n ps, ty, pos, af, gd⟩) (K := ⟨fun av => K (st.put dst av)⟩) := aVal_eq K st ⟨dst, .buildSlice t n ps, ty, pos, af, gd⟩
theorem aq_buildSlice (dst : Option Tmp) (ty : TypeId) (pos : String) (af : Array Edge) (gd : Option (Nat × Bool)) (t : TypeId) (n : Nat) (ps : Array (Nat × Operand)) (K : AV → Prop) (st : St) : aq G st ⟨dst, .buildSlice t n ps, ty, pos, af, gd⟩ K = Opt (yv G st ⟨dst, .buildSlice t n ps, ty, pos, af, gd⟩) (K := ⟨K⟩) := by rw [aq_eq]
theorem aop_convert (dst : Option Tmp) (ty : TypeId) (pos : String) (af : Array Edge) (gd : Option (Nat × Bool)) (s d : TypeId) (x : Operand) (K : St → Prop) (st : St) : aop G ⟨dst, .convert s d x, ty, pos, af, gd⟩ K st = Opt (yv G st ⟨dst, .convert s d x, ty, pos, af, gd⟩) (K := ⟨fun av => K (st.put dst av)⟩) := aVal_eq K st ⟨dst, .convert s d x, ty, pos, af, gd⟩
theorem aq_convert (dst : Option Tmp) (ty : TypeId) (pos : String) (af : Array Edge) (gd : Option (Nat × Bool)) (s d : TypeId) (x : Operand) (K : AV → Prop) (st : St) : aq G st ⟨dst, .convert s d x, ty, pos, af, gd⟩ K = Opt (yv G st ⟨dst, .convert s d x, ty, pos, af, gd⟩) (K := ⟨K⟩) := by rw [aq_eq]
theorem aop_slice (dst : Option Tmp) (ty : TypeId) (pos : String) (af : Array Edge) (gd : Option (Nat × Bool)) (t : TypeId) (x : Operand) (lo hi mx : Option Operand) (K : St → Prop) (st : St) : aop G ⟨dst, .slice t x lo hi mx, ty, pos, af, gd⟩ K st = Opt (yv G st ⟨dst, .slice t x lo hi mx, ty, pos, af, gd⟩) (K := ⟨fun av => K (st.put dst av)⟩) := aVal_eq K st ⟨dst, .slice t x lo hi mx, ty, pos, af, gd⟩
theorem aq_slice (dst : Option Tmp) (ty : TypeId) (pos : String) (af : Array Edge) (gd : Option (Nat × Bool)) (t : TypeId) (x : Operand) (lo hi mx : Option Operand) (K : AV → Prop) (st : St) : aq G st ⟨dst, .slice t x lo hi mx, ty, pos, af, gd⟩ K = Opt (yv G st ⟨dst, .slice t x lo hi mx, ty, pos, af, gd⟩) (K := ⟨K⟩) := by rw [aq_eq]
theorem aop_binOp (dst : Option Tmp) (ty : TypeId) (pos : String) (af : Array Edge) (gd : Option (Nat × Bool)) (b : BinOp) (t : TypeId) (x y : Operand) (u : TypeId) (K : St → Prop) (st : St) : aop G ⟨dst, .binOp b t x y u, ty, pos, af, gd⟩ K st = aBin G K st ⟨dst, .binOp b t x y u, ty, pos, af, gd⟩ b t x y := propext ⟨fun h => h, fun h => h⟩
theorem aq_binOp (dst : Option Tmp) (ty : TypeId) (pos : String) (af : Array Edge) (gd : Option (Nat × Bool)) (b : BinOp) (t : TypeId) (x y : Operand) (u : TypeId) (K : AV → Prop) (st : St) : aq G st ⟨dst, .binOp b t x y u, ty, pos, af, gd⟩ K = Opt (yv G st ⟨dst, .binOp b t x y u, ty, pos, af, gd⟩) (K := ⟨K⟩) := by rw [aq_eq]
theorem aBin_tmp (o : Oper) (b : BinOp) (t : TypeId) (x : Operand) (d : Tmp) (K : St → Prop) (st : St) : aBin G K st o b t x (.tmp d) = Opt (yv G st o) (K := ⟨fun av => K (st.put o.dst av)⟩) := aVal_eq K st o
theorem aBin_int (o : Oper) (b : BinOp) (t : TypeId) (x : Operand) (k : IntKind) (n : Int) (K : St → Prop) (st : St) : aBin G K st o b t x (.const (.int k n)) = Opt (yv G st o) (K := ⟨fun av => K (st.put o.dst av)⟩) := aVal_eq K st o
theorem aBin_bool (o : Oper) (b : BinOp) (t : TypeId) (x : Operand) (n : Bool) (K : St → Prop) (st : St) : aBin G K st o b t x (.const (.bool n)) = Opt (yv G st o) (K := ⟨fun av => K (st.put o.dst av)⟩) := aVal_eq K st o
theorem aBin_str (o : Oper) (b : BinOp) (t : TypeId) (x : Operand) (n : ByteArray) (K : St → Prop) (st : St) : aBin G K st o b t x (.const (.string n)) = Opt (yv G st o) (K := ⟨fun av => K (st.put o.dst av)⟩) := aVal_eq K st o
theorem aBin_nil (o : Oper) (b : BinOp) (t : TypeId) (x : Operand) (K : St → Prop) (st : St) : aBin G K st o b t x (.const (.slice none 0 0)) = aNil G K st o.dst b t x := propext ⟨fun h => h, fun h => h⟩
theorem alist_app (ops : List Oper) (K : St → Prop) (x : Oper) (a b : List Oper) (st : St) : alist G ops K (List.append (x :: a) b) st = alist G ops K (x :: List.append a b) st := propext ⟨fun h => h, fun h => h⟩
theorem alist_app_nil (ops : List Oper) (K : St → Prop) (b : List Oper) (st : St) : alist G ops K (List.append [] b) st = alist G ops K b st := propext ⟨fun h => h, fun h => h⟩
theorem app_get_succ (x : Oper) (a b : List Oper) (n : Nat) : (List.append (x :: a) b)[n + 1]? = (List.append a b)[n]? := List.getElem?_cons_succ
theorem app_get_zero (x : Oper) (a b : List Oper) : (List.append (x :: a) b)[0]? = some x := List.getElem?_cons_zero
theorem app_get_nil (b : List Oper) (n : Nat) : (List.append [] b)[n]? = b[n]? := congrArg (·[n]?) (List.nil_append b)
theorem aop_box (ty : TypeId) (pos : String) (af : Array Edge) (gd : Option (Nat × Bool)) (t : TypeId) (x : Operand) (d : Tmp) (K : St → Prop) (st : St) : aop G ⟨some d, .box t x, ty, pos, af, gd⟩ K st =
    Opt (ivOf (evO (st.lendO x) x)) (K := ⟨fun y => (cellsOf y).all IV.one = true ∧ (if G.perm.contains d = true then NewP (cellsOf y).length [cellsOf y] d (K := ⟨K⟩) (A := ⟨(st.lendO x, fun b => .loc (hp b) (cellsOf y).length 0 0)⟩) else K ((st.lendO x).newRow d (cellsOf y).length [cellsOf y]))⟩) := by
  simp only [aop, Opt]
  split
  · rename_i d' y h1 h2; cases h1; rw [h2]; rfl
  · rename_i h1
    generalize hy : ivOf (evO (st.lendO x) x) = oy
    cases oy with
    | none => rfl
    | some y => exact (h1 d y rfl hy).elim
theorem aop_alloc (ty : TypeId) (pos : String) (af : Array Edge) (gd : Option (Nat × Bool)) (t : TypeId) (d : Tmp) (K : St → Prop) (st : St) : aop G ⟨some d, .alloc t, ty, pos, af, gd⟩ K st = Opt (zeroIV G t) (K := ⟨fun z => if G.perm.contains d = true then NewP z.length [z] d (K := ⟨K⟩) (A := ⟨(st, fun b => .loc (hp b) z.length 0 0)⟩) else K (st.newRow d z.length [z])⟩) := by
  simp only [aop, Opt]
  split
  · rename_i d' y h1 h2; cases h1; rw [h2]; rfl
  · rename_i h1
    generalize hy : zeroIV G t = oy
    cases oy with
    | none => rfl
    | some y => exact (h1 d y rfl hy).elim
theorem aop_store (dst : Option Tmp) (ty : TypeId) (pos : String) (af : Array Edge) (gd : Option (Nat × Bool)) (t : TypeId) (p x : Operand) (K : St → Prop) (st : St) : aop G ⟨dst, .store t p x, ty, pos, af, gd⟩ K st = aStore G K (st.lendO x) dst t p x := propext ⟨fun h => h, fun h => h⟩
theorem aop_makeSlice (dst : Option Tmp) (ty : TypeId) (pos : String) (af : Array Edge) (gd : Option (Nat × Bool)) (t : TypeId) (l c : Operand) (K : St → Prop) (st : St) : aop G ⟨dst, .makeSlice t l c, ty, pos, af, gd⟩ K st = aMake G K st dst t (evO st l) (evO st c) := propext ⟨fun h => h, fun h => h⟩
theorem aop_makeFunc (dst : Option Tmp) (ty : TypeId) (pos : String) (af : Array Edge) (gd : Option (Nat × Bool)) (f : Fn) (x y : Array Operand) (K : St → Prop) (st : St) : aop G ⟨dst, .makeFunc f x y, ty, pos, af, gd⟩ K st =
    Opt (yv G (st.lendOs y.toList) ⟨dst, .makeFunc f x y, ty, pos, af, gd⟩) (K := ⟨fun av => K ((st.lendOs y.toList).put dst av)⟩) := aVal_eq K (st.lendOs y.toList) ⟨dst, .makeFunc f x y, ty, pos, af, gd⟩
theorem aq_makeFunc (dst : Option Tmp) (ty : TypeId) (pos : String) (af : Array Edge) (gd : Option (Nat × Bool)) (f : Fn) (x y : Array Operand) (K : AV → Prop) (st : St) : aq G st ⟨dst, .makeFunc f x y, ty, pos, af, gd⟩ K = Opt (yv G st ⟨dst, .makeFunc f x y, ty, pos, af, gd⟩) (K := ⟨K⟩) := by rw [aq_eq]
theorem aop_call (dst : Option Tmp) (ty : TypeId) (pos : String) (af : Array Edge) (gd : Option (Nat × Bool)) (f : Operand) (as : Array Operand) (ts : Array TypeId) (K : St → Prop) (st : St) : aop G ⟨dst, .call ⟨.value f, as, ts⟩, ty, pos, af, gd⟩ K st = aCall G K st dst f as.toList := propext ⟨fun h => h, fun h => h⟩
theorem aq_call (dst : Option Tmp) (ty : TypeId) (pos : String) (af : Array Edge) (gd : Option (Nat × Bool)) (f : Operand) (as : Array Operand) (ts : Array TypeId) (K : AV → Prop) (st : St) : aq G st ⟨dst, .call ⟨.value f, as, ts⟩, ty, pos, af, gd⟩ K =
    match evO st f, ivsOf (as.toList.map (evO st)) with
    | .im (.clo g caps), some xs => CallD G g (xs ++ caps) (K := ⟨fun r => K (.im r)⟩)
    | _, _ => False := (aq_eq st ⟨dst, .call ⟨.value f, as, ts⟩, ty, pos, af, gd⟩ K).trans (propext ⟨fun h => h, fun h => h⟩)
theorem aop_append (dst : Option Tmp) (ty : TypeId) (pos : String) (af : Array Edge) (gd : Option (Nat × Bool)) (as : Array Operand) (ts : Array TypeId) (K : St → Prop) (st : St) : aop G ⟨dst, .call ⟨.builtin .append, as, ts⟩, ty, pos, af, gd⟩ K st = aAppend G K st dst ts.toList as.toList := propext ⟨fun h => h, fun h => h⟩
theorem aop_len (dst : Option Tmp) (ty : TypeId) (pos : String) (af : Array Edge) (gd : Option (Nat × Bool)) (as : Array Operand) (ts : Array TypeId) (K : St → Prop) (st : St) : aop G ⟨dst, .call ⟨.builtin .len, as, ts⟩, ty, pos, af, gd⟩ K st = Opt (yv G st ⟨dst, .call ⟨.builtin .len, as, ts⟩, ty, pos, af, gd⟩) (K := ⟨fun av => K (st.put dst av)⟩) := aVal_eq K st ⟨dst, .call ⟨.builtin .len, as, ts⟩, ty, pos, af, gd⟩
theorem aq_len (dst : Option Tmp) (ty : TypeId) (pos : String) (af : Array Edge) (gd : Option (Nat × Bool)) (as : Array Operand) (ts : Array TypeId) (K : AV → Prop) (st : St) : aq G st ⟨dst, .call ⟨.builtin .len, as, ts⟩, ty, pos, af, gd⟩ K = Opt (yv G st ⟨dst, .call ⟨.builtin .len, as, ts⟩, ty, pos, af, gd⟩) (K := ⟨K⟩) := by rw [aq_eq]
theorem aop_min (dst : Option Tmp) (ty : TypeId) (pos : String) (af : Array Edge) (gd : Option (Nat × Bool)) (as : Array Operand) (ts : Array TypeId) (K : St → Prop) (st : St) : aop G ⟨dst, .call ⟨.builtin .min, as, ts⟩, ty, pos, af, gd⟩ K st = Opt (yv G st ⟨dst, .call ⟨.builtin .min, as, ts⟩, ty, pos, af, gd⟩) (K := ⟨fun av => K (st.put dst av)⟩) := aVal_eq K st ⟨dst, .call ⟨.builtin .min, as, ts⟩, ty, pos, af, gd⟩
theorem aq_min (dst : Option Tmp) (ty : TypeId) (pos : String) (af : Array Edge) (gd : Option (Nat × Bool)) (as : Array Operand) (ts : Array TypeId) (K : AV → Prop) (st : St) : aq G st ⟨dst, .call ⟨.builtin .min, as, ts⟩, ty, pos, af, gd⟩ K = Opt (yv G st ⟨dst, .call ⟨.builtin .min, as, ts⟩, ty, pos, af, gd⟩) (K := ⟨K⟩) := by rw [aq_eq]
theorem aop_max (dst : Option Tmp) (ty : TypeId) (pos : String) (af : Array Edge) (gd : Option (Nat × Bool)) (as : Array Operand) (ts : Array TypeId) (K : St → Prop) (st : St) : aop G ⟨dst, .call ⟨.builtin .max, as, ts⟩, ty, pos, af, gd⟩ K st = Opt (yv G st ⟨dst, .call ⟨.builtin .max, as, ts⟩, ty, pos, af, gd⟩) (K := ⟨fun av => K (st.put dst av)⟩) := aVal_eq K st ⟨dst, .call ⟨.builtin .max, as, ts⟩, ty, pos, af, gd⟩
theorem aq_max (dst : Option Tmp) (ty : TypeId) (pos : String) (af : Array Edge) (gd : Option (Nat × Bool)) (as : Array Operand) (ts : Array TypeId) (K : AV → Prop) (st : St) : aq G st ⟨dst, .call ⟨.builtin .max, as, ts⟩, ty, pos, af, gd⟩ K = Opt (yv G st ⟨dst, .call ⟨.builtin .max, as, ts⟩, ty, pos, af, gd⟩) (K := ⟨K⟩) := by rw [aq_eq]
theorem aAppend_eq (K : St → Prop) (st : St) (d : Nat) (t t' : TypeId) (x y : Operand) : aAppend G K st (some d) [t, t'] [x, y] =
    match (G.ti t).kind with
    | .sl e => match growHOf st e (G.ti e).size (evO st x) with
      | some (b, n, es) => (match sliceEls (evO st y) with
        | some xs => t = t' ∧ (G.ti t).size ≠ 0 ∧ (G.ti e).size ≠ 0 ∧ (G.ti e).bytes ≠ 0 ∧ (∀ c ∈ xs, c.length = (G.ti e).size) ∧ n ≤ es.length ∧ (n + xs.length) * (G.ti e).bytes ≤ 140737488355328 ∧
          GrowP b (G.ti e).size (es.take n ++ xs) d e (n + xs.length) (K := ⟨K⟩) (A := ⟨st⟩)
        | none => False)
      | none => match growOf st e (G.ti e).size (evO st x) with
      | some (src, n, es) => (match sliceEls (evO st y) with
        | some xs => t = t' ∧ (G.ti t).size ≠ 0 ∧ (G.ti e).size ≠ 0 ∧ (G.ti e).bytes ≠ 0 ∧ (∀ c ∈ xs, c.length = (G.ti e).size) ∧ n ≤ es.length ∧ (n + xs.length) * (G.ti e).bytes ≤ 140737488355328 ∧
        K ((growSt st src d (G.ti e).size (es.take n ++ xs)).put (some d) (.gsl d e (G.ti e).size (n + xs.length)))
        | none => False)
      | none => if (G.own = true ∨ G.perm.contains d = true) ∧ isEmp (evO st x) = true then (match sliceEls (evO st y) with
        | some xs => t = t' ∧ (G.ti t).size ≠ 0 ∧ (G.ti e).size ≠ 0 ∧ (G.ti e).bytes ≠ 0 ∧ (∀ c ∈ xs, c.length = (G.ti e).size) ∧ xs.length * (G.ti e).bytes ≤ 140737488355328 ∧ xs ≠ [] ∧
          (if G.perm.contains d = true then NewP (G.ti e).size xs d (K := ⟨K⟩) (A := ⟨(st, fun b => .im (.ref b e (G.ti e).size xs.length))⟩) else K (st.newArr d e (G.ti e).size xs))
        | none => False) else match appTok st e (G.ti e).size d (evO st x), elemsOf st (evO st y) with
      | some (src, es), some xs =>
        t = t' ∧ (G.ti t).size ≠ 0 ∧ (G.ti e).size ≠ 0 ∧ (G.ti e).bytes ≠ 0 ∧ (∀ c ∈ es, c.length = (G.ti e).size) ∧ (∀ c ∈ xs, c.length = (G.ti e).size) ∧
        (es.length + xs.length) * (G.ti e).bytes ≤ 140737488355328 ∧
        K ((tokSt st src d (G.ti e).size (es.length + xs.length)).put (some d) (.vec d e (G.ti e).size (es ++ xs)))
      | _, _ => False
    | _ => False := propext ⟨fun h => h, fun h => h⟩
theorem aMake_eq (K : St → Prop) (st : St) (d : Nat) (t : TypeId) (k k' : IntKind) (n m : Int) : aMake G K st (some d) t (.im (.sc (.int k n))) (.im (.sc (.int k' m))) =
    match (G.ti t).kind with
    | .sl e => match zeroIV G e with
      | some z => (G.ti t).size ≠ 0 ∧ n = m ∧ 0 ≤ n ∧ n * (G.ti e).bytes ≤ 140737488355328 ∧ (G.ti e).bytes ≠ 0 ∧
          (if G.perm.contains d = true then NewP (G.ti e).size (List.replicate n.toNat z) d (K := ⟨K⟩) (A := ⟨(st, fun b => .im (.ref b e (G.ti e).size (List.replicate n.toNat z).length))⟩) else K (st.newArr d e (G.ti e).size (List.replicate n.toNat z)))
      | none => False
    | _ => False := propext ⟨fun h => h, fun h => h⟩
theorem aop_lookup (dst : Option Tmp) (ty : TypeId) (pos : String) (af : Array Edge) (gd : Option (Nat × Bool)) (t : TypeId) (m k : Operand) (ok : Bool) (K : St → Prop) (st : St) : aop G ⟨dst, .lookup t m k ok, ty, pos, af, gd⟩ K st = Opt (yv G st ⟨dst, .lookup t m k ok, ty, pos, af, gd⟩) (K := ⟨fun av => K (st.put dst av)⟩) := aVal_eq K st ⟨dst, .lookup t m k ok, ty, pos, af, gd⟩
theorem aq_lookup (dst : Option Tmp) (ty : TypeId) (pos : String) (af : Array Edge) (gd : Option (Nat × Bool)) (t : TypeId) (m k : Operand) (ok : Bool) (K : AV → Prop) (st : St) : aq G st ⟨dst, .lookup t m k ok, ty, pos, af, gd⟩ K = Opt (yv G st ⟨dst, .lookup t m k ok, ty, pos, af, gd⟩) (K := ⟨K⟩) := by rw [aq_eq]
theorem aop_makeMap (ty : TypeId) (pos : String) (af : Array Edge) (gd : Option (Nat × Bool)) (t : TypeId) (d : Tmp) (K : St → Prop) (st : St) : aop G ⟨some d, .makeMap t none, ty, pos, af, gd⟩ K st =
    match (G.ti t).kind with
    | .mp kt e => match keyN G kt with
      | some n => (G.ti t).size ≠ 0 ∧ K ((tokSt st d d 0 0).put (some d) (.mpo d (n, intK G e) []))
      | none => False
    | _ => False := by
  show aMakeMap G K st (some d) t = _
  unfold aMakeMap
  generalize (G.ti t).kind = k
  cases k <;> rfl
theorem aop_mapUpdate (dst : Option Tmp) (ty : TypeId) (pos : String) (af : Array Edge) (gd : Option (Nat × Bool)) (t : TypeId) (m k x : Operand) (K : St → Prop) (st : St) : aop G ⟨dst, .mapUpdate t m k x, ty, pos, af, gd⟩ K st = aMapUp G K st dst t (evO st m) (evO st k) (evO st x) := propext ⟨fun h => h, fun h => h⟩
theorem aMapUp_eq (K : St → Prop) (st : St) (dst : Option Nat) (t : TypeId) (d : Nat) (sc : Nat × Bool) (kvs : List (List Int × List Int)) (k x : AV) : aMapUp G K st dst t (.mpo d sc kvs) k x =
    match keyI k with
    | some ks => (match valI x with
      | some bv => (match (G.ti t).kind with
        | .mp kt e => (G.ti t).size ≠ 0 ∧ look st.toks d = some (0, 0) ∧ keyN G kt = some (nlen ks) ∧ sc = (nlen ks, bv.1) ∧ K (St.put { st with fr := setMFr d sc (mput kvs ks bv.2) st.fr } dst (.im (.sc undef)))
        | _ => False)
      | none => False)
    | none => False := by
  unfold aMapUp
  generalize keyI k = a
  generalize valI x = b
  cases a with
  | none => rfl
  | some ks => cases b with
    | none => rfl
    | some bv => rfl
end
/-! ### Names of rows in blocks -/
theorem hp_lit {n b : Nat} (h : n < 100000) : (n = hp b) = False := eq_false (hp_ne h)
theorem hp_lit' {n b : Nat} (h : n < 100000) : (hp b = n) = False := eq_false fun e => hp_ne h e.symm
theorem hp_eq (a b : Nat) : (hp a = hp b) = (a = b) := propext hp_inj
theorem hp_ge (b : Nat) : (100000 ≤ hp b) = True := eq_true (by unfold hp; omega)
theorem hp_bne {n b : Nat} (h : n < 100000) : (hp b != n) = true := by
  rw [bne_iff_ne]; exact fun e => hp_ne h e.symm
theorem hp_bne2 (a b : Nat) : (hp a != hp b) = (a != b) := by
  by_cases h : a = b
  · subst h; simp
  · rw [(bne_iff_ne).2 h, bne_iff_ne]
    exact fun e => h (hp_inj.1 e)
attribute [go_sem ↓] aheadVN_free aheadVN_here aqV_call aop_lookup aq_lookup aop_makeMap aop_mapUpdate aMapUp_eq alist_app alist_app_nil app_get_succ app_get_zero app_get_nil awp_skip awp_seq awp_cond awp_block awp_exit awp_ret awp_loop awp_region awp_draw alist_nil alist_free alist_guard aheadN_zero aheadN_nil aheadN_free aheadN_guard aheadS_nil aheadS_store aheadS_alloc aheadS_guard aStores0_eq freshAll_nil freshAll_alloc mkRows_nil mkRows_alloc aheadS_move freshAll_move mkRows_move aheadS_assign freshAll_assign mkRows_assign aheadS_pick freshAll_pick mkRows_pick aheadS_box freshAll_box mkRows_box aheadS_build freshAll_build mkRows_build aheadS_buildSlice freshAll_buildSlice mkRows_buildSlice aheadS_load freshAll_load mkRows_load aheadS_nilCheck freshAll_nilCheck mkRows_nilCheck aheadS_binOp freshAll_binOp mkRows_binOp aheadS_unOp freshAll_unOp mkRows_unOp aheadS_convert freshAll_convert mkRows_convert aheadS_makeFunc freshAll_makeFunc mkRows_makeFunc aheadS_makeSlice freshAll_makeSlice mkRows_makeSlice aheadS_slice freshAll_slice mkRows_slice aheadS_fieldAddr freshAll_fieldAddr mkRows_fieldAddr aheadS_field freshAll_field mkRows_field aheadS_indexAddr freshAll_indexAddr mkRows_indexAddr aheadS_index freshAll_index mkRows_index aheadS_lookup freshAll_lookup mkRows_lookup aheadS_extract freshAll_extract mkRows_extract aheadS_call freshAll_call mkRows_call freshAll_store mkRows_store aheadS_makeMap freshAll_makeMap mkRows_makeMap aheadS_mapUpdate freshAll_mapUpdate mkRows_mapUpdate aheadS_makeInterface freshAll_makeInterface mkRows_makeInterface aStores_nil aStores_other aStores_store aCall_eq aCall0_eq aStore_eq aBin_tmp aBin_int aBin_bool aBin_str aBin_nil aNil_eq aop_box aop_alloc aop_store aop_makeSlice aop_makeFunc aq_makeFunc aop_call aq_call aop_append aop_binOp aq_binOp aop_move aq_move aop_assign aq_assign aop_pick aq_pick aop_unOp aq_unOp aop_nilCheck aq_nilCheck aop_load aq_load aop_fieldAddr aq_fieldAddr aop_field aq_field aop_indexAddr aq_indexAddr aop_index aq_index aop_extract aq_extract aop_build aq_build aop_buildSlice aq_buildSlice aop_convert aq_convert aop_slice aq_slice aop_len aq_len aop_min aq_min aop_max aq_max yieldA zeroIV_eq List.getElem?_cons_succ List.getElem?_cons_zero
attribute [go_sem] mapOf keyI intsI valI ivs elemI_true elemI_false nlen yLookup yLenM isMp AV.setM setMFr AV.froz St.lendM Prod.mk.injEq or_true true_or isEmp initStM initFrA aRetM aRet1M esOf AV.rn rnm setAll AV.toArg growSt growOf AV.soft AV.soft2 initSt IV.int IV.bool initFr isSl aRetV St.proms St.prom1 AV.forget fgFr St.forget St.ren renFr St.prom promFr promsOk Opt_some Two_true Two_false Two_not asB yv evO ofV plainV St.get St.put look del undefA Go.undef scBin scUn aggBin eqCells scMin2 scMax2 scFold scs cellsAt aggK setCells fillA sliceEls ivOf ivsOf ivParts fullEls yIndexAddr yField yLoad noZ List.any_cons List.any_nil structPlace yBuild yBuildSlice bnd ySlice yLen yIndex cellsOf IV.one flatB ZC.iv St.fresh AV.purge AV.lend St.lend St.lendO St.lendOs St.newRow St.newArr setRow tokSt elemsOf appTok St.keep List.getElem?_nil List.length_cons List.length_nil List.map_cons List.map_nil List.foldl_cons List.foldl_nil List.all_cons List.all_nil List.cons_append List.nil_append List.drop_succ_cons List.drop_zero List.take_succ_cons List.take_zero List.set_cons_zero List.set_cons_succ List.filter_cons List.filter_nil List.contains_cons List.contains_nil List.replicate_succ List.replicate_zero List.append_nil Int.natCast_nonneg Int.cast_ofNat_Int Option.getD_some Option.getD_none Option.isSome_some Option.isSome_none Option.map_some Option.map_none Bool.false_eq_true Bool.true_eq_false Bool.not_true Bool.not_false Bool.and_true Bool.true_and Bool.and_false Bool.false_and Bool.or_true Bool.true_or Bool.or_false Bool.false_or beq_self_eq_true bq_true oc_int oc_bool oc_string List.length_map List.size_toArray bq_false aRet resL resIV lendR decide_true decide_false if_true if_false ite_true ite_false ne_eq not_true not_false_iff true_and and_true false_and and_false true_or or_true false_or or_false true_implies forall_const implies_true Nat.zero_add Nat.add_zero Int.toNat_natCast flat1 aAppend_eq aMake_eq
attribute [go_sem] hp_lit hp_lit' hp_eq hp_ge hp_bne hp_bne2 bne_self_eq_false AV.dp growHOf isHa isFrz ZC.ivG St.addH growStH St.frzOs frzO St.frz AV.frz frz1 frz2 frz3 AV.toH aRetH1
attribute [go_sem] Int.reduceNegSucc Nat.reduceAdd Nat.reduceSub Nat.reduceMul Nat.reduceEqDiff Nat.reduceLeDiff Nat.reduceLT Nat.reduceBEq Nat.reduceBNe reduceIte reduceCtorEq Int.reduceToNat Int.reduceAdd Int.reduceSub Int.reduceMul Int.reduceNeg Int.reduceLT Int.reduceLE Int.reduceEq Int.reduceNe
end Go.Abs
