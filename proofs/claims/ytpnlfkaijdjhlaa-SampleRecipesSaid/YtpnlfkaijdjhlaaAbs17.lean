/-
  The walk as rewriting: stops at a branch, at a call, at a loop and at a region whose order is open. Program-independent. The generic layer under all claims of this repo: 17 of several.
-/
import Derived.Test.YtpnlfkaijdjhlaaAbs16
namespace Go.Abs
set_option linter.all false
open Go.RowKit (Below)

universe u
/-- Holds a thing where a rewriting does not look. -/
class Hold (α : Sort u) where
  val : α
/-- Two ways on; a rewriting looks at the condition alone. -/
def Two (t : Bool) [A : Hold Prop] [B : Hold Prop] : Prop := (t = true → A.val) ∧ (t = false → B.val)
theorem Two_true {A B : Prop} : @Two true ⟨A⟩ ⟨B⟩ = A := by simp [Two]
theorem Two_false {A B : Prop} : @Two false ⟨A⟩ ⟨B⟩ = B := by simp [Two]
theorem Two_not {A B : Prop} {t : Bool} : @Two (!t) ⟨A⟩ ⟨B⟩ = @Two t ⟨B⟩ ⟨A⟩ := by cases t <;> simp [Two]
theorem Two_of {t : Bool} {A B : Prop} (h1 : t = true → A) (h2 : t = false → B) : @Two t ⟨A⟩ ⟨B⟩ := ⟨h1, h2⟩
theorem Two_dec {p : Prop} {i : Decidable p} {A B : Prop} (h1 : @decide p i = true → p → A) (h2 : @decide p i = false → ¬p → B) : @Two (@decide p i) ⟨A⟩ ⟨B⟩ :=
  ⟨fun h => h1 h (of_decide_eq_true h), fun h => h2 h (of_decide_eq_false h)⟩

def Opt {α : Type} (o : Option α) [K : Hold (α → Prop)] : Prop :=
  match o with
  | some x => K.val x
  | none => False
theorem Opt_some {α : Type} {x : α} {K : α → Prop} : @Opt α (some x) ⟨K⟩ = K x := propext ⟨fun h => h, fun h => h⟩
theorem Opt_of {α : Type} {o : Option α} {K : α → Prop} (x : α) (h : o = some x) (hK : K x) : @Opt α o ⟨K⟩ := by subst h; exact hK

def asB : AV → Option Bool
  | .im (.sc (.bool t)) => some t
  | _ => none

section
variable {G : Ctx}

def LoopP (G : Ctx) [c : Hold Code] [Q : Hold (Exit → St → Prop)] (st : St) : Prop := awp G (.loop c.val) Q.val st
def DrawP (G : Ctx) [ops : Hold (List Oper)] [Q : Hold (Exit → St → Prop)] (st : St) : Prop :=
  (∃ n, drawB ops.val.toArray n = true ∧ ahead G ops.val (fun s => alist G ops.val (Q.val .normal) (ops.val.drop n) s) (ops.val.take n) st) ∨ (drawS ops.val.toArray = true ∧ aheadS G ops.val (aStores G (Q.val .normal) ops.val) ops.val st)
theorem awp_skip (Q : Exit → St → Prop) (st : St) : awp G .skip Q st = Q .normal st := propext ⟨fun h => h, fun h => h⟩
theorem awp_seq (x y : Code) (Q : Exit → St → Prop) (st : St) :
    awp G (.seq x y) Q st = awp G x (fun e s => match e with | .normal => awp G y Q s | e => Q e s) st := propext ⟨fun h => h, fun h => h⟩
theorem awp_cond (c : Operand) (x y : Code) (Q : Exit → St → Prop) (st : St) :
    awp G (.cond c x y) Q st = Opt (asB (evO st c)) (K := ⟨fun t => Two t (A := ⟨awp G x Q st⟩) (B := ⟨awp G y Q st⟩)⟩) := by
  simp only [awp]
  generalize evO st c = av
  cases av with
  | im x => cases x with
    | sc v => cases v <;> rfl
    | _ => rfl
  | _ => rfl
theorem awp_block (id : Nat) (c : Code) (Q : Exit → St → Prop) (st : St) :
    awp G (.block id c) Q st = awp G c (fun e s => match e with | .exit k => if k = id then Q .normal s else Q (.exit k) s | e => Q e s) st := propext ⟨fun h => h, fun h => h⟩
theorem awp_exit (id : Nat) (Q : Exit → St → Prop) (st : St) : awp G (.exit id) Q st = Q (.exit id) st := propext ⟨fun h => h, fun h => h⟩
theorem awp_ret (Q : Exit → St → Prop) (st : St) : awp G .ret Q st = Q .ret st := propext ⟨fun h => h, fun h => h⟩
theorem awp_loop (c : Code) (Q : Exit → St → Prop) (st : St) : awp G (.loop c) Q st = LoopP G (c := ⟨c⟩) (Q := ⟨Q⟩) st := propext ⟨fun h => h, fun h => h⟩
theorem awp_region (id : Nat) (ops : List Oper) (Q : Exit → St → Prop) (st : St) :
    awp G (.region id ops.toArray false) Q st = alist G ops (Q .normal) ops st := by simp [awp]
theorem awp_draw (id : Nat) (ops : List Oper) (Q : Exit → St → Prop) (st : St) :
    awp G (.region id ops.toArray true) Q st = DrawP G (ops := ⟨ops⟩) (Q := ⟨Q⟩) st := by simp only [awp, DrawP, if_true]

theorem alist_nil (ops : List Oper) (K : St → Prop) (st : St) : alist G ops K [] st = K st := propext ⟨fun h => h, fun h => h⟩
theorem alist_free (ops : List Oper) (K : St → Prop) (dst : Option Tmp) (op : Op) (ty : TypeId) (pos : String) (af : Array Edge) (r : List Oper) (st : St) :
    alist G ops K (⟨dst, op, ty, pos, af, none⟩ :: r) st = aop G ⟨dst, op, ty, pos, af, none⟩ (alist G ops K r) st := propext ⟨fun h => h, fun h => h⟩
theorem Two_eq (A B : Prop) (b want : Bool) : ((b = want → A) ∧ (b ≠ want → B)) = Two (b == want) (A := ⟨A⟩) (B := ⟨B⟩) := by
  cases b <;> cases want <;> simp [Two]
theorem alist_guard (ops : List Oper) (K : St → Prop) (dst : Option Tmp) (op : Op) (ty : TypeId) (pos : String) (af : Array Edge) (j : Nat) (want : Bool) (r : List Oper) (st : St) :
    alist G ops K (⟨dst, op, ty, pos, af, some (j, want)⟩ :: r) st = Opt (yieldA st ops j) (K := ⟨fun y => match y with
      | some b => Two (b == want) (A := ⟨aop G ⟨dst, op, ty, pos, af, some (j, want)⟩ (alist G ops K r) st⟩) (B := ⟨alist G ops K r (st.put dst undefA)⟩)
      | none => alist G ops K r (st.put dst undefA)⟩) := by
  conv => lhs; unfold alist
  simp only [Opt, Two_eq]
  split <;> rename_i h <;> rw [h]
theorem ahead_nil (ops : List Oper) (K : St → Prop) (st : St) : ahead G ops K [] st = K st := propext ⟨fun h => h, fun h => h⟩
theorem ahead_free (ops : List Oper) (K : St → Prop) (dst : Option Tmp) (op : Op) (ty : TypeId) (pos : String) (af : Array Edge) (r : List Oper) (st : St) :
    ahead G ops K (⟨dst, op, ty, pos, af, none⟩ :: r) st = aq G st ⟨dst, op, ty, pos, af, none⟩ (fun av => ahead G ops K r (st.put dst av)) := propext ⟨fun h => h, fun h => h⟩
theorem ahead_guard (ops : List Oper) (K : St → Prop) (dst : Option Tmp) (op : Op) (ty : TypeId) (pos : String) (af : Array Edge) (j : Nat) (want : Bool) (r : List Oper) (st : St) :
    ahead G ops K (⟨dst, op, ty, pos, af, some (j, want)⟩ :: r) st = Opt (yieldA st ops j) (K := ⟨fun y => match y with
      | some b => Two (b == want) (A := ⟨aq G st ⟨dst, op, ty, pos, af, some (j, want)⟩ (fun av => ahead G ops K r (st.put dst av))⟩) (B := ⟨ahead G ops K r (st.put dst undefA)⟩)
      | none => ahead G ops K r (st.put dst undefA)⟩) := by
  conv => lhs; unfold ahead
  simp only [Opt, Two_eq]
  split <;> rename_i h <;> rw [h]
theorem aVal_eq (K : St → Prop) (st : St) (o : Oper) : aVal G K st o = Opt (yv G st o) (K := ⟨fun av => K (st.put o.dst av)⟩) := by
  unfold aVal Opt; split <;> rename_i h <;> simp [h]

/-- The first n operations in any order, then the others: counted down, so that a rewriting never looks at what follows. -/
def aheadN (G : Ctx) (ops : List Oper) (K : St → Prop) (n : Nat) (l : List Oper) (st : St) : Prop := ahead G ops (fun s => alist G ops K (l.drop n) s) (l.take n) st
theorem DrawP_of {ops : List Oper} {Q : Exit → St → Prop} {st : St} (n : Nat) (h : drawB ops.toArray n = true)
    (hA : aheadN G ops (Q .normal) n ops st) : @DrawP G ⟨ops⟩ ⟨Q⟩ st := .inl ⟨n, h, hA⟩
/-- Where stores stand among the others. -/
theorem DrawS_of {ops : List Oper} {Q : Exit → St → Prop} {st : St} (h : drawS ops.toArray = true)
    (hA : aheadS G ops (aStores G (Q .normal) ops) ops st) : @DrawP G ⟨ops⟩ ⟨Q⟩ st := .inr ⟨h, hA⟩
theorem aheadN_zero (ops : List Oper) (K : St → Prop) (l : List Oper) (st : St) : aheadN G ops K 0 l st = alist G ops K l st := by
  simp only [aheadN, List.take_zero, List.drop_zero, ahead_nil]
theorem aheadN_nil (ops : List Oper) (K : St → Prop) (n : Nat) (st : St) : aheadN G ops K n [] st = K st := by
  simp only [aheadN, List.take_nil, List.drop_nil, ahead_nil, alist_nil]
theorem aheadN_free (ops : List Oper) (K : St → Prop) (n : Nat) (dst : Option Tmp) (op : Op) (ty : TypeId) (pos : String) (af : Array Edge) (r : List Oper) (st : St) :
    aheadN G ops K (n + 1) (⟨dst, op, ty, pos, af, none⟩ :: r) st = aq G st ⟨dst, op, ty, pos, af, none⟩ (fun av => aheadN G ops K n r (st.put dst av)) := by
  simp only [aheadN, List.take_succ_cons, List.drop_succ_cons, ahead_free]
theorem aheadS_nil (ops : List Oper) (K : St → Prop) (st : St) : aheadS G ops K [] st = K st := propext ⟨fun h => h, fun h => h⟩
theorem aheadS_store (ops : List Oper) (K : St → Prop) (t : TypeId) (p x : Operand) (ty : TypeId) (pos : String) (af : Array Edge) (r : List Oper) (st : St) :
    aheadS G ops K (⟨none, .store t p x, ty, pos, af, none⟩ :: r) st = aheadS G ops K r st := by
  conv => lhs; unfold aheadS
  rw [if_pos (by rfl)]
theorem aheadS_free (ops : List Oper) (K : St → Prop) (d : Tmp) (op : Op) (ty : TypeId) (pos : String) (af : Array Edge) (r : List Oper) (st : St) :
    aheadS G ops K (⟨some d, op, ty, pos, af, none⟩ :: r) st = aq G st ⟨some d, op, ty, pos, af, none⟩ (fun av => aheadS G ops K r (st.put (some d) av)) := by
  conv => lhs; unfold aheadS
  rw [if_neg (by unfold isStore; split <;> simp)]
theorem aheadS_guard (ops : List Oper) (K : St → Prop) (dst : Option Tmp) (op : Op) (ty : TypeId) (pos : String) (af : Array Edge) (j : Nat) (want : Bool) (r : List Oper) (st : St) :
    aheadS G ops K (⟨dst, op, ty, pos, af, some (j, want)⟩ :: r) st = Opt (yieldA st ops j) (K := ⟨fun y => match y with
      | some b => Two (b == want) (A := ⟨aq G st ⟨dst, op, ty, pos, af, some (j, want)⟩ (fun av => aheadS G ops K r (st.put dst av))⟩) (B := ⟨aheadS G ops K r (st.put dst undefA)⟩)
      | none => aheadS G ops K r (st.put dst undefA)⟩) := by
  conv => lhs; unfold aheadS
  rw [if_neg (by unfold isStore; split <;> simp)]
  simp only [Opt, Two_eq]
  split <;> rename_i h <;> rw [h]
theorem aStores_nil (K : St → Prop) (st : St) : aStores G K [] st = K st := propext ⟨fun h => h, fun h => h⟩
theorem aStores_other (K : St → Prop) (d : Tmp) (op : Op) (ty : TypeId) (pos : String) (af : Array Edge) (g : Option (Nat × Bool)) (r : List Oper) (st : St) :
    aStores G K (⟨some d, op, ty, pos, af, g⟩ :: r) st = aStores G K r st := by
  conv => lhs; unfold aStores
  rw [if_neg (by unfold isStore; split <;> simp)]
theorem aStores_store (K : St → Prop) (t : TypeId) (p x : Operand) (ty : TypeId) (pos : String) (af : Array Edge) (r : List Oper) (st : St) :
    aStores G K (⟨none, .store t p x, ty, pos, af, none⟩ :: r) st = match ivOf (evO st x), evO st p with
      | some y, .loc d s i j => match look st.rows d with
        | some (s', es) => Opt es[i]? (K := ⟨fun c => s' = s ∧ (G.ti t).size ≠ 0 ∧ (cellsOf y).length = (G.ti t).size ∧ (cellsOf y).all IV.one = true ∧ j + (G.ti t).size ≤ c.length ∧
          aStores G K r { st with rows := setRow st.rows d s (es.set i (setCells c j (cellsOf y))) }⟩)
        | none => False
      | _, _ => False := by
  conv => lhs; unfold aStores
  rw [if_pos (by rfl)]
  dsimp only
  unfold aStQ
  generalize ivOf (evO st x) = oy
  generalize evO st p = pv
  cases oy with
  | none => rfl
  | some y => cases pv with
    | loc d s i j =>
      dsimp only
      generalize look st.rows d = o
      cases o with
      | none => rfl
      | some q =>
        obtain ⟨s', es⟩ := q
        dsimp only
        unfold Opt
        generalize es[i]? = oc
        cases oc <;> rfl
    | _ => rfl
theorem aheadN_guard (ops : List Oper) (K : St → Prop) (n : Nat) (dst : Option Tmp) (op : Op) (ty : TypeId) (pos : String) (af : Array Edge) (j : Nat) (want : Bool) (r : List Oper) (st : St) :
    aheadN G ops K (n + 1) (⟨dst, op, ty, pos, af, some (j, want)⟩ :: r) st = Opt (yieldA st ops j) (K := ⟨fun y => match y with
      | some b => Two (b == want) (A := ⟨aq G st ⟨dst, op, ty, pos, af, some (j, want)⟩ (fun av => aheadN G ops K n r (st.put dst av))⟩) (B := ⟨aheadN G ops K n r (st.put dst undefA)⟩)
      | none => aheadN G ops K n r (st.put dst undefA)⟩) := by
  unfold aheadN
  rw [List.take_succ_cons, List.drop_succ_cons, ahead_guard]

/-- A call of another function of the program. -/
def CallP (G : Ctx) (g : Nat) (xs : List IV) [K : Hold (IV → Prop)] [V : Hold (Nat → Nat → List (List IV) → Prop)] : Prop :=
  (3 ≤ g ∧ g < G.fns) ∧ ((∃ φ : IV → Prop, Ctr G.P g xs φ ∧ ∀ r, φ r → K.val r) ∨ ∃ e s es, CtrV G.P g xs e s es ∧ (∀ c ∈ es, c.length = s) ∧ V.val e s es)
theorem CallP_of {g : Nat} {xs : List IV} {K : IV → Prop} {V : Nat → Nat → List (List IV) → Prop} {φ : IV → Prop} (h : Ctr G.P g xs φ) (hg : 3 ≤ g ∧ g < G.fns) (hK : ∀ r, φ r → K r) : @CallP G g xs ⟨K⟩ ⟨V⟩ := ⟨hg, .inl ⟨φ, h, hK⟩⟩
theorem CallP_eq {g : Nat} {xs : List IV} {K : IV → Prop} {V : Nat → Nat → List (List IV) → Prop} {r : IV} (h : Ctr G.P g xs (· = r)) (hg : 3 ≤ g ∧ g < G.fns) (hK : K r) : @CallP G g xs ⟨K⟩ ⟨V⟩ := ⟨hg, .inl ⟨_, h, fun _ e => e ▸ hK⟩⟩
theorem CallP_vec {g : Nat} {xs : List IV} {K : IV → Prop} {V : Nat → Nat → List (List IV) → Prop} {e s : Nat} {es : List (List IV)} (h : CtrV G.P g xs e s es) (hg : 3 ≤ g ∧ g < G.fns) (hl : ∀ c ∈ es, c.length = s) (hK : V e s es) : @CallP G g xs ⟨K⟩ ⟨V⟩ := ⟨hg, .inr ⟨e, s, es, h, hl, hK⟩⟩
/-- The same in a region whose order is open: the result is one. -/
def CallD (G : Ctx) (g : Nat) (xs : List IV) [K : Hold (IV → Prop)] : Prop :=
  (3 ≤ g ∧ g < G.fns) ∧ ∃ r, Ctr G.P g xs (· = r) ∧ K.val r
theorem CallD_eq {g : Nat} {xs : List IV} {K : IV → Prop} {r : IV} (h : Ctr G.P g xs (· = r)) (hg : 3 ≤ g ∧ g < G.fns) (hK : K r) : @CallD G g xs ⟨K⟩ := ⟨hg, r, h, hK⟩

theorem aCall_eq (K : St → Prop) (st : St) (dst : Option Nat) (f : Operand) (args : List Operand) :
    aCall G K st dst f args = match evO st f, ivsOf (args.map (evO (st.lendOs args))) with
      | .im (.clo g caps), some xs => CallP G g (xs ++ caps) (K := ⟨fun r => K ((if flatB r = true then st else st.lendOs args).put dst (.im r))⟩)
          (V := ⟨fun e s es => match dst with | some d => K ((tokSt (st.lendOs args) d d s es.length).put (some d) (.vec d e s es)) | none => False⟩)
      | _, _ => False := by
  unfold aCall CallP
  generalize evO st f = fv
  generalize ivsOf (args.map (evO (st.lendOs args))) = oxs
  cases fv with
  | im x => cases x with
    | clo g caps => cases oxs with
      | none => rfl
      | some xs =>
        dsimp only
        cases dst with
        | none => simp
        | some d => simp
    | _ => rfl
  | _ => rfl
/-- A slice held against nil. -/
def NilP (es : List (List IV)) [K : Hold (Bool → Prop)] : Prop := ∀ b : Bool, (b = true → es = []) → K.val b
theorem NilP_of {es : List (List IV)} {K : Bool → Prop} (h1 : es = [] → K true) (h2 : K false) : @NilP es ⟨K⟩ := fun b hb => by
  cases b
  · exact h2
  · exact h1 (hb rfl)
theorem aNil_eq (K : St → Prop) (st : St) (dst : Option Nat) (op : BinOp) (t : TypeId) (x : Operand) : aNil G K st dst op t x = match sliceEls (evO st x), op with
    | some es, .eql => (G.ti t).size ≠ 0 ∧ isSl (G.ti t).kind = true ∧ NilP es (K := ⟨fun b => K (st.put dst (.im (.sc (.bool b))))⟩)
    | some es, .neq => (G.ti t).size ≠ 0 ∧ isSl (G.ti t).kind = true ∧ NilP es (K := ⟨fun b => K (st.put dst (.im (.sc (.bool !b))))⟩)
    | _, _ => False := propext ⟨fun h => h, fun h => h⟩
theorem aq_eq (st : St) (o : Oper) (K : AV → Prop) : aq G st o K = match o.op with
    | .call c => match c.callee with
      | .value f => match evO st f, ivsOf (c.args.toList.map (evO st)) with
        | .im (.clo g caps), some xs => CallD G g (xs ++ caps) (K := ⟨fun r => K (.im r)⟩)
        | _, _ => False
      | _ => Opt (yv G st o) (K := ⟨K⟩)
    | _ => Opt (yv G st o) (K := ⟨K⟩) := by
  obtain ⟨dst, op, ty, pos, af, gd⟩ := o
  unfold aq Opt
  cases op <;> dsimp only <;> first
    | (generalize yv G st _ = y; cases y <;> rfl)
    | rfl
    | (rename_i c; obtain ⟨callee, as, ts⟩ := c; cases callee <;> dsimp only <;> first | (generalize yv G st _ = y; cases y <;> rfl) | rfl)
theorem aStore_eq (K : St → Prop) (st : St) (dst : Option Nat) (t : TypeId) (p x : Operand) :
    aStore G K st dst t p x = match ivOf (evO st x), evO st p with
      | some y, .loc d s i j => match look st.rows d with
        | some (s', es) => Opt es[i]? (K := ⟨fun c => s' = s ∧ (G.ti t).size ≠ 0 ∧ (cellsOf y).length = (G.ti t).size ∧ (cellsOf y).all IV.one = true ∧ j + (G.ti t).size ≤ c.length ∧
          K (St.put { st with rows := setRow st.rows d s (es.set i (setCells c j (cellsOf y))) } dst undefA)⟩)
        | none => False
      | _, _ => False := by
  unfold aStore
  generalize ivOf (evO st x) = oy
  generalize evO st p = pv
  cases oy with
  | none => rfl
  | some y => cases pv with
    | loc d s i j =>
      dsimp only
      generalize look st.rows d = o
      cases o with
      | none => rfl
      | some q =>
        obtain ⟨s', es⟩ := q
        dsimp only
        unfold Opt
        generalize es[i]? = oc
        cases oc <;> rfl
    | _ => rfl

/-! ### Loops -/
/-- What is to be shown at the end of a round, and at an exit. -/
def RoundP {α : Type} [LR : Hold (List Nat × List Nat)] [S : Hold (α → St)] [P : Hold (α → Prop)] [M : Hold ((α → Nat) × α)] (s : St) : Prop := ∃ a', P.val a' ∧ M.val.1 a' < M.val.1 M.val.2 ∧ St.Le (s.keep LR.val.1 LR.val.2) (S.val a')
theorem RoundP_of {α : Type} {L R : List Nat} {S : α → St} {P : α → Prop} {μ : α → Nat} {a : α} {s : St} (a' : α) (hs : s.keep L R = S a') (hμ : μ a' < μ a) (hP : P a') : @RoundP α ⟨(L, R)⟩ ⟨S⟩ ⟨P⟩ ⟨(μ, a)⟩ s := ⟨a', hP, hμ, hs ▸ St.Le.refl _⟩
/-- Slots that hold slices that may be appended to, under tokens of their own from now on: (slot, token, element type, cells of an element). -/
def St.prom1 (s : St) (t d e k : Nat) : St :=
  match s.get t with
  | .vec _ _ _ _ => s.ren t d
  | _ => s.prom t d e k
def St.proms : St → List (Nat × Nat × Nat × Nat) → St
  | s, [] => s
  | s, (t, d, e, k) :: r => St.proms (s.prom1 t d e k) r
def promsOk : St → List (Nat × Nat × Nat × Nat) → Prop
  | _, [] => True
  | s, (t, d, e, k) :: r => (match s.get t with | .sx es => ∀ c ∈ es, c.length = k | .vec d0 _ s' es => look s.toks d0 = some (s', es.length) | _ => False) ∧ promsOk (s.prom1 t d e k) r
theorem St.le_proms : ∀ (l : List (Nat × Nat × Nat × Nat)) (s : St), promsOk s l → St.Le s (s.proms l)
  | [], s, _ => St.Le.refl s
  | (t, d, e, k) :: r, s, h => by
    obtain ⟨h1, h2⟩ := h
    have h3 : St.Le s (s.prom1 t d e k) := by
      unfold St.prom1
      split at h1
      · rename_i es hg
        simp only [hg]
        exact St.le_prom hg h1
      · rename_i hg
        simp only [hg]
        exact St.le_ren hg h1
      · exact h1.elim
    exact h3.trans (St.le_proms r _ h2)
theorem LoopP_ofP {α : Type} {c : Code} {Q : Exit → St → Prop} {st : St} (L R : List Nat) (ps : List (Nat × Nat × Nat × Nat)) (S : α → St) (P : α → Prop) (μ : α → Nat) (a : α) (hps : promsOk (st.keep L R) ps) (hs : (st.keep L R).proms ps = S a) (hP : P a)
    (h : ∀ a, P a → awp G c (fun e s => match e with | .normal => @RoundP α ⟨(L, R)⟩ ⟨S⟩ ⟨P⟩ ⟨(μ, a)⟩ s | e => Q e s) (S a)) : @LoopP G ⟨c⟩ ⟨Q⟩ st := by
  refine ⟨L, R, fun n s => ∃ a, μ a = n ∧ P a ∧ s = S a, μ a, ⟨_, St.le_proms ps _ hps, a, rfl, hP, hs⟩, fun n s ⟨a, hn, hP, hs⟩ => ?_⟩
  subst hn; subst hs
  have e : (fun (e : Exit) (s' : St) => match e with | .normal => ∃ n', n' < μ a ∧ ∃ s1, St.Le (s'.keep L R) s1 ∧ ∃ b, μ b = n' ∧ P b ∧ s1 = S b | e => Q e s') =
      (fun e s => match e with | .normal => @RoundP α ⟨(L, R)⟩ ⟨S⟩ ⟨P⟩ ⟨(μ, a)⟩ s | e => Q e s) := by
    funext e s
    cases e <;> first | rfl | skip
    simp only [RoundP, eq_iff_iff]
    exact ⟨fun ⟨n', h1, s1, h5, b, h2, h3, h4⟩ => ⟨b, h3, h2 ▸ h1, h4 ▸ h5⟩, fun ⟨b, h3, h1, h4⟩ => ⟨_, h1, _, h4, b, rfl, h3, rfl⟩⟩
  refine (congrFun (congrArg (awp G c) e) (S a)).mpr (h a hP)
theorem LoopP_of {α : Type} {c : Code} {Q : Exit → St → Prop} {st : St} (L R : List Nat) (S : α → St) (P : α → Prop) (μ : α → Nat) (a : α) (hs : st.keep L R = S a) (hP : P a)
    (h : ∀ a, P a → awp G c (fun e s => match e with | .normal => @RoundP α ⟨(L, R)⟩ ⟨S⟩ ⟨P⟩ ⟨(μ, a)⟩ s | e => Q e s) (S a)) : @LoopP G ⟨c⟩ ⟨Q⟩ st := by
  exact LoopP_ofP L R [] S P μ a trivial hs hP h

theorem bq_true (b : Bool) : (b == true) = b := by cases b <;> rfl
theorem bq_false (b : Bool) : (b == false) = !b := by cases b <;> rfl
def noZ : ZC → Bool
  | .no => true
  | _ => false
theorem zeroIV_eq (t : TypeId) : zeroIV G t = if (G.ti t).size = 0 then none else if (G.ti t).zero.any noZ = true then none else some ((G.ti t).zero.map ZC.iv) := by
  have : (G.ti t).zero.contains .no = (G.ti t).zero.any noZ := by
    induction (G.ti t).zero with
    | nil => rfl
    | cons x l ih => rw [List.contains_cons, List.any_cons, ih]; cases x <;> rfl
  unfold zeroIV
  rw [this]
theorem oc_int (k : IntKind) (n : Int) : (Value.int k n).oneCell' = true := rfl
theorem oc_bool (b : Bool) : (Value.bool b).oneCell' = true := rfl
theorem oc_string (s : ByteArray) : (Value.string s).oneCell' = true := rfl
/-- A function: its body walked from its arguments. -/
theorem ctr_go (hG : G.Good) {f : FuncId} {args : List IV} {φ : IV → Prop} (fn : Func) (c : Code) (rs : List ResultVar) (hf : G.P.funcs[f]? = some fn) (hb : fn.body = some c) (hr : fn.results.toList = rs) (hd : dstB fn.ntmps c = true)
    (hn : Nat.ble args.length fn.ntmps = true) (h : awp G c (fun e s => match e with | .normal => aRet G rs φ s | .ret => aRet G rs φ s | _ => False) (initSt args)) : Ctr G.P f args φ := by
  subst hr
  exact ctr_of_awp hG hf hb hd (Nat.le_of_ble_eq_true hn) h
/-- A function that returns a slice with its spare. -/
theorem ctrv_go (hG : G.Good) {f : FuncId} {args : List IV} {e s : Nat} {es : List (List IV)} (fn : Func) (c : Code) (rs : List ResultVar) (hf : G.P.funcs[f]? = some fn) (hb : fn.body = some c) (hr : fn.results.toList = rs) (hd : dstB fn.ntmps c = true)
    (hn : Nat.ble args.length fn.ntmps = true) (h : awp G c (fun x st => match x with | .normal => aRetV rs e s es st | .ret => aRetV rs e s es st | _ => False) (initSt args)) : CtrV G.P f args e s es := by
  subst hr
  exact ctrv_of_awp hG hf hb hd (Nat.le_of_ble_eq_true hn) h
end
end Go.Abs
