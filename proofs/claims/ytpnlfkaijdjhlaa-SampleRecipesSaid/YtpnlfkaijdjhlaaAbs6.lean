/-
  The operations that compute a value, all of them in one function, and that the machine does what it says. Program-independent. The generic layer under all claims of this repo: 6 of several.
-/
import Derived.Test.YtpnlfkaijdjhlaaAbs5
namespace Go.Abs
set_option linter.all false
open Go.RowKit (Below)

def sliceEls : AV → Option (List (List IV))
  | .im (.sl es) | .sx es | .vec _ _ _ es => some es
  | _ => none
def ivOf : AV → Option IV
  | .im x => some x
  | .sx es | .vec _ _ _ es => some (.sl es)
  | _ => none
theorem ivOf_rep {w M β toks av v x} (h : RepA w M β toks av v) (hx : ivOf av = some x) : Rep w M x v := by
  cases av <;> simp only [ivOf, Option.some.injEq] at hx <;> first | (cases hx; done) | (subst hx; first | exact h | exact h.1)
theorem sliceEls_rep {w M β toks av v es} (h : RepA w M β toks av v) (hx : sliceEls av = some es) : Rep w M (.sl es) v := by
  unfold sliceEls at hx
  split at hx <;> first | (cases hx; done) | skip
  · cases hx; exact h
  · cases hx; exact h.1
  · cases hx; exact h.1

def ivsOf : List AV → Option (List IV)
  | [] => some []
  | a :: r => match ivOf a, ivsOf r with
    | some x, some xs => some (x :: xs)
    | _, _ => none
def ivParts (st : St) : List (Nat × Operand) → Option (List (Nat × IV))
  | [] => some []
  | (i, a) :: r => match ivOf (evO st a), ivParts st r with
    | some x, some xs => some ((i, x) :: xs)
    | _, _ => none
/-- The parts are the elements 0, 1, .., s cells each. -/
def fullEls (s : Nat) : Nat → List (Nat × IV) → Option (List (List IV))
  | _, [] => some []
  | k, (i, x) :: r => if i = k ∧ (cellsOf x).length = s ∧ (cellsOf x).all IV.one = true then match fullEls s (k + 1) r with
      | some es => some (cellsOf x :: es)
      | none => none
    else none

def yIndexAddr (G : Ctx) (t : TypeId) (x : AV) (n : Int) : Option AV :=
  if (G.ti t).size = 0 then none else
  match (G.ti t).kind with
  | .sl e =>
    if (G.ti e).size = 0 then none else
    match x with
    | .osl d s i m => if 0 ≤ n ∧ n < (m : Int) ∧ s = (G.ti e).size then some (.loc d s (i + n.toNat) 0) else none
    | x => match sliceEls x with
      | some es => if 0 ≤ n then match es[n.toNat]? with
          | some c => if c.length = (G.ti e).size then some (.im (.ip c 0)) else none
          | none => none
        else none
      | none => none
  | .arr len e =>
    if (G.ti e).size = 0 then none else
    if 0 ≤ n ∧ n < (len : Int) then
      match x with
      | .loc d s i j => some (.loc d s i (j + n.toNat * (G.ti e).size))
      | .im (.ip c j) => some (.im (.ip c (j + n.toNat * (G.ti e).size)))
      | _ => none
    else none
  | _ => none

def yField (G : Ctx) (t : TypeId) (f : Nat) : Option (Nat × TypeId) :=
  if (G.ti t).size = 0 then none else
  match (G.ti t).kind with
  | .st fs => match fs[f]? with
    | some (off, ty) => if (G.ti ty).size = 0 then none else some (off, ty)
    | none => none
  | _ => none

def yLoad (G : Ctx) (st : St) (t : TypeId) (p : AV) : Option AV :=
  if (G.ti t).size = 0 then none else
  match p with
  | .im (.ip c j) => cellsAt G t c j
  | .loc d s i j => match look st.rows d with
    | some (s', es) => if s' = s then match es[i]? with
        | some c => cellsAt G t c j
        | none => none
      else none
    | none => none
  | _ => none

def zeroIV (G : Ctx) (t : TypeId) : Option (List IV) :=
  if (G.ti t).size = 0 then none else
  if (G.ti t).zero.contains .no then none else some ((G.ti t).zero.map ZC.iv)

def structPlace (G : Ctx) (fs : List (Nat × TypeId)) (i : Nat) : Option (Nat × Nat) :=
  match fs[i]? with
  | some (off, ty) => some (off, (G.ti ty).size)
  | none => none
def yBuild (G : Ctx) (t : TypeId) (ps : List (Nat × IV)) : Option AV :=
  match zeroIV G t with
  | none => none
  | some z => match (G.ti t).kind with
    | .st fs => if fs.all (fun p => (G.ti p.2).size != 0) then match fillA (structPlace G fs) z ps with
        | some cs => some (.im (.agg cs))
        | none => none
      else none
    | .arr _ e => if (G.ti e).size = 0 then none else match fillA (fun i => some (i * (G.ti e).size, (G.ti e).size)) z ps with
        | some cs => some (.im (.agg cs))
        | none => none
    | _ => none

def yBuildSlice (G : Ctx) (t : TypeId) (len : Nat) (ps : List (Nat × IV)) : Option AV :=
  if (G.ti t).size = 0 then none else
  match (G.ti t).kind with
  | .sl e => match zeroIV G e with
    | none => none
    | some _ => match fullEls (G.ti e).size 0 ps with
      | some es => if es.length = len ∧ len * (G.ti e).size ≤ 16777216 then some (.sx es) else none
      | none => none
  | _ => none

def bnd : Option AV → Nat → Option Int
  | none, d => some d
  | some (.im (.sc (.int _ n))), _ => some n
  | _, _ => none
def ySlice (G : Ctx) (t : TypeId) (x : AV) (lo hi : Option AV) : Option AV :=
  if (G.ti t).size = 0 then none else
  match (G.ti t).kind with
  | .sl e =>
    if (G.ti e).size = 0 then none else
    match x with
    | .osl d s i m => match bnd lo 0, bnd hi m with
      | some l, some h => if 0 ≤ l ∧ l ≤ h ∧ h ≤ (m : Int) ∧ s = (G.ti e).size then some (.osl d s (i + l.toNat) (h - l).toNat) else none
      | _, _ => none
    | x => match sliceEls x with
      | some es => match bnd lo 0, bnd hi es.length with
        | some l, some h => if 0 ≤ l ∧ l ≤ h ∧ h ≤ (es.length : Int) ∧ es.all (fun c => c.length == (G.ti e).size) = true then some (.im (.sl ((es.drop l.toNat).take (h.toNat - l.toNat)))) else none
        | _, _ => none
      | none => none
  | _ => none

def yLen (G : Ctx) (t : TypeId) (x : AV) : Option AV :=
  if (G.ti t).size = 0 then none else
  match (G.ti t).kind with
  | .sl _ => match x with
    | .osl _ _ _ n => some (.im (.sc (.int .i64 n)))
    | x => match sliceEls x with
      | some es => some (.im (.sc (.int .i64 es.length)))
      | none => none
  | .str => match x with
    | .im (.sc (.string s)) => some (.im (.sc (.int .i64 s.size)))
    | _ => none
  | _ => none

def yIndex (G : Ctx) (t : TypeId) (x : AV) (n : Int) : Option AV :=
  if (G.ti t).size = 0 then none else
  match (G.ti t).kind with
  | .arr len e => if (G.ti e).size = 0 then none else
    if 0 ≤ n ∧ n < (len : Int) then match x with
      | .im (.agg cs) => cellsAt G e cs (n.toNat * (G.ti e).size)
      | _ => none
    else none
  | .str => match x with
    | .im (.sc (.string s)) => if 0 ≤ n then match s[n.toNat]? with
        | some b => some (.im (.sc (.int .u8 b.toNat)))
        | none => none
      else none
    | _ => none
  | _ => none

def yv (G : Ctx) (st : St) (o : Oper) : Option AV :=
  match o.op with
  | .move x => some (evO st x)
  | .assign x => some (evO st x)
  | .pick c a b => match evO st c with
    | .im (.sc (.bool t)) => some (if t = true then evO st a else evO st b)
    | _ => none
  | .binOp op t x y _ => match evO st x, evO st y with
    | .im (.sc a), .im (.sc b) => match scBin G op t a b with
      | some v => some (.im (.sc v))
      | none => none
    | .im (.agg xs), .im (.agg ys) => match aggBin G op t xs ys with
      | some v => some (.im (.sc v))
      | none => none
    | _, _ => none
  | .unOp op _ x => match evO st x with
    | .im (.sc a) => match scUn op a with
      | some v => some (.im (.sc v))
      | none => none
    | _ => none
  | .nilCheck x => match evO st x with
    | .im (.ip cs j) => some (.im (.ip cs j))
    | .im (.clo f cs) => some (.im (.clo f cs))
    | .loc d s i j => some (.loc d s i j)
    | _ => none
  | .load t p => yLoad G st t (evO st p)
  | .fieldAddr t x f => match yField G t f with
    | some (off, _) => match evO st x with
      | .im (.ip c j) => some (.im (.ip c (j + off)))
      | .loc d s i j => some (.loc d s i (j + off))
      | _ => none
    | none => none
  | .field t x f => match yField G t f with
    | some (off, ty) => match evO st x with
      | .im (.agg cs) => cellsAt G ty cs off
      | _ => none
    | none => none
  | .indexAddr t x i => match evO st i with
    | .im (.sc (.int _ n)) => yIndexAddr G t (evO st x) n
    | _ => none
  | .index t x i => match evO st i with
    | .im (.sc (.int _ n)) => yIndex G t (evO st x) n
    | _ => none
  | .extract x k => match evO st x with
    | .im (.tup vs) => match vs[k]? with
      | some y => some (.im y)
      | none => none
    | _ => none
  | .build t ps => match ivParts st ps.toList with
    | some qs => yBuild G t qs
    | none => none
  | .buildSlice t len ps => match ivParts st ps.toList with
    | some qs => yBuildSlice G t len qs
    | none => none
  | .convert src dst x => if (G.ti src).size = 0 ∨ (G.ti dst).size = 0 then none else
    match (G.ti dst).kind, evO st x with
    | .it k, .im (.sc (.int _ n)) => some (.im (.sc (.int k (k.wrap n))))
    | _, _ => none
  | .slice t x lo hi mx => if mx.isSome then none else ySlice G t (evO st x) (lo.map (evO st)) (hi.map (evO st))
  | .makeFunc fn first caps => match fn with
    | .func f => if first.size = 0 then match ivsOf (caps.toList.map (evO st)) with
        | some xs => some (.im (.clo f xs))
        | none => none
      else none
    | _ => none
  | .call c => match c.callee with
    | .builtin b => match b with
      | .len => match c.argTypes.toList, c.args.toList with
        | [t], [x] => yLen G t (evO st x)
        | _, _ => none
      | .min => match scs (c.args.toList.map (evO st)) with
        | some (x :: r) => match scFold scMin2 x r with
          | some v => some (.im (.sc v))
          | none => none
        | _ => none
      | .max => match scs (c.args.toList.map (evO st)) with
        | some (x :: r) => match scFold scMax2 x r with
          | some v => some (.im (.sc v))
          | none => none
        | _ => none
      | _ => none
    | _ => none
  | _ => none
end Go.Abs
