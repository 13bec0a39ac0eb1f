/-
  The operations that compute a value, all of them in one function, and that the machine does what it says. Program-independent. The generic layer under all claims of this repo: 6 of several.
-/
import Derived.Test.YtnjkhiafjcajaaaGreatKX0
namespace Go.Abs
set_option linter.all false
open Go.RowKit (Below)

/-- A whole slice of a row, as one that is read and written alone. -/
def AV.soft : AV → AV
  | .gsl d _ s n => .osl d s 0 n
  | .im (.ref b _ s n) => .osl (hp b) s 0 n
  | x => x
theorem RepA.soft {w : World} {M : Nat → Nat → Prop} {β : Nat → Option Nat} {toks : List (Nat × Nat × Nat)} {av : AV} {v : Value} (hβ : ∀ b, β (hp b) = some b) (h : RepA w M β toks av v) : RepA w M β toks av.soft v := by
  cases av with
  | gsl d e s n =>
    obtain ⟨b, cap, cur, h1, h2, _, h3, _⟩ := h
    exact ⟨_, cap, h3, h2, fun _ => ⟨b, h1, by simp⟩⟩
  | im x => cases x with
    | ref b e s n =>
      cases h with
      | ref _ _ _ _ cap cur h1 h2 h3 h4 => exact ⟨_, cap, h2, rfl, fun _ => ⟨b, hβ b, by simp⟩⟩
    | _ => exact h
  | _ => exact h
/-- A pointer into a block that may be written, as one into its row. -/
def AV.dp : AV → AV
  | .im (.pr b s i j) => .loc (hp b) s i j
  | x => x
theorem RepA.dp {w : World} {M : Nat → Nat → Prop} {β : Nat → Option Nat} {toks : List (Nat × Nat × Nat)} {av : AV} {v : Value} (hβ : ∀ b, β (hp b) = some b) (h : RepA w M β toks av v) : RepA w M β toks av.dp v := by
  cases av with
  | im x => cases x with
    | pr b s i j =>
      cases h with
      | pr => exact ⟨b, hβ b, rfl⟩
    | _ => exact h
  | _ => exact h
/-- The same, but that a slice cut from its beginning stays whole. -/
def AV.soft2 : AV → Option AV → AV
  | .gsl d e s n, none => .gsl d e s n
  | .im (.ref b e s n), none => .im (.ref b e s n)
  | x, _ => x.soft
theorem RepA.soft2 {w : World} {M : Nat → Nat → Prop} {β : Nat → Option Nat} {toks : List (Nat × Nat × Nat)} {av : AV} {v : Value} (hβ : ∀ b, β (hp b) = some b) (h : RepA w M β toks av v) (lo : Option AV) : RepA w M β toks (av.soft2 lo) v := by
  cases lo with
  | none => cases av with
    | im x => cases x <;> exact h
    | _ => exact h
  | some l =>
    have := h.soft hβ
    cases av with
    | im x => cases x <;> exact this
    | _ => exact this
theorem soft_not {x : AV} : (∀ d e s n, x.soft ≠ .gsl d e s n) ∧ ∀ b e s n, x.soft ≠ .im (.ref b e s n) := by
  refine ⟨fun d e s n h => ?_, fun b e s n h => ?_⟩ <;> (cases x with
    | im y => cases y <;> simp [AV.soft] at h
    | _ => simp [AV.soft] at h)
theorem soft2_some {x l : AV} : x.soft2 (some l) = x.soft := by
  cases x with
  | im y => cases y <;> rfl
  | _ => rfl
theorem soft2_gsl {x : AV} {lo : Option AV} {d e s n : Nat} (h : x.soft2 lo = .gsl d e s n) : lo = none := by
  cases lo with
  | none => rfl
  | some l => rw [soft2_some] at h; exact absurd h (soft_not.1 d e s n)
theorem soft2_ref {x : AV} {lo : Option AV} {d e s n : Nat} (h : x.soft2 lo = .im (.ref d e s n)) : lo = none := by
  cases lo with
  | none => rfl
  | some l => rw [soft2_some] at h; exact absurd h (soft_not.2 d e s n)
def sliceEls : AV → Option (List (List IV))
  | .im (.sl es) | .sx es | .vec _ _ _ es => some es
  | .im .emp => some []
  | _ => none
def ivOf : AV → Option IV
  | .im x => some x
  | .sx es | .vec _ _ _ es => some (.sl es)
  | _ => none
theorem ivOf_rep {w M β toks av v x} (h : RepA w M β toks av v) (hx : ivOf av = some x) : Rep w M x v := by
  cases av <;> simp only [ivOf, Option.some.injEq] at hx <;> first | (cases hx; done) | (subst hx; first | exact h | exact h.1)
theorem sliceEls_rep {w M β toks av v es} (h : RepA w M β toks av v) (hx : sliceEls av = some es) : Rep w M (.sl es) v := by
  unfold sliceEls at hx
  split at hx <;> first | (cases hx; done) | skip
  · cases hx; exact h
  · cases hx; exact h.1
  · cases hx; exact h.1
  · cases hx
    cases h with
    | emp a => exact .nil _ _

def ivsOf : List AV → Option (List IV)
  | [] => some []
  | a :: r => match ivOf a, ivsOf r with
    | some x, some xs => some (x :: xs)
    | _, _ => none
def ivParts (st : St) : List (Nat × Operand) → Option (List (Nat × IV))
  | [] => some []
  | (i, a) :: r => match ivOf (evO st a), ivParts st r with
    | some x, some xs => some ((i, x) :: xs)
    | _, _ => none
/-- The parts are the elements 0, 1, .., s cells each. -/
def fullEls (s : Nat) : Nat → List (Nat × IV) → Option (List (List IV))
  | _, [] => some []
  | k, (i, x) :: r => if i = k ∧ (cellsOf x).length = s ∧ (cellsOf x).all IV.one = true then match fullEls s (k + 1) r with
      | some es => some (cellsOf x :: es)
      | none => none
    else none

def yIndexAddr (G : Ctx) (t : TypeId) (x : AV) (n : Int) : Option AV :=
  if (G.ti t).size = 0 then none else
  match (G.ti t).kind with
  | .sl e =>
    if (G.ti e).size = 0 then none else
    match x.soft with
    | .osl d s i m => if 0 ≤ n ∧ n < (m : Int) ∧ s = (G.ti e).size then some (.loc d s (i + n.toNat) 0) else none
    | x => match sliceEls x with
      | some es => if 0 ≤ n then match es[n.toNat]? with
          | some c => if c.length = (G.ti e).size then some (.im (.ip c 0)) else none
          | none => none
        else none
      | none => none
  | .arr len e =>
    if (G.ti e).size = 0 then none else
    if 0 ≤ n ∧ n < (len : Int) then
      match x.dp with
      | .loc d s i j => some (.loc d s i (j + n.toNat * (G.ti e).size))
      | .im (.ip c j) => some (.im (.ip c (j + n.toNat * (G.ti e).size)))
      | _ => none
    else none
  | _ => none

def yField (G : Ctx) (t : TypeId) (f : Nat) : Option (Nat × TypeId) :=
  if (G.ti t).size = 0 then none else
  match (G.ti t).kind with
  | .st fs => match fs[f]? with
    | some (off, ty) => if (G.ti ty).size = 0 then none else some (off, ty)
    | none => none
  | _ => none

def yLoad (G : Ctx) (st : St) (t : TypeId) (p : AV) : Option AV :=
  if (G.ti t).size = 0 then none else
  match p.dp with
  | .im (.ip c j) => cellsAt G t c j
  | .loc d s i j => match look st.rows d with
    | some (s', es) => if s' = s then match es[i]? with
        | some c => cellsAt G t c j
        | none => none
      else none
    | none => none
  | _ => none

def zeroIV (G : Ctx) (t : TypeId) : Option (List IV) :=
  if (G.ti t).size = 0 then none else
  if (G.ti t).zero.contains .no then none else some ((G.ti t).zero.map (ZC.ivG G.emp))

def structPlace (G : Ctx) (fs : List (Nat × TypeId)) (i : Nat) : Option (Nat × Nat) :=
  match fs[i]? with
  | some (off, ty) => some (off, (G.ti ty).size)
  | none => none
def yBuild (G : Ctx) (t : TypeId) (ps : List (Nat × IV)) : Option AV :=
  match zeroIV G t with
  | none => none
  | some z => match (G.ti t).kind with
    | .st fs => if fs.all (fun p => (G.ti p.2).size != 0) then match fillA (structPlace G fs) z ps with
        | some cs => some (.im (.agg cs))
        | none => none
      else none
    | .arr _ e => if (G.ti e).size = 0 then none else match fillA (fun i => some (i * (G.ti e).size, (G.ti e).size)) z ps with
        | some cs => some (.im (.agg cs))
        | none => none
    | _ => none

def yBuildSlice (G : Ctx) (t : TypeId) (len : Nat) (ps : List (Nat × IV)) : Option AV :=
  if (G.ti t).size = 0 then none else
  match (G.ti t).kind with
  | .sl e => match zeroIV G e with
    | none => none
    | some _ => match fullEls (G.ti e).size 0 ps with
      | some es => if es.length = len ∧ len * (G.ti e).size ≤ 16777216 then some (.sx es) else none
      | none => none
  | _ => none

def bnd : Option AV → Nat → Option Int
  | none, d => some d
  | some (.im (.sc (.int _ n))), _ => some n
  | _, _ => none
def ySlice (G : Ctx) (t : TypeId) (x : AV) (lo hi : Option AV) : Option AV :=
  if (G.ti t).size = 0 then none else
  match (G.ti t).kind with
  | .sl e =>
    if (G.ti e).size = 0 then none else
    match x.soft2 lo with
    | .gsl d e' s m => match bnd hi m with
      | some h => if 0 ≤ h ∧ h ≤ (m : Int) then some (.gsl d e' s h.toNat) else none
      | none => none
    | .im (.ref b e' s m) => match bnd hi m with
      | some h => if 0 ≤ h ∧ h ≤ (m : Int) then some (.im (.ref b e' s h.toNat)) else none
      | none => none
    | .osl d s i m => match bnd lo 0, bnd hi m with
      | some l, some h => if 0 ≤ l ∧ l ≤ h ∧ h ≤ (m : Int) ∧ s = (G.ti e).size then some (.osl d s (i + l.toNat) (h - l).toNat) else none
      | _, _ => none
    | x => match sliceEls x with
      | some es => match bnd lo 0, bnd hi es.length with
        | some l, some h => if 0 ≤ l ∧ l ≤ h ∧ h ≤ (es.length : Int) ∧ es.all (fun c => c.length == (G.ti e).size) = true then some (.im (.sl ((es.drop l.toNat).take (h.toNat - l.toNat)))) else none
        | _, _ => none
      | none => none
  | _ => none

def yLen (G : Ctx) (t : TypeId) (x : AV) : Option AV :=
  if (G.ti t).size = 0 then none else
  match (G.ti t).kind with
  | .sl _ => match x.soft with
    | .osl _ _ _ n => some (.im (.sc (.int .i64 n)))
    | x => match sliceEls x with
      | some es => some (.im (.sc (.int .i64 es.length)))
      | none => none
  | .str => match x with
    | .im (.sc (.string s)) => some (.im (.sc (.int .i64 s.size)))
    | _ => none
  | _ => none

def yIndex (G : Ctx) (t : TypeId) (x : AV) (n : Int) : Option AV :=
  if (G.ti t).size = 0 then none else
  match (G.ti t).kind with
  | .arr len e => if (G.ti e).size = 0 then none else
    if 0 ≤ n ∧ n < (len : Int) then match x with
      | .im (.agg cs) => cellsAt G e cs (n.toNat * (G.ti e).size)
      | _ => none
    else none
  | .str => match x with
    | .im (.sc (.string s)) => if 0 ≤ n then match s[n.toNat]? with
        | some b => some (.im (.sc (.int .u8 b.toNat)))
        | none => none
      else none
    | _ => none
  | _ => none

/-! ### Maps -/
def intsI : List IV → Option (List Int)
  | [] => some []
  | .sc (.int .i64 n) :: r => match intsI r with
    | some ns => some (n :: ns)
    | none => none
  | _ => none
def keyI : AV → Option (List Int)
  | .im (.agg xs) => intsI xs
  | _ => none
/-- What a value is for a map: one number, or several. -/
def valI : AV → Option (Bool × List Int)
  | .im (.sc (.int .i64 n)) => some (true, [n])
  | .im (.agg xs) => match intsI xs with
    | some ns => some (false, ns)
    | none => none
  | _ => none
def ivs : List Int → List IV
  | [] => []
  | n :: l => .int n :: ivs l
theorem ivs_eq : ∀ l, ivs l = l.map fun n => .int n
  | [] => rfl
  | n :: l => by rw [ivs, ivs_eq l]; rfl
def elemI (b : Bool) (v : List Int) : IV := if b = true then .int (v.headD 0) else .agg (ivs v)
theorem elemI_true (n : Int) (l : List Int) : elemI true (n :: l) = .int n := rfl
theorem elemI_false (v : List Int) : elemI false v = .agg (ivs v) := rfl
def mapOf (st : St) : AV → Option ((Nat × Bool) × List (List Int × List Int))
  | .im (.mp sc kvs) => some (sc, kvs)
  | .mpo d sc kvs => if look st.toks d = some (0, 0) then some (sc, kvs) else none
  | _ => none
def zeroE (G : Ctx) (e : TypeId) : Option IV :=
  match zeroIV G e with
  | some z => if aggK (G.ti e).kind = true then some (.agg z) else match z with
    | [x] => some x
    | _ => none
  | none => none
/-- How many numbers. -/
def nlen : List Int → Nat
  | [] => 0
  | _ :: l => nlen l + 1
def isMp : TK → Bool
  | .mp _ _ => true
  | _ => false
def yLenM (G : Ctx) (t : TypeId) (m : Option ((Nat × Bool) × List (List Int × List Int))) : Option AV :=
  if (G.ti t).size = 0 then none else match m with
  | some (_, kvs) => some (.im (.int kvs.length))
  | none => none
def yLookup (G : Ctx) (t : TypeId) (m : Option ((Nat × Bool) × List (List Int × List Int))) (k : Option (List Int)) (ok : Bool) : Option AV :=
  if (G.ti t).size = 0 then none else
  match m, k, (G.ti t).kind with
  | some (sc, kvs), some x, .mp kt e => match keyN G kt with
    | some n => if n = nlen x ∧ (kvs = [] ∨ sc.1 = n) then match mget kvs x with
        | some v => some (if ok = true then .im (.tup [elemI sc.2 v, .bool true]) else .im (elemI sc.2 v))
        | none => match zeroE G e with
          | some z => some (if ok = true then .im (.tup [z, .bool false]) else .im z)
          | none => none
      else none
    | none => none
  | _, _, _ => none


def yv (G : Ctx) (st : St) (o : Oper) : Option AV :=
  match o.op with
  | .move x => some (evO st x)
  | .assign x => some (evO st x)
  | .pick c a b => match evO st c with
    | .im (.sc (.bool t)) => some (if t = true then evO st a else evO st b)
    | _ => none
  | .binOp op t x y _ => match evO st x, evO st y with
    | .im (.sc a), .im (.sc b) => match scBin G op t a b with
      | some v => some (.im (.sc v))
      | none => none
    | .im (.agg xs), .im (.agg ys) => match aggBin G op t xs ys with
      | some v => some (.im (.sc v))
      | none => none
    | _, _ => none
  | .unOp op _ x => match evO st x with
    | .im (.sc a) => match scUn op a with
      | some v => some (.im (.sc v))
      | none => none
    | _ => none
  | .nilCheck x => match (evO st x).dp with
    | .im (.ip cs j) => some (.im (.ip cs j))
    | .im (.clo f cs) => some (.im (.clo f cs))
    | .loc d s i j => some (.loc d s i j)
    | _ => none
  | .load t p => yLoad G st t (evO st p)
  | .fieldAddr t x f => match yField G t f with
    | some (off, _) => match (evO st x).dp with
      | .im (.ip c j) => some (.im (.ip c (j + off)))
      | .loc d s i j => some (.loc d s i (j + off))
      | _ => none
    | none => none
  | .field t x f => match yField G t f with
    | some (off, ty) => match evO st x with
      | .im (.agg cs) => cellsAt G ty cs off
      | _ => none
    | none => none
  | .indexAddr t x i => match evO st i with
    | .im (.sc (.int _ n)) => yIndexAddr G t (evO st x) n
    | _ => none
  | .index t x i => match evO st i with
    | .im (.sc (.int _ n)) => yIndex G t (evO st x) n
    | _ => none
  | .extract x k => match evO st x with
    | .im (.tup vs) => match vs[k]? with
      | some y => some (.im y)
      | none => none
    | _ => none
  | .build t ps => match ivParts st ps.toList with
    | some qs => yBuild G t qs
    | none => none
  | .buildSlice t len ps => match ivParts st ps.toList with
    | some qs => yBuildSlice G t len qs
    | none => none
  | .convert src dst x => if (G.ti src).size = 0 ∨ (G.ti dst).size = 0 then none else
    match (G.ti dst).kind, evO st x with
    | .it k, .im (.sc (.int _ n)) => some (.im (.sc (.int k (k.wrap n))))
    | _, _ => none
  | .lookup t m k ok => yLookup G t (mapOf st (evO st m)) (keyI (evO st k)) ok
  | .slice t x lo hi mx => if mx.isSome then none else ySlice G t (evO st x) (lo.map (evO st)) (hi.map (evO st))
  | .makeFunc fn first caps => match fn with
    | .func f => if first.size = 0 then match ivsOf (caps.toList.map (evO st)) with
        | some xs => some (.im (.clo f xs))
        | none => none
      else none
    | _ => none
  | .call c => match c.callee with
    | .builtin b => match b with
      | .len => match c.argTypes.toList, c.args.toList with
        | [t], [x] => if isMp (G.ti t).kind = true then yLenM G t (mapOf st (evO st x)) else yLen G t (evO st x)
        | _, _ => none
      | .min => match scs (c.args.toList.map (evO st)) with
        | some (x :: r) => match scFold scMin2 x r with
          | some v => some (.im (.sc v))
          | none => none
        | _ => none
      | .max => match scs (c.args.toList.map (evO st)) with
        | some (x :: r) => match scFold scMax2 x r with
          | some v => some (.im (.sc v))
          | none => none
        | _ => none
      | _ => none
    | _ => none
  | _ => none
end Go.Abs

namespace Go.Abs
set_option linter.all false
open Go.RowKit (Below)

section
variable {G : Ctx} {N : Nat} {w0 : Base} {w : World} {M M0 : Nat → Nat → Prop} {β : Nat → Option Nat} {st : St} {a : Act} {toks : List (Nat × Nat × Nat)} {av : AV} {v : Value}

theorem Sim.mlt (h : Sim N w0 M0 β st a w) {b o : Nat} (hm : Mo M0 β st b o) : b < w.heap.size := by
  rcases hm with hm | ⟨d, s, es, hd, hb⟩ | ⟨d, s, n, hd, hb, _⟩
  · exact Nat.lt_of_lt_of_le (w0.lt _ (h.m0 b o hm)) h.below.size
  · obtain ⟨b', hb', _, cur, T, hc, _⟩ := h.rows d s es hd
    rw [hb] at hb'; cases hb'
    exact (Array.getElem?_eq_some_iff.1 hc).1
  · exact (h.toks d s n hd b hb).2

theorem Rep.sl_inv {es : List (List IV)} (h : Rep w M (.sl es) v) : (es = [] ∧ ∃ a c, v = .slice a 0 c) ∨
    ∃ (s b o c : Nat) (u : Nat → Nat → Value), es ≠ [] ∧ (∀ e ∈ es, e.length = s) ∧ es.length ≤ c ∧
      (∀ (i : Nat) e (j : Nat) x, es[i]? = some e → e[j]? = some x → x.one = true ∧ w.cell? ⟨b, o + i * s + j, none⟩ = some (u i j) ∧ ¬ M b (o + i * s + j)) ∧
      (∀ (i : Nat) e (j : Nat) x, es[i]? = some e → e[j]? = some x → Rep w M x (u i j)) ∧ v = .slice (some ⟨b, o, none⟩) es.length c := by
  cases h with
  | nil a c => exact .inl ⟨rfl, a, c, rfl⟩
  | sl _ s b o c u h1 h2 h3 h4 h5 => exact .inr ⟨s, b, o, c, u, h1, h2, h3, h4, h5, rfl⟩

theorem Rep.sl_len {es : List (List IV)} (h : Rep w M (.sl es) v) : ∃ a c, v = .slice a es.length c ∧ es.length ≤ c := by
  rcases h.sl_inv with ⟨rfl, a, c, rfl⟩ | ⟨s, b, o, c, u, _, _, h3, _, _, rfl⟩
  · exact ⟨a, c, rfl, Nat.zero_le _⟩
  · exact ⟨_, c, rfl, h3⟩

/-- Element i of a slice that is only read, as a pointer. -/
theorem Rep.sl_at {es : List (List IV)} {c : List IV} {i : Nat} (h : Rep w M (.sl es) v) (hi : es[i]? = some c) :
    ∃ b o cap, v = .slice (some ⟨b, o, none⟩) es.length cap ∧ Rep w M (.ip c 0) (.pointer (some ⟨b, o + i * c.length, none⟩)) := by
  rcases h.sl_inv with ⟨rfl, _⟩ | ⟨s, b, o, cap, u, _, hs, _, h4, h5, rfl⟩
  · simp at hi
  · refine ⟨b, o, cap, rfl, ?_⟩
    rw [hs c (List.mem_of_getElem? hi)]
    exact .ip c 0 b (o + i * s) (u i) (fun k x hx => h4 i c k x hi hx) (fun k x hx => h5 i c k x hi hx)

theorem ip_inv {cs : List IV} {j : Nat} (h : Rep w M (.ip cs j) v) : ∃ (b o : Nat) (u : Nat → Value), v = .pointer (some ⟨b, o + j, none⟩) ∧
    (∀ (k : Nat) x, cs[k]? = some x → x.one = true ∧ w.cell? ⟨b, o + k, none⟩ = some (u k) ∧ ¬ M b (o + k)) ∧ (∀ (k : Nat) x, cs[k]? = some x → Rep w M x (u k)) := by
  cases h with
  | ip _ _ b o u h1 h2 => exact ⟨b, o, u, rfl, h1, h2⟩
theorem ip_move {cs : List IV} {j k : Nat} (h : Rep w M (.ip cs j) v) : ∃ b o, v = .pointer (some ⟨b, o, none⟩) ∧ Rep w M (.ip cs (j + k)) (.pointer (some ⟨b, o + k, none⟩)) := by
  obtain ⟨b, o, u, rfl, h1, h2⟩ := ip_inv h
  exact ⟨b, o + j, rfl, by rw [Nat.add_assoc]; exact .ip cs (j + k) b o u h1 h2⟩

/-! ### load -/
theorem row_cells {b s : Nat} {es : List (List IV)} {c : List IV} {i : Nat} (h : RowRep w M b s es) (hi : es[i]? = some c) :
    ∃ u : Nat → Value, ∀ k x, c[k]? = some x → x.one = true ∧ w.cell? ⟨b, i * s + k, none⟩ = some (u k) ∧ Rep w M x (u k) := by
  obtain ⟨cur, T, hc, _, h3⟩ := h
  refine ⟨fun k => cur.getD (i * s + k) undef, fun k x hx => ?_⟩
  obtain ⟨ho, u, hu, hr⟩ := h3 i c k x hi hx
  have e : cur.getD (i * s + k) undef = u := by simp [hu]
  refine ⟨ho, ?_, by show Rep w M x (cur.getD (i * s + k) undef); rw [e]; exact hr⟩
  show _ = some (cur.getD (i * s + k) undef)
  rw [cell_of_row w b _ cur T _ hc, e, hu]

theorem yLoad_run (hG : G.Ok) (h : Sim N w0 M0 β st a w) {t : TypeId} {p av : AV} {pv : Value} (hp : RepA w (Mo M0 β st) β st.toks p pv) (hy : yLoad G st t p = some av) :
    ∃ v, (Instr.loadAt t pv).run G.P w = .ok v w ∧ RepA w (Mo M0 β st) β st.toks av v := by
  unfold yLoad at hy
  replace hp := hp.dp h.perm
  generalize p.dp = p at hp hy
  split at hy
  · cases hy
  · rename_i h0
    split at hy
    · rename_i c j
      obtain ⟨b, o, u, rfl, h1, h2⟩ := ip_inv hp
      obtain ⟨v, x, hr, rfl, hx⟩ := run_loadVar_cells hG h0 (M := Mo M0 β st) (b := b) (o := o) (u := u) (w := w) (fun k x hx => ⟨(h1 k x hx).1, (h1 k x hx).2.1, h2 k x hx⟩) hy
      exact ⟨v, by simpa [Instr.loadAt, Instr.sureAddr] using hr, hx⟩
    · rename_i d s i j
      split at hy
      · rename_i s' es hd
        split at hy
        · rename_i hs
          subst hs
          split at hy
          · rename_i c hi
            obtain ⟨b, hb, rfl⟩ := hp
            obtain ⟨b', hb', _, hrow⟩ := h.rows d s' es hd
            rw [hb] at hb'; cases hb'
            obtain ⟨u, hu⟩ := row_cells hrow hi
            obtain ⟨v, x, hr, rfl, hx⟩ := run_loadVar_cells hG h0 (M := Mo M0 β st) (b := b) (o := i * s') (u := u) (w := w) hu hy
            exact ⟨v, by simpa [Instr.loadAt, Instr.sureAddr] using hr, hx⟩
          · cases hy
        · cases hy
      · cases hy
    · cases hy

/-! ### fieldAddr, field -/
theorem yField_run (hG : G.Ok) {t : TypeId} {f off : Nat} {ty : TypeId} (hy : yField G t f = some (off, ty)) :
    ∃ gs fd, G.P.underlying t = some (.struct gs) ∧ gs[f]? = some fd ∧ fd.offset = off ∧ fd.type = ty ∧ (G.ti ty).size ≠ 0 := by
  unfold yField at hy
  split at hy
  · cases hy
  · rename_i h0
    split at hy
    · rename_i fs hk
      split at hy
      · rename_i off' ty' hf
        split at hy
        · cases hy
        · rename_i h1
          cases hy
          obtain ⟨gs, hu, hgs⟩ := hG.st h0 hk
          rw [← hgs, List.getElem?_map] at hf
          obtain ⟨fd, hfd, e⟩ := Option.map_eq_some_iff.1 hf
          simp only [Prod.mk.injEq] at e
          exact ⟨gs, fd, hu, by simpa using hfd, e.1, e.2, h1⟩
      · cases hy
    · cases hy

theorem fieldAt_run (hG : G.Ok) {t : TypeId} {f off : Nat} {ty : TypeId} (hy : yField G t f = some (off, ty)) (b o : Nat) :
    (Instr.fieldAt t (.pointer (some ⟨b, o, none⟩)) f).run G.P w = .ok (.pointer (some ⟨b, o + off, none⟩)) w := by
  obtain ⟨gs, fd, hu, hf, rfl, rfl, h1⟩ := yField_run hG hy
  simp only [Instr.fieldAt, Sem.run_bind, run_underlying hu, Result.andThen_ok, hf, Instr.sureAddr, Sem.run_pure, fieldPlace, hG.size h1, h1, if_false, Addr.add_lit]

theorem part_run (hG : G.Ok) {t : TypeId} (h0 : (G.ti t).size ≠ 0) {cs : List IV} {us : Array Value} {off : Nat} {av : AV} (h : RepL w M cs us.toList) (ho : ∀ x ∈ cs, x.one = true) (hc : cellsAt G t cs off = some av) :
    ∃ v x, (part t us off).run G.P w = .ok v w ∧ av = .im x ∧ Rep w M x v := by
  unfold cellsAt at hc
  unfold part
  simp only [Sem.run_bind, hG.isAgg h0, Result.andThen_ok]
  have hl : cs.length = us.size := by simpa using h.1
  split at hc
  · rename_i hk
    split at hc
    · rename_i hle
      cases hc
      refine ⟨.agg (us.extract off (off + (G.ti t).size)), _, ?_, rfl, ?_⟩
      · simp only [hk, if_true, Sem.run_bind, hG.size h0, Result.andThen_ok, Sem.run_pure]
      · refine .agg _ _ (by simp; omega) (fun x hx => ho x (List.mem_of_mem_drop (List.mem_of_mem_take hx))) (fun k x v hx hv => ?_)
        rw [List.getElem?_take] at hx
        split at hx
        · rename_i hkl
          rw [List.getElem?_drop] at hx
          refine h.2 (off + k) x v hx ?_
          rw [Array.getElem?_extract] at hv
          split at hv
          · simpa using hv
          · cases hv
        · cases hx
    · cases hc
  · rename_i hk
    split at hc
    · rename_i x hx
      cases hc
      have hlt : off < us.size := by rw [← hl]; exact (List.getElem?_eq_some_iff.1 hx).1
      refine ⟨us[off], x, ?_, rfl, h.2 off x _ hx (by simp [hlt])⟩
      simp only [hk, Bool.false_eq_true, if_false, Array.getElem?_eq_getElem hlt, Sem.run_pure]
    · cases hc

/-! ### indexAddr, index -/
theorem yIndexAddr_run (hG : G.Ok) (hβ : ∀ b, β (hp b) = some b) {t : TypeId} {x av : AV} {xv : Value} {n : Int} {k : IntKind} (hx : RepA w M β toks x xv) (hy : yIndexAddr G t x n = some av) :
    ∃ v, (Instr.indexAt t xv (.int k n)).run G.P w = .ok v w ∧ RepA w M β toks av v := by
  unfold yIndexAddr at hy
  split at hy
  · cases hy
  · rename_i h0
    split at hy
    · rename_i e hk
      have hu := hG.sl h0 hk
      split at hy
      · cases hy
      · rename_i h1
        have hel : G.P.elem t = e := by simp [Program.elem, hu]
        have hu' : G.P.underlying t = some (.slice (G.P.elem t)) := by rw [hel]; exact hu
        replace hx := hx.soft hβ
        generalize x.soft = x at hx hy
        split at hy
        · rename_i d s i m
          split at hy
          · rename_i hc
            obtain ⟨hc1, hc2, hc3⟩ := hc
            cases hy
            obtain ⟨ad, c, hmc, rfl, had⟩ := hx
            obtain ⟨b, hb, rfl⟩ := had (by omega)
            refine ⟨_, by rw [run_indexAt_slice w t _ m c k n hu', if_pos ⟨hc1, hc2⟩, hel, hG.size h1, Result.andThen_ok], b, hb, ?_⟩
            rw [Addr.add_lit, ← hc3, ← Nat.add_mul]; rfl
          · cases hy
        · rename_i x _
          split at hy
          · rename_i es hes
            have hr := sliceEls_rep hx hes
            split at hy
            · rename_i hn
              split at hy
              · rename_i c hi
                split at hy
                · rename_i hlen
                  cases hy
                  obtain ⟨b, o, cap, rfl, hp⟩ := hr.sl_at hi
                  have hlt : n.toNat < es.length := (List.getElem?_eq_some_iff.1 hi).1
                  refine ⟨_, by rw [run_indexAt_slice w t _ es.length cap k n hu', if_pos ⟨hn, by omega⟩, hel, hG.size h1, Result.andThen_ok], ?_⟩
                  rw [Addr.add_lit, ← hlen]; exact hp
                · cases hy
              · cases hy
            · cases hy
          · cases hy
    · rename_i len e hk
      have hu := hG.arr h0 hk
      have hel : G.P.elem t = e := by simp [Program.elem, hu]
      have hln : G.P.arrayLen t = len := by simp [Program.arrayLen, hu]
      have hu' : G.P.underlying t = some (.array (G.P.arrayLen t) (G.P.elem t)) := by rw [hel, hln]; exact hu
      split at hy
      · cases hy
      · rename_i h1
        replace hx := hx.dp hβ
        generalize x.dp = x at hx hy
        split at hy
        · rename_i hc
          split at hy
          · rename_i d s i j
            cases hy
            obtain ⟨b, hb, rfl⟩ := hx
            refine ⟨_, by rw [run_indexAt_array w t _ k n hu', hln, if_pos hc, hel, hG.size h1, Result.andThen_ok], b, hb, ?_⟩
            rw [Addr.add_lit, Nat.add_assoc]
          · rename_i c j
            cases hy
            obtain ⟨b, o, rfl, hp⟩ := ip_move (k := n.toNat * (G.ti e).size) hx
            refine ⟨_, by rw [run_indexAt_array w t _ k n hu', hln, if_pos hc, hel, hG.size h1, Result.andThen_ok], ?_⟩
            rw [Addr.add_lit]; exact hp
          · cases hy
        · cases hy
    · cases hy

theorem yIndex_run (hG : G.Ok) {t : TypeId} {x av : AV} {xv : Value} {n : Int} {k : IntKind} (hx : RepA w M β toks x xv) (hy : yIndex G t x n = some av) :
    ∃ v, (Instr.index t xv (.int k n)).run G.P w = .ok v w ∧ RepA w M β toks av v := by
  unfold yIndex at hy
  split at hy
  · cases hy
  · rename_i h0
    split at hy
    · rename_i len e hk
      have hu := hG.arr h0 hk
      split at hy
      · cases hy
      · rename_i h1
        split at hy
        · rename_i hc
          split at hy
          · rename_i cs
            obtain ⟨us, rfl, hr, ho⟩ := Rep.agg_inv hx
            obtain ⟨v, x, hrun, rfl, hxr⟩ := part_run (w := w) hG h1 hr ho hy
            refine ⟨v, ?_, hxr⟩
            simp only [Instr.index, asIntOf, Sem.run_bind, Sem.run_pure, Result.andThen_ok, run_underlying hu, hc, and_self, if_true, hG.size h1, hrun]
          · cases hy
        · cases hy
    · rename_i hk
      have hu := hG.str h0 hk
      split at hy
      · rename_i s
        split at hy
        · rename_i hn
          split at hy
          · rename_i b hb
            cases hy
            obtain rfl := Rep.sc_inv hx
            refine ⟨_, ?_, Rep.sc _ rfl⟩
            simp only [Instr.index, asIntOf, Sem.run_bind, Sem.run_pure, Result.andThen_ok, run_underlying hu, hn, if_true, hb]
          · cases hy
        · cases hy
      · cases hy
    · cases hy
end
end Go.Abs

namespace Go.Abs
set_option linter.all false
open Go.RowKit (Below)

section
variable {G : Ctx} {N : Nat} {w0 : Base} {w : World} {M M0 : Nat → Nat → Prop} {β : Nat → Option Nat} {st : St} {a : Act} {toks : List (Nat × Nat × Nat)} {av : AV} {v : Value}

/-! ### literals -/
theorem ofZV_rep {z : Value} (h : ofZV z ≠ .no) : Rep w M (ofZV z).iv z ∧ (ofZV z).iv.one = true := by
  unfold ofZV at h ⊢
  split at h
  · exact ⟨.sc _ rfl, rfl⟩
  · exact ⟨.sc _ rfl, rfl⟩
  · rename_i s
    split at h
    · rename_i hs
      simp only [hs, if_true]
      have : s = ByteArray.empty := by
        obtain ⟨⟨l⟩⟩ := s
        have : l = [] := List.eq_nil_of_length_eq_zero hs
        subst this; rfl
      subst this
      exact ⟨.sc _ rfl, rfl⟩
    · exact absurd rfl h
  · exact ⟨.nil _ _, rfl⟩
  · exact absurd rfl h
theorem ofZV_repG (b : Bool) {z : Value} (h : ofZV z ≠ .no) : Rep w M ((ofZV z).ivG b) z ∧ ((ofZV z).ivG b).one = true := by
  have h0 := ofZV_rep (w := w) (M := M) h
  unfold ofZV at h h0 ⊢
  split at h
  · exact h0
  · exact h0
  · rename_i s
    split at h
    · rename_i hs
      simp only [hs, if_true] at h0 ⊢
      exact h0
    · exact absurd rfl h
  · cases b
    · exact h0
    · exact ⟨.emp _, rfl⟩
  · exact absurd rfl h
theorem zero_rep (b : Bool) : ∀ (vs : List Value), (vs.map ofZV).contains .no = false → RepL w M ((vs.map ofZV).map (ZC.ivG b)) vs ∧ ∀ x ∈ (vs.map ofZV).map (ZC.ivG b), x.one = true
  | [], _ => ⟨RepL.nil, by simp⟩
  | v :: vs, h => by
    simp only [List.map_cons, List.contains_cons, Bool.or_eq_false_iff] at h
    obtain ⟨h1, h2⟩ := zero_rep b vs h.2
    have h3 : ofZV v ≠ .no := fun e => by rw [e] at h; simp at h
    obtain ⟨h4, h5⟩ := ofZV_repG (w := w) (M := M) b h3
    exact ⟨RepL.cons h4 h1, by simpa [h5] using h2⟩
theorem zeroIV_run (hG : G.Ok) {t : TypeId} {z : List IV} (h : zeroIV G t = some z) (w : World) (M : Nat → Nat → Prop) :
    ∃ zv, (zeroValue t).run G.P w = .ok zv w ∧ RepL w M z zv.cells.toList ∧ (∀ x ∈ z, x.one = true) ∧ (G.ti t).size ≠ 0 ∧ zv.cells.size = (G.ti t).size := by
  unfold zeroIV at h
  split at h
  · cases h
  · rename_i h0
    split at h
    · cases h
    · rename_i hn
      cases h
      obtain ⟨i, zv, hi, _, _, hz, hzz, hsz⟩ := hG.info h0
      rw [← hzz] at hn ⊢
      obtain ⟨h1, h2⟩ := zero_rep (w := w) (M := M) G.emp zv.cells.toList (by simpa using hn)
      exact ⟨zv, by simp [zeroValue, typeInfo, hi, hz], h1, h2, h0, hsz⟩

theorem ivParts_rep (h : Sim N w0 M0 β st a w) : ∀ {ps : List (Nat × Operand)} {qs : List (Nat × IV)}, ivParts st ps = some qs → RepP w (Mo M0 β st) qs (ps.map fun p => (p.1, a.eval p.2))
  | [], qs, hq => by cases hq; exact ⟨rfl, fun k p q hp => by simp at hp⟩
  | (i, x) :: r, qs, hq => by
    unfold ivParts at hq
    split at hq
    · rename_i y ys h1 h2
      cases hq
      have ih := ivParts_rep h h2
      refine ⟨by simp [ih.1], fun k p q hp hq => ?_⟩
      cases k with
      | zero =>
        simp at hp hq
        subst hp; subst hq
        exact ⟨rfl, ivOf_rep (evO_rep h x) h1⟩
      | succ k => exact ih.2 k p q (by simpa using hp) (by simpa using hq)
    · cases hq

theorem mapM_run {α β : Type} {P : Program} {w : World} (f : α → Sem β) (g : α → β) : ∀ (l : List α), (∀ x ∈ l, (f x).run P w = .ok (g x) w) → (l.mapM f).run P w = .ok (l.map g) w
  | [], _ => rfl
  | x :: l, h => by
    rw [List.mapM_cons, Sem.run_bind, h x (by simp), Result.andThen_ok, Sem.run_bind, mapM_run f g l (fun y hy => h y (by simp [hy])), Result.andThen_ok]
    rfl

theorem yBuild_run (hG : G.Ok) {t : TypeId} {ps : List (Nat × IV)} {qs : Array (Nat × Value)} (hp : RepP w M ps qs.toList) (hy : yBuild G t ps = some av) :
    ∃ v, (Instr.build t qs).run G.P w = .ok v w ∧ RepA w M β toks av v := by
  unfold yBuild at hy
  split at hy
  · cases hy
  · rename_i z hz
    obtain ⟨zv, hzr, hz1, hz2, h0, _⟩ := zeroIV_run hG hz w M
    split at hy
    · rename_i fs hk
      obtain ⟨gs, hu, hgs⟩ := hG.st h0 hk
      split at hy
      · rename_i hall
        split at hy
        · rename_i cs hf
          cases hy
          have hpl : (gs.mapM fun f => do pure (f.offset, ← sizeOf f.type) : Sem (Array (Nat × Nat))).run G.P w = .ok (gs.map fun f => (f.offset, (G.ti f.type).size)) w := by
            rw [Array.mapM_eq_mapM_toList, Sem.run_map, mapM_run _ (fun f => (f.offset, (G.ti f.type).size)) gs.toList (fun f hf' => ?_)]
            · simp only [Result.andThen]
              congr 1
              apply Array.ext'
              simp
            · have : (G.ti f.type).size ≠ 0 := by
                have := List.all_eq_true.1 hall (f.offset, f.type) (by rw [← hgs]; exact List.mem_map_of_mem hf')
                simpa using this
              simp [hG.size this]
          have hpe : (fun i => (gs.map fun f => (f.offset, (G.ti f.type).size))[i]?) = structPlace G fs := by
            funext i
            unfold structPlace
            rw [← hgs, List.getElem?_map]
            simp
            cases gs[i]? <;> rfl
          obtain ⟨ws, h1, h2, h3, _⟩ := fill_rep (w := w) (M := M) (structPlace G fs) ps qs.toList z zv.cells cs hp hz1 hz2 hf
          refine ⟨.agg ws, ?_, RepL.agg h2 h3⟩
          simp only [Instr.build, Sem.run_bind, hzr, Result.andThen_ok, run_underlying hu]
          rw [hpl, Result.andThen_ok, hpe, h1]
          rfl
        · cases hy
      · cases hy
    · rename_i n e hk
      have hu := hG.arr h0 hk
      split at hy
      · cases hy
      · rename_i h1
        split at hy
        · rename_i cs hf
          cases hy
          obtain ⟨ws, h4, h2, h3, _⟩ := fill_rep (w := w) (M := M) _ ps qs.toList z zv.cells cs hp hz1 hz2 hf
          refine ⟨.agg ws, ?_, RepL.agg h2 h3⟩
          simp only [Instr.build, Sem.run_bind, hzr, Result.andThen_ok, run_underlying hu, hG.size h1, h4, Sem.run_pure]
        · cases hy
    · cases hy

/-! ### buildSlice -/
theorem setCells_mid : ∀ (xs A B : List IV), xs.length ≤ B.length → setCells (A ++ B) A.length xs = A ++ xs ++ B.drop xs.length
  | [], A, B, _ => by simp [setCells]
  | x :: xs, A, [], h => by simp at h
  | x :: xs, A, b :: B, h => by
    have e : (A ++ b :: B).set A.length x = (A ++ [x]) ++ B := by simp
    rw [setCells, e]
    have := setCells_mid xs (A ++ [x]) B (by simpa using h)
    simp only [List.length_append, List.length_singleton] at this
    rw [this]; simp
theorem fullEls_fill (s : Nat) (hs : s ≠ 0) : ∀ (ps : List (Nat × IV)) (k : Nat) (es : List (List IV)) (A B : List IV), fullEls s k ps = some es → A.length = k * s → B.length = es.length * s →
    fillA (fun i => some (i * s, s)) (A ++ B) ps = some (A ++ es.flatten) ∧ (∀ e ∈ es, e.length = s)
  | [], k, es, A, B, h, hA, hB => by
    simp only [fullEls, Option.some.injEq] at h
    subst h
    have : B = [] := List.eq_nil_of_length_eq_zero (by simpa using hB)
    subst this
    exact ⟨by simp [fillA], by simp⟩
  | (i, x) :: r, k, es, A, B, h, hA, hB => by
    unfold fullEls at h
    split at h
    · rename_i hc
      obtain ⟨rfl, hl, ho⟩ := hc
      split at h
      · rename_i es' hes
        cases h
        have hBs : s ≤ B.length := by rw [hB]; simp only [List.length_cons, Nat.add_mul, Nat.one_mul]; omega
        have hcond : (cellsOf x).length = s ∧ i * s + s ≤ (A ++ B).length ∧ (cellsOf x).all IV.one = true := ⟨hl, by simp [hA]; omega, ho⟩
        have hset : setCells (A ++ B) (i * s) (cellsOf x) = (A ++ cellsOf x) ++ B.drop s := by
          rw [← hA, setCells_mid _ _ _ (by omega), hl]
        obtain ⟨h1, h2⟩ := fullEls_fill s hs r (i + 1) es' (A ++ cellsOf x) (B.drop s) hes (by simp [hA, hl, Nat.add_mul]) (by
          simp only [List.length_drop, hB, List.length_cons, Nat.add_mul, Nat.one_mul]; omega)
        refine ⟨?_, by simpa [hl] using h2⟩
        simp only [fillA, hcond, and_self, if_true, hset, h1]
        simp
      · cases h
    · cases h
theorem flatten_at {α : Type} {s : Nat} : ∀ {es : List (List α)} {i j : Nat} {e : List α} {x : α}, (∀ e ∈ es, e.length = s) → es[i]? = some e → e[j]? = some x → es.flatten[i * s + j]? = some x
  | [], i, j, e, x, _, hi, _ => by simp at hi
  | e0 :: es, i, j, e, x, hs, hi, hj => by
    have h0 : e0.length = s := hs e0 (by simp)
    cases i with
    | zero =>
      simp at hi; subst hi
      have hjl : j < e0.length := (List.getElem?_eq_some_iff.1 hj).1
      simp [List.getElem?_append_left hjl, hj]
    | succ i =>
      simp only [List.flatten_cons]
      rw [List.getElem?_append_right (by rw [h0, Nat.add_mul]; omega)]
      have : (i + 1) * s + j - e0.length = i * s + j := by rw [h0, Nat.add_mul]; omega
      rw [this]
      exact flatten_at (fun e he => hs e (by simp [he])) (by simpa using hi) hj

theorem zeros_rep {zs : List IV} {zv : Array Value} (h : RepL w M zs zv.toList) (ho : ∀ x ∈ zs, x.one = true) (hne : zv.size ≠ 0) (n : Nat) :
    ∃ B : List IV, B.length = n ∧ RepL w M B ((Array.range n).map (fun i => zv[i % zv.size]!)).toList ∧ ∀ x ∈ B, x.one = true := by
  have hl : zs.length = zv.size := by simpa using h.1
  refine ⟨(List.range n).map fun i => zs.getD (i % zs.length) default, by simp, ⟨by simp, fun k x v hx hv => ?_⟩, fun x hx => ?_⟩
  · simp only [List.getElem?_map] at hx
    obtain ⟨k', hk', rfl⟩ := Option.map_eq_some_iff.1 hx
    have hkn : k < n := by have := (List.getElem?_eq_some_iff.1 hk').1; simpa using this
    obtain rfl : k = k' := by simpa [hkn] using hk'
    have hm : k % zv.size < zv.size := Nat.mod_lt _ (by omega)
    have hv' : v = zv[k % zv.size]! := by simp [hkn] at hv; exact hv.symm
    subst hv'
    rw [hl]
    have hg : zs.getD (k % zv.size) default = zs[k % zv.size]'(by omega) := by simp [List.getD, hl, hm]
    rw [hg]
    refine h.2 (k % zv.size) _ _ (List.getElem?_eq_getElem _) ?_
    simp [hm]
  · obtain ⟨i, _, rfl⟩ := List.mem_map.1 hx
    have hm : i % zs.length < zs.length := Nat.mod_lt _ (by omega)
    have : zs.getD (i % zs.length) default = zs[i % zs.length] := by simp [List.getD, hm]
    rw [this]; exact ho _ (List.getElem_mem hm)

theorem yBuildSlice_run (hG : G.Ok) {t : TypeId} {len : Nat} {ps : List (Nat × IV)} {qs : Array (Nat × Value)} (hM : ∀ b o, M b o → b < w.heap.size) (hp : RepP w M ps qs.toList) (hy : yBuildSlice G t len ps = some av) :
    ∃ v w', (Instr.buildSlice t len qs).run G.P w = .ok v w' ∧ Below w.heap.size w w' ∧ RepA w' M β toks av v := by
  unfold yBuildSlice at hy
  split at hy
  · cases hy
  · rename_i h0
    split at hy
    · rename_i e hk
      have hu := hG.sl h0 hk
      split at hy
      · cases hy
      · rename_i z hz
        obtain ⟨zv, hzr, hz1, hz2, h1, hzs⟩ := zeroIV_run hG hz w M
        split at hy
        · rename_i es hes
          split at hy
          · rename_i hc
            obtain ⟨hlen, h24⟩ := hc
            cases hy
            subst hlen
            by_cases hnil : es.length * (G.ti e).size = 0
            · have he : es = [] := by
                rcases Nat.mul_eq_zero.1 hnil with h | h
                · exact List.eq_nil_of_length_eq_zero h
                · exact absurd h h1
              subst he
              have hps : ps = [] := by
                cases ps with
                | nil => rfl
                | cons p r =>
                  obtain ⟨i, x⟩ := p
                  unfold fullEls at hes
                  split at hes
                  · split at hes <;> cases hes
                  · cases hes
              subst hps
              have hqs : qs.toList = [] := List.eq_nil_of_length_eq_zero hp.1.symm
              refine ⟨.slice (some ⟨w.heap.size, 0, none⟩) 0 0, w.alloc (.cells #[] e), ?_, (Below.refl _ _).alloc (Nat.le_refl _) _, .nil _ _, _, rfl⟩
              simp [Instr.buildSlice, run_underlying hu, hG.size h1, hqs, Instr.fill, newRow, Array.range_zero']
            · have hne : zv.cells.size ≠ 0 := by omega
              obtain ⟨B, hBl, hBr, hB1⟩ := zeros_rep hz1 hz2 hne (es.length * (G.ti e).size)
              obtain ⟨hf, hall⟩ := fullEls_fill (G.ti e).size h1 ps 0 es [] B hes (by simp) hBl
              simp only [List.nil_append] at hf
              obtain ⟨ws, h4, h5, h6, h7⟩ := fill_rep (w := w) (M := M) _ ps qs.toList B _ es.flatten hp hBr hB1 hf
              have hnot : ¬ (es.length * (G.ti e).size > 2 ^ 24) := by
                have : (2 : Nat) ^ 24 = 16777216 := by decide
                omega
              refine ⟨.slice (some ⟨w.heap.size, 0, none⟩) es.length es.length, w.alloc (.cells ws e), ?_, (Below.refl _ _).alloc (Nat.le_refl _) _, ?_, _, rfl⟩
              · simp only [Instr.buildSlice, Sem.run_bind, run_underlying hu, Result.andThen_ok, hG.size h1, hnot, if_false, Sem.run_pure, hnil, hzr, h4, newRow, run_newObj, World.alloc_eq]
              · have hk : Kept w M (w.alloc (.cells ws e)) M := Below.kept ((Below.refl _ _).alloc (Nat.le_refl _) _)
                have hes' : es ≠ [] := fun h => by subst h; simp at hnil
                refine Rep.sl es (G.ti e).size w.heap.size 0 es.length (fun i j => ws.getD (i * (G.ti e).size + j) undef) hes' hall (Nat.le_refl _) ?_ ?_
                · intro i e' j x hi hj
                  have hx := flatten_at hall hi hj
                  have hlt : i * (G.ti e).size + j < ws.size := by
                    have := h5.1; have := (List.getElem?_eq_some_iff.1 hx).1; simp at this; simp at *; omega
                  refine ⟨h6 x (List.mem_of_getElem? hx), ?_, fun hm => absurd (hM _ _ hm) (by omega)⟩
                  rw [World.cell?_alloc_new]; simp [hlt]
                · intro i e' j x hi hj
                  have hx := flatten_at hall hi hj
                  have hlt : i * (G.ti e).size + j < ws.size := by
                    have := h5.1; have := (List.getElem?_eq_some_iff.1 hx).1; simp at this; simp at *; omega
                  exact (h5.2 _ x _ hx (by simp [hlt])).kept hk
          · cases hy
        · cases hy
    · cases hy
end
end Go.Abs

namespace Go.Abs
set_option linter.all false
open Go.RowKit (Below)

section
variable {G : Ctx} {N : Nat} {w0 : Base} {w : World} {M M0 : Nat → Nat → Prop} {β : Nat → Option Nat} {st : St} {a : Act} {toks : List (Nat × Nat × Nat)} {av : AV} {v : Value}

theorem bnd_rep {lo : Option AV} {lv : Option Value} {d : Nat} {n : Int} (h : ∀ x, lo = some x → ∃ v, lv = some v ∧ RepA w M β toks x v) (hn : lo = none → lv = none) (hb : bnd lo d = some n) :
    (lv = none ∧ n = d) ∨ ∃ k, lv = some (.int k n) := by
  unfold bnd at hb
  split at hb
  · cases hb; exact .inl ⟨hn rfl, rfl⟩
  · rename_i k n'
    cases hb
    obtain ⟨v, hv, hr⟩ := h _ rfl
    obtain rfl := Rep.sc_inv hr
    exact .inr ⟨k, hv⟩
  · cases hb

theorem sliceBounds_run {P : Program} {lv hv : Option Value} {l h : Int} {len cap : Nat} (hl : (lv = none ∧ l = 0) ∨ ∃ k, lv = some (.int k l)) (hh : (hv = none ∧ h = (len : Int)) ∨ ∃ k, hv = some (.int k h))
    (h0 : 0 ≤ l) (h1 : l ≤ h) (h2 : h ≤ (len : Int)) (hc : len ≤ cap) : (Instr.sliceBounds true len cap lv hv none).run P w = .ok (l.toNat, h.toNat, cap) w := by
  have eh : (h.toNat : Int) = h := Int.toNat_of_nonneg (by omega)
  have hb1 : ∀ k code, (Instr.sliceBound (.int k h) cap code).run P w = .ok h.toNat w := fun k code => run_sliceBound w k h cap code (by omega) (by omega)
  have hb2 : ∀ k code, (Instr.sliceBound (.int k l) h.toNat code).run P w = .ok l.toNat w := fun k code => run_sliceBound w k l _ code h0 (by omega)
  have hb3 : ∀ k code, (Instr.sliceBound (.int k l) len code).run P w = .ok l.toNat w := fun k code => run_sliceBound w k l _ code h0 (by omega)
  rcases hl with ⟨rfl, rfl⟩ | ⟨k, rfl⟩ <;> rcases hh with ⟨rfl, rfl⟩ | ⟨k', rfl⟩ <;> simp [Instr.sliceBounds, hb1, hb2, hb3]

theorem Rep.sl_cut {es : List (List IV)} {a : Option Addr} {c l n s : Nat} (h : Rep w M (.sl es) (.slice a es.length c)) (hln : l + n ≤ es.length) (hc : es.length ≤ c) (hs : ∀ e ∈ es, e.length = s) :
    Rep w M (.sl ((es.drop l).take n)) (.slice (if c = l then a else a.map (·.add (l * s))) n (c - l)) := by
  by_cases hn : n = 0
  · subst hn
    simp only [List.take_zero]
    exact .nil _ _
  · rcases h.sl_inv with ⟨rfl, _⟩ | ⟨s', b, o, cap, u, hne, hs', hcap, h4, h5, he⟩
    · simp at hln; omega
    · simp only [Value.slice.injEq, true_and] at he
      obtain ⟨rfl, rfl⟩ := he
      have hss : s = s' := by
        cases es with
        | nil => exact absurd rfl hne
        | cons e es => rw [← hs e (by simp), hs' e (by simp)]
      subst hss
      rw [if_neg (by omega)]
      simp only [Option.map_some, Addr.add_lit]
      have hlen : ((es.drop l).take n).length = n := by simp; omega
      have hget : ∀ i e, ((es.drop l).take n)[i]? = some e → es[l + i]? = some e := fun i e hi => by
        rw [List.getElem?_take] at hi
        split at hi
        · rwa [List.getElem?_drop] at hi
        · cases hi
      have := Rep.sl (w := w) (M := M) ((es.drop l).take n) s b (o + l * s) (c - l) (fun i j => u (l + i) j) (fun h => by rw [h] at hlen; simp at hlen; omega)
        (fun e he => hs e (List.mem_of_mem_drop (List.mem_of_mem_take he))) (by omega)
        (fun i e j x hi hj => by
          have := h4 (l + i) e j x (hget i e hi) hj
          rw [Nat.add_mul, ← Nat.add_assoc] at this
          exact this)
        (fun i e j x hi hj => h5 (l + i) e j x (hget i e hi) hj)
      rw [hlen] at this
      exact this

theorem ySlice_run (hG : G.Ok) (hβ : ∀ b, β (hp b) = some b) {t : TypeId} {x av : AV} {xv : Value} {lo hi : Option AV} {lv hv : Option Value} (hx : RepA w M β toks x xv)
    (hlo : ∀ x, lo = some x → ∃ v, lv = some v ∧ RepA w M β toks x v) (hlo0 : lo = none → lv = none) (hhi : ∀ x, hi = some x → ∃ v, hv = some v ∧ RepA w M β toks x v) (hhi0 : hi = none → hv = none)
    (hy : ySlice G t x lo hi = some av) : ∃ v, (Instr.sliceAt t xv lv hv none).run G.P w = .ok v w ∧ RepA w M β toks av v := by
  unfold ySlice at hy
  split at hy
  · cases hy
  · rename_i h0
    split at hy
    · rename_i e hk
      have hu := hG.sl h0 hk
      split at hy
      · cases hy
      · rename_i h1
        have hel : G.P.elem t = e := by simp [Program.elem, hu]
        have hu' : G.P.underlying t = some (.slice (G.P.elem t)) := by rw [hel]; exact hu
        have hlg := fun d e s n => soft2_gsl (x := x) (lo := lo) (d := d) (e := e) (s := s) (n := n)
        have hlr := fun d e s n => soft2_ref (x := x) (lo := lo) (d := d) (e := e) (s := s) (n := n)
        replace hx := hx.soft2 hβ lo
        generalize x.soft2 lo = x at hx hy hlg hlr
        split at hy
        · rename_i d e' s m
          split at hy
          · rename_i h hbh
            split at hy
            · rename_i hc
              obtain ⟨hc2, hc3⟩ := hc
              cases hy
              have hlo' := hlg d e' s m rfl
              subst hlo'
              obtain ⟨b, cap, cur, hb, rfl, hcur, hmc, hcm, hcs⟩ := hx
              have hbl : bnd (none : Option AV) 0 = some 0 := rfl
              have hrb := sliceBounds_run (P := G.P) (w := w) (cap := cap) (len := m) (bnd_rep hlo hlo0 hbl) (bnd_rep hhi hhi0 hbh) (Int.le_refl 0) hc2 hc3 hmc
              refine ⟨sliced (some ⟨b, 0, none⟩) (Int.toNat 0) h.toNat cap (G.ti e).size, ?_, ?_⟩
              · rw [run_sliceAt_slice w t _ _ _ _ hu', run_slice_any w t _ m cap hu', hrb]
                simp only [Result.andThen_ok, hel, hG.size h1]
              · refine ⟨b, cap, cur, hb, ?_, hcur, by omega, hcm, hcs⟩
                simp [sliced]
                intro _; rfl
            · cases hy
          · cases hy
        · rename_i d e' s m
          split at hy
          · rename_i h hbh
            split at hy
            · rename_i hc
              obtain ⟨hc2, hc3⟩ := hc
              cases hy
              have hlo' := hlr d e' s m rfl
              subst hlo'
              cases hx with
              | ref _ _ _ _ cap cur hcur hmc hcm hcs =>
              have hbl : bnd (none : Option AV) 0 = some 0 := rfl
              have hrb := sliceBounds_run (P := G.P) (w := w) (cap := cap) (len := m) (bnd_rep hlo hlo0 hbl) (bnd_rep hhi hhi0 hbh) (Int.le_refl 0) hc2 hc3 hmc
              refine ⟨sliced (some ⟨d, 0, none⟩) (Int.toNat 0) h.toNat cap (G.ti e).size, ?_, ?_⟩
              · rw [run_sliceAt_slice w t _ _ _ _ hu', run_slice_any w t _ m cap hu', hrb]
                simp only [Result.andThen_ok, hel, hG.size h1]
              · have hsl : sliced (some ⟨d, 0, none⟩) (Int.toNat 0) h.toNat cap (G.ti e).size = .slice (some ⟨d, 0, none⟩) h.toNat cap := by
                  simp [sliced]
                  intro _; rfl
                rw [hsl]
                exact Rep.ref d e' s h.toNat cap cur hcur (by omega) hcm hcs
            · cases hy
          · cases hy
        · rename_i d s i m
          split at hy
          · rename_i l h hbl hbh
            split at hy
            · rename_i hc
              obtain ⟨hc1, hc2, hc3, hc4⟩ := hc
              cases hy
              obtain ⟨ad, c, hmc, rfl, had⟩ := hx
              have hrb := sliceBounds_run (P := G.P) (w := w) (cap := c) (len := m) (bnd_rep hlo hlo0 hbl) (bnd_rep hhi hhi0 hbh) hc1 hc2 hc3 hmc
              refine ⟨sliced ad l.toNat h.toNat c (G.ti e).size, ?_, ?_⟩
              · rw [run_sliceAt_slice w t _ _ _ _ hu', run_slice_any w t ad m c hu', hrb]
                simp only [Result.andThen_ok, hel, hG.size h1]
              · refine ⟨if c = l.toNat then ad else ad.map (·.add (l.toNat * (G.ti e).size)), c - l.toNat, by omega, ?_, ?_⟩
                · show sliced ad l.toNat h.toNat c (G.ti e).size = _
                  have : (h - l).toNat = h.toNat - l.toNat := by omega
                  rw [this]; rfl
                · intro hne
                  obtain ⟨b, hb, rfl⟩ := had (by omega)
                  refine ⟨b, hb, ?_⟩
                  rw [if_neg (by omega)]
                  simp only [Option.map_some, Addr.add_lit, ← hc4, ← Nat.add_mul]
            · cases hy
          · cases hy
        · rename_i x _
          split at hy
          · rename_i es hes
            have hr := sliceEls_rep hx hes
            split at hy
            · rename_i l h hbl hbh
              split at hy
              · rename_i hc
                obtain ⟨hc1, hc2, hc3, hc4⟩ := hc
                cases hy
                obtain ⟨a, c, rfl, hcap⟩ := hr.sl_len
                have hrb := sliceBounds_run (P := G.P) (w := w) (cap := c) (len := es.length) (bnd_rep hlo hlo0 hbl) (bnd_rep hhi hhi0 hbh) hc1 hc2 hc3 hcap
                refine ⟨sliced a l.toNat h.toNat c (G.ti e).size, ?_, ?_⟩
                · rw [run_sliceAt_slice w t _ _ _ _ hu', run_slice_any w t a es.length c hu', hrb]
                  simp only [Result.andThen_ok, hel, hG.size h1]
                · exact hr.sl_cut (by omega) hcap (fun e he => by simpa using List.all_eq_true.1 hc4 e he)
              · cases hy
            · cases hy
          · cases hy
    · cases hy

/-! ### Maps -/
theorem intsI_rep {xs : List IV} {ns : List Int} {vs : List Value} (hi : intsI xs = some ns) (h : RepL w M xs vs) : vs = ns.map (Value.int .i64) := by
  induction xs generalizing ns vs with
  | nil =>
    cases hi
    exact h.of_nil
  | cons x xs ih =>
    unfold intsI at hi
    split at hi
    · rename_i e
      cases e
    · rename_i n r e
      cases e
      split at hi
      · rename_i ns' hr
        cases hi
        obtain ⟨v, vs', rfl, h1, h2⟩ := h.uncons
        rw [Rep.sc_inv h1, ih hr h2]; rfl
      · cases hi
    · cases hi
theorem keyI_rep {k : AV} {kv : Value} {x : List Int} (hi : keyI k = some x) (h : RepA w M β toks k kv) : kv = keyV x := by
  unfold keyI at hi
  split at hi
  · obtain ⟨us, e, hu, _⟩ := Rep.agg_inv h
    rw [e]
    have := intsI_rep hi hu
    unfold keyV
    rw [← this]
  · cases hi
theorem elemI_rep (b : Bool) (v : List Int) : Rep w M (elemI b v) (elemV b v) := by
  unfold elemI elemV
  cases b with
  | true => exact Rep.sc _ rfl
  | false =>
    simp only [Bool.false_eq_true, if_false, ivs_eq]
    exact RepL.agg (by simpa using repL_ints w M v) (fun x hx => by
      obtain ⟨n, _, rfl⟩ := List.mem_map.1 hx
      rfl)
theorem mapOf_rep {m : AV} {mv : Value} {sc : Nat × Bool} {kvs : List (List Int × List Int)} (hm : RepA w M β st.toks m mv) (h : mapOf st m = some (sc, kvs)) :
    (mv = .map none ∧ kvs = []) ∨ ∃ b es c, mv = .map (some b) ∧ w.heap[b]? = some (.map es c) ∧ Ents sc kvs es := by
  unfold mapOf at h
  split at h
  · cases h
    cases hm with
    | mpn => exact .inl ⟨rfl, rfl⟩
    | mp _ _ b es c h1 h2 h3 => exact .inr ⟨b, es, c, rfl, h1, h3⟩
  · split at h
    · rename_i ht
      cases h
      obtain ⟨b, h1, h2, h3⟩ := hm
      obtain ⟨es, c, h4, h5⟩ := h3 ht
      exact .inr ⟨b, es, c, h2, h4, h5⟩
    · cases h
  · cases h
theorem zeroE_run (hG : G.Ok) {e : TypeId} {z : IV} (h : zeroE G e = some z) (w : World) (M : Nat → Nat → Prop) : ∃ zv, (zeroValue e).run G.P w = .ok zv w ∧ Rep w M z zv := by
  unfold zeroE at h
  split at h
  · rename_i cs hz
    obtain ⟨zv, h1, h2, h3, h4, h5⟩ := zeroIV_run hG hz w M
    have hag := hG.zeroAgg h4 h1
    refine ⟨zv, h1, ?_⟩
    split at h
    · rename_i hk
      cases h
      have : ∃ us, zv = .agg us := by
        generalize (G.ti e).kind = k at hk hag
        cases k <;> simp_all [aggK]
      obtain ⟨us, rfl⟩ := this
      exact RepL.agg h2 h3
    · rename_i hk
      split at h
      · rename_i x
        cases h
        have hna : ∀ us, zv ≠ .agg us := by
          generalize (G.ti e).kind = k at hk hag
          cases k <;> simp_all [aggK]
        have hc : zv.cells = #[zv] := by
          cases zv <;> first | rfl | exact absurd rfl (hna _)
        rw [hc] at h2
        obtain ⟨v, vs, e1, e2, e3⟩ := h2.uncons
        cases e1
        exact e2
      · cases h
  · cases h
theorem nlen_eq : ∀ x : List Int, nlen x = x.length
  | [] => rfl
  | _ :: l => by rw [nlen, nlen_eq l]; rfl
theorem yLookup_run (hG : G.Ok) {t : TypeId} {m k : AV} {mv kv : Value} {ok : Bool} (hm : RepA w M β st.toks m mv) (hk : RepA w M β st.toks k kv) (hy : yLookup G t (mapOf st m) (keyI k) ok = some av) :
    ∃ v, (Instr.lookup t mv kv ok).run G.P w = .ok v w ∧ RepA w M β st.toks av v := by
  unfold yLookup at hy
  split at hy
  · cases hy
  rename_i h0
  split at hy
  · rename_i sc kvs x kt e hmo hki hkd
    have hu := hG.mp h0 hkd
    obtain rfl := keyI_rep hki hk
    split at hy
    · rename_i n hn
      split at hy
      · rename_i hc
        obtain ⟨hc1, hc2⟩ := hc
        rw [nlen_eq] at hc1
        have hmr := mapOf_rep hm hmo
        have hes : ∃ es : Array MapEntry, Ents sc kvs es ∧ ∀ (k : Array MapEntry → Sem Value) (r : Result Value), (k es).run G.P w = r → (do
            let es ← match mv with
              | .map none => pure #[]
              | .map (some r) => do
                let .map es _ ← getObj r | stuck "Lookup: map expected"
                pure es
              | _ => stuck "Lookup: map expected"
            k es : Sem Value).run G.P w = r := by
          rcases hmr with ⟨rfl, rfl⟩ | ⟨b, es, c, rfl, hb, he⟩
          · exact ⟨#[], ⟨by simp, rfl⟩, fun k r h => by simpa using h⟩
          · refine ⟨es, he, fun k r h => ?_⟩
            have hg : (getObj b).run G.P w = .ok (.map es c) w := by simp [getObj, Sem.run, hb]
            simp only [Sem.run_bind, hg, Result.andThen_ok, Sem.run_pure]
            exact h
        obtain ⟨es, he, hrun⟩ := hes
        have hf := run_findKey_rows (w := w) hG hn (x := x) (by omega) (sc := sc) (kvs := kvs) (es := es) (fun hne => hc2.resolve_left hne) he
        have hck := run_key_check hG hn (xs := x) (by omega) es.isEmpty w
        have hmg := mfind_mget kvs x 0
        unfold Instr.lookup
        rw [Sem.run_bind, run_underlying hu, Result.andThen_ok]
        split at hy
        · rename_i v hv
          cases hy
          rw [hv] at hmg
          obtain ⟨⟨i, v'⟩, hfi, rfl⟩ := Option.map_eq_some_iff.1 hmg
          rw [hfi] at hf
          refine ⟨if ok = true then .tuple #[elemV sc.2 v', .bool true] else elemV sc.2 v', hrun _ _ ?_, ?_⟩
          · simp only [Sem.run_bind, hck, Result.andThen_ok, hf, Option.map_some, Sem.run_pure]
          · cases ok with
            | true => exact RepL.tup (vs := #[_, _]) (RepL.cons (elemI_rep _ _) (RepL.cons (Rep.sc _ rfl) RepL.nil))
            | false => exact elemI_rep _ _
        · rename_i hv
          rw [hv] at hmg
          have hfi : mfind kvs x 0 = none := by simpa using hmg
          rw [hfi] at hf
          split at hy
          · rename_i z hz
            cases hy
            obtain ⟨zv, hz1, hz2⟩ := zeroE_run hG hz w M
            refine ⟨if ok = true then .tuple #[zv, .bool false] else zv, hrun _ _ ?_, ?_⟩
            · simp only [Sem.run_bind, hck, Result.andThen_ok, hf, Option.map_none, hz1, Sem.run_pure]
            · cases ok with
              | true => exact RepL.tup (vs := #[_, _]) (RepL.cons hz2 (RepL.cons (Rep.sc _ rfl) RepL.nil))
              | false => exact hz2
          · cases hy
      · cases hy
    · cases hy
  · cases hy
theorem yLenM_run (hG : G.Ok) {t ty : TypeId} {m : AV} {mv : Value} (hm : RepA w M β st.toks m mv) (hk : isMp (G.ti t).kind = true) (hy : yLenM G t (mapOf st m) = some av) :
    ∃ v, (Builtin.len_ #[t] ty #[mv]).run G.P w = .ok v w ∧ RepA w M β st.toks av v := by
  unfold yLenM at hy
  split at hy
  · cases hy
  rename_i h0
  split at hy
  · rename_i sc kvs hmo
    cases hy
    obtain ⟨kt, e, hkd⟩ : ∃ kt e, (G.ti t).kind = .mp kt e := by
      generalize (G.ti t).kind = k at hk
      cases k <;> simp_all [isMp]
    have hu := hG.mp h0 hkd
    rcases mapOf_rep hm hmo with ⟨rfl, rfl⟩ | ⟨b, es, c, rfl, hb, he⟩
    · exact ⟨_, by simp [Builtin.len_, run_underlying hu, goInt], Rep.sc _ rfl⟩
    · have hg : (getObj b).run G.P w = .ok (.map es c) w := by simp [getObj, Sem.run, hb]
      have hl : es.size = kvs.length := by have := congrArg List.length he.2; simpa using this
      exact ⟨_, by simp [Builtin.len_, run_underlying hu, hg, goInt, hl], Rep.sc _ rfl⟩
  · cases hy

theorem yLen_run (hG : G.Ok) (hβ : ∀ b, β (hp b) = some b) {t ty : TypeId} {x av : AV} {xv : Value} (hx : RepA w M β toks x xv) (hy : yLen G t x = some av) :
    ∃ v, (Builtin.len_ #[t] ty #[xv]).run G.P w = .ok v w ∧ RepA w M β toks av v := by
  unfold yLen at hy
  split at hy
  · cases hy
  · rename_i h0
    split at hy
    · rename_i e hk
      have hu := hG.sl h0 hk
      replace hx := hx.soft hβ
      generalize x.soft = x at hx hy
      split at hy
      · cases hy
        obtain ⟨_, c, _, rfl, _⟩ := hx
        exact ⟨_, by simp [Builtin.len_, run_underlying hu, goInt], Rep.sc _ rfl⟩
      · split at hy
        · rename_i es hes
          cases hy
          obtain ⟨a, c, rfl, _⟩ := (sliceEls_rep hx hes).sl_len
          exact ⟨_, by simp [Builtin.len_, run_underlying hu, goInt], Rep.sc _ rfl⟩
        · cases hy
    · rename_i hk
      have hu := hG.str h0 hk
      split at hy
      · cases hy
        obtain rfl := Rep.sc_inv hx
        exact ⟨_, by simp [Builtin.len_, run_underlying hu, goInt], Rep.sc _ rfl⟩
      · cases hy
    · cases hy

theorem scs_rep (h : Sim N w0 M0 β st a w) : ∀ {xs : List Operand} {vs : List Value}, scs (xs.map (evO st)) = some vs → xs.map a.eval = vs ∧ ∀ v ∈ vs, plainV v = true
  | [], vs, hq => by cases hq; exact ⟨rfl, by simp⟩
  | x :: r, vs, hq => by
    simp only [List.map_cons] at hq
    unfold scs at hq
    split at hq
    · rename_i h1; cases h1
    · rename_i v r' h1
      simp only [List.cons.injEq] at h1
      obtain ⟨h1, rfl⟩ := h1
      split at hq
      · rename_i vs' hvs
        cases hq
        obtain ⟨h2, h3⟩ := scs_rep h hvs
        have hr := evO_rep h x
        rw [h1] at hr
        have hv : a.eval x = v := Rep.sc_inv hr
        have hp : plainV v = true := by cases hr with | sc _ hp => exact hp
        exact ⟨by simp [hv, h2], by simpa [hp] using h3⟩
      · cases hq
    · cases hq

theorem ivsOf_rep (h : Sim N w0 M0 β st a w) : ∀ {xs : List Operand} {ys : List IV}, ivsOf (xs.map (evO st)) = some ys → RepL w (Mo M0 β st) ys (xs.map a.eval)
  | [], ys, hq => by cases hq; exact RepL.nil
  | x :: r, ys, hq => by
    simp only [List.map_cons] at hq
    unfold ivsOf at hq
    split at hq
    · rename_i y ys' h1 h2
      cases hq
      exact RepL.cons (ivOf_rep (evO_rep h x) h1) (ivsOf_rep h h2)
    · cases hq

theorem yv_run (hG : G.Ok) (h : Sim N w0 M0 β st a w) {o : Oper} (hy : yv G st o = some av) :
    ∃ v w', (execOp a.eval o).run G.P w = .ok (.value v) w' ∧ Below w.heap.size w w' ∧ RepA w' (Mo M0 β st) β st.toks av v := by
  have same : ∀ {s : Sem Value} {v : Value}, s.run G.P w = .ok v w → RepA w (Mo M0 β st) β st.toks av v →
      ∃ v w', (do pure (.value (← s)) : Sem Next).run G.P w = .ok (.value v) w' ∧ Below w.heap.size w w' ∧ RepA w' (Mo M0 β st) β st.toks av v :=
    fun {s v} h1 h2 => ⟨v, w, by simp [h1], Below.refl _ _, h2⟩
  have ev := evO_rep h
  unfold yv at hy
  unfold execOp
  split at hy <;> rename_i ho <;> first | (rw [ho]; simp only) | (cases hy; done)
  · cases hy; exact ⟨_, w, rfl, Below.refl _ _, ev _⟩
  · cases hy; exact ⟨_, w, rfl, Below.refl _ _, ev _⟩
  · -- pick
    rename_i c x y
    split at hy
    · rename_i t hc
      cases hy
      have := ev c; rw [hc] at this
      have hcv := Rep.sc_inv this
      refine ⟨if t = true then a.eval x else a.eval y, w, ?_, Below.refl _ _, ?_⟩
      · rw [hcv]; cases t <;> simp [asBool]
      · cases t
        · exact ev y
        · exact ev x
    · cases hy
  · -- binOp
    rename_i op t x y yt
    split at hy
    · rename_i u v hx hy'
      split at hy
      · rename_i r hr
        cases hy
        have hx2 := ev x; rw [hx] at hx2
        have hy2 := ev y; rw [hy'] at hy2
        have e1 := Rep.sc_inv hx2; have e2 := Rep.sc_inv hy2
        obtain ⟨h1, h2, _⟩ := scBin_run hG hr x y w
        refine same (v := r) ?_ (Rep.sc _ h2)
        rw [e1, e2]; exact h1
      · cases hy
    · rename_i xs ys hx hy'
      split at hy
      · rename_i r hr
        cases hy
        have hx2 := ev x; rw [hx] at hx2
        have hy2 := ev y; rw [hy'] at hy2
        obtain ⟨us, e1, hu, _⟩ := Rep.agg_inv hx2
        obtain ⟨vs, e2, hv, _⟩ := Rep.agg_inv hy2
        obtain ⟨h1, h2, _⟩ := aggBin_run hG hr hu hv x y
        refine same (v := r) ?_ (Rep.sc _ h2)
        rw [e1, e2]; exact h1
      · cases hy
    · cases hy
  · -- unOp
    rename_i op t x
    split at hy
    · rename_i u hx
      split at hy
      · rename_i r hr
        cases hy
        have hx2 := ev x; rw [hx] at hx2
        have e1 := Rep.sc_inv hx2
        obtain ⟨h1, h2, _⟩ := scUn_run (P := G.P) hr w
        refine same (v := r) ?_ (Rep.sc _ h2)
        rw [e1]; exact h1
      · cases hy
    · cases hy
  · -- nilCheck
    rename_i x
    split at hy
    · rename_i cs j hx
      cases hy
      have hx2 := (ev x).dp h.perm; rw [hx] at hx2
      obtain ⟨b, o', u, e, _⟩ := ip_inv hx2
      rw [e] at hx2 ⊢
      exact ⟨_, w, rfl, Below.refl _ _, hx2⟩
    · rename_i f cs hx
      cases hy
      have hx2 := (ev x).dp h.perm; rw [hx] at hx2
      obtain ⟨vs, e, _⟩ := Rep.clo_inv hx2
      rw [e] at hx2 ⊢
      exact ⟨_, w, rfl, Below.refl _ _, hx2⟩
    · rename_i d s i j hx
      cases hy
      have hx2 := (ev x).dp h.perm; rw [hx] at hx2
      obtain ⟨b, hb, e⟩ := hx2
      rw [e]
      exact ⟨_, w, rfl, Below.refl _ _, b, hb, rfl⟩
    · cases hy
  · -- load
    rename_i t p
    obtain ⟨v, h1, h2⟩ := yLoad_run hG h (ev p) hy
    exact same h1 h2
  · -- fieldAddr
    rename_i t x f
    split at hy
    · rename_i off ty hf
      split at hy
      · rename_i c j hx
        cases hy
        have hx2 := (ev x).dp h.perm; rw [hx] at hx2
        obtain ⟨b, o', e, hm⟩ := ip_move (k := off) hx2
        rw [e]
        exact same (fieldAt_run hG hf b o') hm
      · rename_i d s i j hx
        cases hy
        have hx2 := (ev x).dp h.perm; rw [hx] at hx2
        obtain ⟨b, hb, e⟩ := hx2
        rw [e]
        exact same (fieldAt_run hG hf b _) ⟨b, hb, by rw [Nat.add_assoc]⟩
      · cases hy
    · cases hy
  · -- field
    rename_i t x f
    split at hy
    · rename_i off ty hf
      split at hy
      · rename_i cs hx
        have hx2 := ev x; rw [hx] at hx2
        obtain ⟨us, e1, hu, hone⟩ := Rep.agg_inv hx2
        obtain ⟨gs, fd, hu2, hf2, rfl, rfl, h1⟩ := yField_run hG hf
        obtain ⟨v, y, hr, rfl, hyr⟩ := part_run (w := w) hG h1 hu hone hy
        rw [e1]
        refine same (v := v) ?_ hyr
        simp only [Instr.field, Sem.run_bind, run_underlying hu2, Result.andThen_ok, hf2, asAgg, Sem.run_pure, hr]
      · cases hy
    · cases hy
  · -- indexAddr
    rename_i t x i
    split at hy
    · rename_i k n hi
      have hi2 := ev i; rw [hi] at hi2
      rw [Rep.sc_inv hi2]
      obtain ⟨v, h1, h2⟩ := yIndexAddr_run (w := w) (k := k) hG h.perm (ev x) hy
      exact same h1 h2
    · cases hy
  · -- index
    rename_i t x i
    split at hy
    · rename_i k n hi
      have hi2 := ev i; rw [hi] at hi2
      rw [Rep.sc_inv hi2]
      obtain ⟨v, h1, h2⟩ := yIndex_run (w := w) (k := k) hG (ev x) hy
      exact same h1 h2
    · cases hy
  · -- extract
    rename_i x k
    split at hy
    · rename_i vs hx
      split at hy
      · rename_i y hyk
        cases hy
        have hx2 := ev x; rw [hx] at hx2
        obtain ⟨us, e1, hu⟩ := Rep.tup_inv hx2
        have hlt : k < us.size := by have := hu.1; have := (List.getElem?_eq_some_iff.1 hyk).1; simp at *; omega
        rw [e1]
        refine same (v := us[k]) ?_ (hu.2 k y _ hyk (by simp [hlt]))
        simp [Instr.extract, hlt]
      · cases hy
    · cases hy
  · -- build
    rename_i t ps
    split at hy
    · rename_i qs hq
      have hp := ivParts_rep h hq
      obtain ⟨v, h1, h2⟩ := yBuild_run (G := G) (w := w) (M := Mo M0 β st) (β := β) (toks := st.toks) (qs := ps.map fun p => (p.1, a.eval p.2)) hG (by simpa using hp) hy
      exact same h1 h2
    · cases hy
  · -- buildSlice
    rename_i t len ps
    split at hy
    · rename_i qs hq
      have hp := ivParts_rep h hq
      obtain ⟨v, w', h1, h2, h3⟩ := yBuildSlice_run (G := G) (w := w) (M := Mo M0 β st) (β := β) (toks := st.toks) (qs := ps.map fun p => (p.1, a.eval p.2)) hG (fun b o hm => h.mlt hm) (by simpa using hp) hy
      exact ⟨v, w', by simp [h1], h2, h3⟩
    · cases hy
  · -- convert
    rename_i src dst x
    split at hy
    · cases hy
    · rename_i hc
      split at hy
      · rename_i k k' n hk hx
        cases hy
        have hx2 := ev x; rw [hx] at hx2
        rw [Rep.sc_inv hx2]
        have hd : (G.ti dst).size ≠ 0 := fun e => hc (.inr e)
        have hs : (G.ti src).size ≠ 0 := fun e => hc (.inl e)
        have hud := hG.it hd hk
        have hus : ∃ d, G.P.underlying src = some d := by
          have := hG.kind hs
          unfold TK.okB at this
          cases hsu : G.P.underlying src with
          | some d => exact ⟨d, rfl⟩
          | none => rw [hsu] at this; split at this <;> simp_all
        obtain ⟨d, hus⟩ := hus
        refine same (v := .int k (k.wrap n)) ?_ (Rep.sc _ rfl)
        simp [convert, run_underlying hud, run_underlying hus, Conv.intToInt]
      · cases hy
  · -- lookup
    rename_i t m k ok
    obtain ⟨v, h1, h2⟩ := yLookup_run (G := G) (w := w) hG (ev m) (ev k) hy
    exact same h1 h2
  · -- slice
    rename_i t x lo hi mx
    split at hy
    · cases hy
    · rename_i hm
      have hmx : mx = none := by cases mx <;> simp_all
      subst hmx
      obtain ⟨v, h1, h2⟩ := ySlice_run (G := G) (w := w) hG h.perm (ev x) (lv := lo.map a.eval) (hv := hi.map a.eval)
        (fun y hy => by obtain ⟨o', ho', rfl⟩ := Option.map_eq_some_iff.1 hy; exact ⟨_, by rw [ho']; rfl, ev o'⟩) (fun h => by cases lo <;> simp_all)
        (fun y hy => by obtain ⟨o', ho', rfl⟩ := Option.map_eq_some_iff.1 hy; exact ⟨_, by rw [ho']; rfl, ev o'⟩) (fun h => by cases hi <;> simp_all) hy
      exact same h1 h2
  · -- makeFunc
    rename_i fn first caps
    split at hy
    · rename_i f
      split at hy
      · rename_i h0
        split at hy
        · rename_i xs hxs
          cases hy
          have hr := ivsOf_rep h hxs
          have hf0 : first = #[] := Array.eq_empty_of_size_eq_zero h0
          subst hf0
          refine same (v := .func (.func f) #[] (caps.map a.eval)) (by simp [Instr.makeFunc]) ?_
          exact .clo f xs _ (by have := hr.1; simpa using this) fun k x v hx hv => hr.2 k x v hx (by simpa using hv)
        · cases hy
      · cases hy
    · cases hy
  · -- call
    rename_i c
    split at hy
    · rename_i b hb
      split at hy
      · -- len
        split at hy
        · rename_i t x ht hx
          have hat : c.argTypes = #[t] := by apply Array.ext'; simpa using ht
          have hax : c.args = #[x] := by apply Array.ext'; simpa using hx
          split at hy
          · rename_i hmp
            obtain ⟨v, h1, h2⟩ := yLenM_run (G := G) (w := w) (ty := o.type) hG (ev x) hmp hy
            refine ⟨v, w, ?_, Below.refl _ _, h2⟩
            simp [resolve, hb, invoke, builtin, hat, hax, h1]
          · obtain ⟨v, h1, h2⟩ := yLen_run (G := G) (w := w) (ty := o.type) hG h.perm (ev x) hy
            refine ⟨v, w, ?_, Below.refl _ _, h2⟩
            simp [resolve, hb, invoke, builtin, hat, hax, h1]
        · cases hy
      · split at hy
        · rename_i x r hs
          split at hy
          · rename_i v hv
            cases hy
            obtain ⟨h1, h2⟩ := scs_rep h (xs := c.args.toList) hs
            have hp : plainV x = true := h2 x (by simp)
            obtain ⟨h3, h4⟩ := scFold_run (P := G.P) (f := scMin2) (g := Builtin.min2) (fun x y z w hh => scMin2_run hh w) r x v w hp hv
            refine ⟨v, w, ?_, Below.refl _ _, Rep.sc _ h4⟩
            have e : (c.args.map a.eval).toList = x :: r := by simpa using h1
            simp only [resolve, hb, invoke, builtin, Sem.run_bind, Sem.run_pure, Result.andThen_ok, Builtin.min_]
            rw [e]
            simp [h3]
          · cases hy
        · cases hy
      · split at hy
        · rename_i x r hs
          split at hy
          · rename_i v hv
            cases hy
            obtain ⟨h1, h2⟩ := scs_rep h (xs := c.args.toList) hs
            have hp : plainV x = true := h2 x (by simp)
            obtain ⟨h3, h4⟩ := scFold_run (P := G.P) (f := scMax2) (g := Builtin.max2) (fun x y z w hh => scMax2_run hh w) r x v w hp hv
            refine ⟨v, w, ?_, Below.refl _ _, Rep.sc _ h4⟩
            have e : (c.args.map a.eval).toList = x :: r := by simpa using h1
            simp only [resolve, hb, invoke, builtin, Sem.run_bind, Sem.run_pure, Result.andThen_ok, Builtin.max_]
            rw [e]
            simp [h3]
          · cases hy
        · cases hy
      · cases hy
    · cases hy
end
end Go.Abs
