/-
  One operation after the other: what an operation does to the state of a walk, and that the machine does so. Program-independent. The generic layer under all claims of this repo: 13 of several.
-/
import Derived.Test.YtpnlfkaijdjhlaaAbs12
namespace Go.Abs
set_option linter.all false
open Go.RowKit (Below)

/-- A function with a body of its own. -/
def callable (P : Program) (f : FuncId) : Bool :=
  match P.funcs[f]? with
  | some fn => fn.name != "runtime.NumGoroutine" && fn.body.isSome
  | none => false
structure Ctx.Good (G : Ctx) : Prop where
  ok : G.Ok
  fn : ∀ f, (3 ≤ f ∧ f < G.fns) → callable G.P f = true
  mixed : G.P.follows .mixedOrders = true

def St.newRow (st : St) (d s : Nat) (es : List (List IV)) : St :=
  ⟨(d, .loc d s 0 0) :: (st.fresh d).fr, (d, s, es) :: (st.fresh d).rows, (st.fresh d).toks⟩
def St.newArr (st : St) (d s : Nat) (es : List (List IV)) : St :=
  ⟨(d, .osl d s 0 es.length) :: (st.fresh d).fr, (d, s, es) :: (st.fresh d).rows, (st.fresh d).toks⟩
def undefA : AV := .im (.sc undef)

def elemsOf (st : St) : AV → Option (List (List IV))
  | .osl d s i n => match look st.rows d with
    | some (s', es) => if s' = s ∧ i + n ≤ es.length then some ((es.drop i).take n) else none
    | none => none
  | x => sliceEls x
/-- The token under which a slice may be appended to. -/
def appTok (st : St) (e s dst : Nat) : AV → Option (Nat × List (List IV))
  | .sx es => some (dst, es)
  | .vec d e' s' es => if e' = e ∧ s' = s ∧ look st.toks d = some (s, es.length) ∧ (d = dst ∨ look st.rows d = none) then some (d, es) else none
  | _ => none

def aAppend (G : Ctx) (K : St → Prop) (st : St) (dst : Option Nat) (ts : List TypeId) (args : List Operand) : Prop :=
  match dst, ts, args with
  | some d, [t, t'], [s, x] =>
    match (G.ti t).kind with
    | .sl e =>
      match appTok st e (G.ti e).size d (evO st s), elemsOf st (evO st x) with
      | some (src, es), some xs =>
        t = t' ∧ (G.ti t).size ≠ 0 ∧ (G.ti e).size ≠ 0 ∧ (G.ti e).bytes ≠ 0 ∧ (∀ c ∈ es, c.length = (G.ti e).size) ∧ (∀ c ∈ xs, c.length = (G.ti e).size) ∧
        (es.length + xs.length) * (G.ti e).bytes ≤ 140737488355328 ∧
        K ((tokSt st src d (G.ti e).size (es.length + xs.length)).put (some d) (.vec d e (G.ti e).size (es ++ xs)))
      | _, _ => False
    | _ => False
  | _, _, _ => False

/-- WHAT A FUNCTION DOES that returns a slice whose spare nobody else has: it returns these elements; the capacity is the length, or the spare lies in a block that it made. -/
def CtrV (P : Program) (f : FuncId) (args : List IV) (e : TypeId) (s : Nat) (es : List (List IV)) : Prop :=
  ∀ (w : World) (M : Nat → Nat → Prop) (vs : List Value), (∀ b o, M b o → b < w.heap.size) → RepL w M args vs →
    Calls P f vs.toArray w fun en w' => ∃ v, en = .returned v ∧ Below w.heap.size w w' ∧ (Rep w' M (.sl es) v ∧ (∃ ad, v = .slice ad es.length es.length) ∨
      ∃ b cap cur, w.heap.size ≤ b ∧ b < w'.heap.size ∧ Rep w' (fun b' o => M b' o ∨ (b' = b ∧ es.length * s ≤ o)) (.sl es) v ∧ v = .slice (some ⟨b, 0, none⟩) es.length cap ∧ w'.heap[b]? = some (.cells cur e (0, 0)) ∧ es.length ≤ cap ∧ cap ≤ maxLen ∧ cur.size = cap * s)

def aCall (G : Ctx) (K : St → Prop) (st : St) (dst : Option Nat) (f : Operand) (args : List Operand) : Prop :=
  match evO st f, ivsOf (args.map (evO (st.lendOs args))) with
  | .im (.clo g caps), some xs =>
    (3 ≤ g ∧ g < G.fns) ∧ ((∃ φ : IV → Prop, Ctr G.P g (xs ++ caps) φ ∧ ∀ r, φ r → K ((if flatB r = true then st else st.lendOs args).put dst (.im r))) ∨
      ∃ d e s es, dst = some d ∧ CtrV G.P g (xs ++ caps) e s es ∧ (∀ c ∈ es, c.length = s) ∧ K ((tokSt (st.lendOs args) d d s es.length).put (some d) (.vec d e s es)))
  | _, _ => False

def aStore (G : Ctx) (K : St → Prop) (st : St) (dst : Option Nat) (t : TypeId) (p x : Operand) : Prop :=
  match ivOf (evO st x), evO st p with
  | some y, .loc d s i j => match look st.rows d with
    | some (s', es) => match es[i]? with
      | some c => s' = s ∧ (G.ti t).size ≠ 0 ∧ (cellsOf y).length = (G.ti t).size ∧ (cellsOf y).all IV.one = true ∧ j + (G.ti t).size ≤ c.length ∧
          K (St.put { st with rows := setRow st.rows d s (es.set i (setCells c j (cellsOf y))) } dst undefA)
      | none => False
    | none => False
  | _, _ => False

def aMake (G : Ctx) (K : St → Prop) (st : St) (dst : Option Nat) (t : TypeId) (l c : AV) : Prop :=
  match dst, l, c with
  | some d, .im (.sc (.int _ n)), .im (.sc (.int _ m)) => match (G.ti t).kind with
    | .sl e => match zeroIV G e with
      | some z => (G.ti t).size ≠ 0 ∧ n = m ∧ 0 ≤ n ∧ n * (G.ti e).bytes ≤ 140737488355328 ∧ (G.ti e).bytes ≠ 0 ∧ K (st.newArr d (G.ti e).size (List.replicate n.toNat z))
      | none => False
    | _ => False
  | _, _, _ => False

def aVal (G : Ctx) (K : St → Prop) (st : St) (o : Oper) : Prop :=
  match yv G st o with
  | some av => K (st.put o.dst av)
  | none => False

def isSl : TK → Bool
  | .sl _ => true
  | _ => false
/-- A slice held against nil: an empty one may be nil or not. -/
def aNil (G : Ctx) (K : St → Prop) (st : St) (dst : Option Nat) (op : BinOp) (t : TypeId) (x : Operand) : Prop :=
  match sliceEls (evO st x), op with
  | some es, .eql => (G.ti t).size ≠ 0 ∧ isSl (G.ti t).kind = true ∧ ∀ b : Bool, (b = true → es = []) → K (st.put dst (.im (.sc (.bool b))))
  | some es, .neq => (G.ti t).size ≠ 0 ∧ isSl (G.ti t).kind = true ∧ ∀ b : Bool, (b = true → es = []) → K (st.put dst (.im (.sc (.bool !b))))
  | _, _ => False
def aBin (G : Ctx) (K : St → Prop) (st : St) (o : Oper) (op : BinOp) (t : TypeId) (x y : Operand) : Prop :=
  match y with
  | .const (.slice none 0 0) => aNil G K st o.dst op t x
  | _ => aVal G K st o

def aop (G : Ctx) (o : Oper) (K : St → Prop) (st : St) : Prop :=
  match o.op with
  | .box _ x => match o.dst, ivOf (evO (st.lendO x) x) with
    | some d, some y => (cellsOf y).all IV.one = true ∧ K ((st.lendO x).newRow d (cellsOf y).length [cellsOf y])
    | _, _ => False
  | .alloc t => match o.dst, zeroIV G t with
    | some d, some z => K (st.newRow d z.length [z])
    | _, _ => False
  | .store t p x => aStore G K (st.lendO x) o.dst t p x
  | .makeSlice t l c => aMake G K st o.dst t (evO st l) (evO st c)
  | .makeFunc _ _ caps => aVal G K (st.lendOs caps.toList) o
  | .binOp op t x y _ => aBin G K st o op t x y
  | .call c => match c.callee with
    | .value f => aCall G K st o.dst f c.args.toList
    | .builtin b => match b with
      | .append => aAppend G K st o.dst c.argTypes.toList c.args.toList
      | _ => aVal G K st o
    | _ => False
  | _ => aVal G K st o

section
variable {G : Ctx} {N : Nat} {w0 w w' : World} {M M' M0 : Nat → Nat → Prop} {β β' : Nat → Option Nat} {st : St} {a : Act} {toks toks' : List (Nat × Nat × Nat)} {av : AV} {v : Value}

theorem Sim.newRowPut (h : Sim N w0 M0 β st a w) {d s : Nat} {es : List (List IV)} {cells : Array Value} {T : TypeId} (hd : d < N) (hes : ∀ e ∈ es, e.length = s)
    (hr : ∀ (i : Nat) e (j : Nat) x, es[i]? = some e → e[j]? = some x → x.one = true ∧ ∃ u, cells[i * s + j]? = some u ∧ Rep w (Mo M0 β st) x u) :
    Sim N w0 M0 (upd β d (some w.heap.size)) (st.newRow d s es) (a.put (some d) (.pointer (some ⟨w.heap.size, 0, none⟩))) (w.alloc (.cells cells T)) := by
  have h1 := (h.fresh d).newRow (T := T) (clean_fresh st d) hes (fun i e j x hi hj => by
    obtain ⟨h1, u, h2, h3⟩ := hr i e j x hi hj
    exact ⟨h1, u, h2, h3.less fun b o hm => Mo_fresh hm⟩)
  exact h1.put (dst := some d) (av := .loc d s 0 0) (fun d' e => by cases e; exact hd) ⟨w.heap.size, upd_same _ _ _, by simp⟩
theorem Sim.newArrPut (h : Sim N w0 M0 β st a w) {d s : Nat} {es : List (List IV)} {cells : Array Value} {T : TypeId} (hd : d < N) (hes : ∀ e ∈ es, e.length = s)
    (hr : ∀ (i : Nat) e (j : Nat) x, es[i]? = some e → e[j]? = some x → x.one = true ∧ ∃ u, cells[i * s + j]? = some u ∧ Rep w (Mo M0 β st) x u) :
    Sim N w0 M0 (upd β d (some w.heap.size)) (st.newArr d s es) (a.put (some d) (.slice (some ⟨w.heap.size, 0, none⟩) es.length es.length)) (w.alloc (.cells cells T)) := by
  have h1 := (h.fresh d).newRow (T := T) (clean_fresh st d) hes (fun i e j x hi hj => by
    obtain ⟨h1, u, h2, h3⟩ := hr i e j x hi hj
    exact ⟨h1, u, h2, h3.less fun b o hm => Mo_fresh hm⟩)
  exact h1.put (dst := some d) (av := .osl d s 0 es.length) (fun d' e => by cases e; exact hd) ⟨_, _, Nat.le_refl _, rfl, fun _ => ⟨w.heap.size, upd_same _ _ _, by simp⟩⟩

theorem one_row {w : World} {M} {y : IV} {yv : Value} (hy : Rep w M y yv) (ho : (cellsOf y).all IV.one = true) :
    ∀ (i : Nat) e (j : Nat) x, [cellsOf y][i]? = some e → e[j]? = some x → x.one = true ∧ ∃ u, yv.cells[i * (cellsOf y).length + j]? = some u ∧ Rep w M x u := by
  intro i e j x hi hj
  obtain ⟨hr, _⟩ := cellsOf_rep hy ho
  cases i with
  | succ i => simp at hi
  | zero =>
    simp at hi; subst hi
    have hlt : j < yv.cells.toList.length := by rw [← hr.1]; exact (List.getElem?_eq_some_iff.1 hj).1
    have hu := List.getElem?_eq_getElem hlt
    refine ⟨List.all_eq_true.1 ho x (List.mem_of_getElem? hj), _, ?_, hr.2 j x _ hj hu⟩
    rw [Nat.zero_mul, Nat.zero_add, ← Array.getElem?_toList]; exact hu

theorem callFunc_run {P : Program} {f : FuncId} (hf : callable P f = true) (args : Array Value) (w : World) : (callFunc f args).run P w = .ok (.enter f args) w := by
  unfold callable at hf
  split at hf
  · rename_i fn hfn
    simp only [Bool.and_eq_true, bne_iff_ne, ne_eq, Option.isSome_iff_exists] at hf
    obtain ⟨hn, c, hc⟩ := hf
    simp [callFunc, hfn, hn, hc]
  · cases hf

theorem osl_cells (h : Sim N w0 M0 β st a w) {d s i n : Nat} {es : List (List IV)} (hs : s ≠ 0) (hd : look st.rows d = some (s, es)) (hin : i + n ≤ es.length) (hv : RepA w (Mo M0 β st) β st.toks (.osl d s i n) v) :
    ∃ ad c g, v = .slice ad ((es.drop i).take n).length c ∧ ((es.drop i).take n ≠ [] → ∃ b o, ad = some ⟨b, o, none⟩ ∧ CellsAt w (Mo M0 β st) ⟨b, o, none⟩ ((es.drop i).take n).flatten g) := by
  obtain ⟨ad, c, hc, rfl, had⟩ := hv
  have hlen : ((es.drop i).take n).length = n := by simp; omega
  obtain ⟨b', hb', _, cur, T, hcur, hall, hcell⟩ := h.rows d s es hd
  refine ⟨ad, c, fun k => cur.getD (i * s + k) undef, by rw [hlen], fun hne => ?_⟩
  have hn0 : n ≠ 0 := fun e => hne (by subst e; simp)
  obtain ⟨b, hb, rfl⟩ := had hn0
  rw [hb] at hb'; cases hb'
  refine ⟨_, i * s, rfl, fun k x hk => ?_⟩
  have hall' : ∀ e ∈ (es.drop i).take n, e.length = s := fun e he => hall e (List.mem_of_mem_drop (List.mem_of_mem_take he))
  obtain ⟨e, h1, h2⟩ := flatten_split hs hall' hk
  have h1' : es[i + k / s]? = some e := by
    rw [List.getElem?_take] at h1
    split at h1
    · rwa [List.getElem?_drop] at h1
    · cases h1
  obtain ⟨ho, u, hu, hr⟩ := hcell _ e _ x h1' h2
  have hidx : (i + k / s) * s + k % s = i * s + k := by rw [Nat.add_mul]; have := Nat.div_add_mod k s; rw [Nat.mul_comm] at this; omega
  rw [hidx] at hu
  have hg : cur.getD (i * s + k) undef = u := by simp [hu]
  refine ⟨ho, ?_, by show Rep w _ x (cur.getD (i * s + k) undef); rw [hg]; exact hr⟩
  show _ = some (cur.getD (i * s + k) undef)
  rw [hg, Addr.add_lit, cell_of_row w _ _ cur T _ hcur, hu]

theorem elemsOf_cells (h : Sim N w0 M0 β st a w) {x : AV} {xs : List (List IV)} {s : Nat} (hs : s ≠ 0) (hx : elemsOf st x = some xs) (hl : ∀ c ∈ xs, c.length = s) (hv : RepA w (Mo M0 β st) β st.toks x v) (hos : ∀ d s' i n, x = .osl d s' i n → s' = s ∨ xs = []) :
    ∃ ad c g, v = .slice ad xs.length c ∧ (xs ≠ [] → ∃ b o, ad = some ⟨b, o, none⟩ ∧ CellsAt w (Mo M0 β st) ⟨b, o, none⟩ xs.flatten g) := by
  unfold elemsOf at hx
  split at hx
  · rename_i d s' i n
    split at hx
    · rename_i s2 es hd
      split at hx
      · rename_i hc
        obtain ⟨rfl, hin⟩ := hc
        cases hx
        rcases hos d s2 i n rfl with e | e
        · subst e; exact osl_cells h hs hd hin hv
        · obtain ⟨ad, c, hc, rfl, had⟩ := hv
          have hlen : ((es.drop i).take n).length = n := by simp; omega
          exact ⟨ad, c, fun _ => undef, by rw [hlen], fun hne => absurd e hne⟩
      · cases hx
    · cases hx
  · obtain ⟨ad, c, g, h1, _, h3⟩ := sl_cells hs (sliceEls_rep hv hx) hl
    exact ⟨ad, c, g, h1, h3⟩

theorem aVal_sound (hG : G.Good) (h : Sim N w0 M0 β st a w) {o : Oper} {K : St → Prop} (hd : ∀ d, o.dst = some d → d < N) (hA : aVal G K st o) {K' : Act → World → Prop} {Q' : Exit → Act → World → Prop}
    (hK : ∀ st' β' a' w', K st' → Sim N w0 M0 β' st' a' w' → K' a' w') : o.wp G.P a w K' Q' := by
  unfold aVal at hA
  split at hA
  · rename_i av hy
    obtain ⟨v, w', hr, hb, hv⟩ := yv_run hG.ok h hy
    unfold Oper.wp
    rw [hr]
    exact hK _ β _ _ hA ((h.ext hb).put hd hv)
  · exact hA.elim

theorem aCall_sound (hG : G.Good) (h : Sim N w0 M0 β st a w) {o : Oper} {c : Call} {f : Operand} {K : St → Prop} (ho : o.op = .call c) (hc : c.callee = .value f) (hd : ∀ d, o.dst = some d → d < N)
    (hA : aCall G K st o.dst f c.args.toList) {K' : Act → World → Prop} {Q' : Exit → Act → World → Prop} (hK : ∀ st' β' a' w', K st' → Sim N w0 M0 β' st' a' w' → K' a' w') : o.wp G.P a w K' Q' := by
  unfold aCall at hA
  split at hA
  · rename_i g caps xs hf hxs
    obtain ⟨hg, hA⟩ := hA
    have hl := h.lendOs c.args.toList
    have hargs := ivsOf_rep hl hxs
    have hfv := evO_rep h f
    rw [hf] at hfv
    obtain ⟨vs, hfe, hcaps⟩ := Rep.clo_inv hfv
    have hlM : ∀ b o, Mo M0 β (st.lendOs c.args.toList) b o → Mo M0 β st b o := by
      have : ∀ (xs : List Operand) (s : St), ∀ b o, Mo M0 β (s.lendOs xs) b o → Mo M0 β s b o := by
        intro xs
        induction xs with
        | nil => intro s b o hm; exact hm
        | cons x xs ih =>
          intro s b o hm
          have h1 := ih (s.lendO x) b o hm
          unfold St.lendO at h1
          split at h1
          · unfold St.lend at h1; split at h1
            · exact Mo_del h1
            · exact h1
          · unfold St.lend at h1; split at h1
            · exact Mo_del h1
            · exact h1
          · exact h1
      exact this _ _
    have hcaps' : RepL w (Mo M0 β (st.lendOs c.args.toList)) caps vs.toList := hcaps.kept (Kept.less w hlM)
    have hall : RepL w (Mo M0 β (st.lendOs c.args.toList)) (xs ++ caps) ((c.args.map a.eval) ++ vs).toList := by
      refine ⟨?_, fun k x v hx hv => ?_⟩
      · have h1 := hargs.1; have h2 := hcaps'.1
        simp at h1 h2
        simp [h1, h2]
      · rw [Array.toList_append, Array.toList_map] at hv
        have h1 := hargs.1
        by_cases hk : k < xs.length
        · rw [List.getElem?_append_left hk] at hx
          rw [List.getElem?_append_left (by omega)] at hv
          exact hargs.2 k x v hx hv
        · rw [List.getElem?_append_right (by omega)] at hx
          rw [List.getElem?_append_right (by omega), ← h1] at hv
          exact hcaps'.2 _ x v hx hv
    have hrun : (execOp a.eval o).run G.P w = .ok (.enter g (c.args.map a.eval ++ vs)) w := by
      unfold execOp
      rw [ho]
      simp only [resolve, hc, hfe, Deferred.ofValue, Sem.run_bind, Sem.run_pure, Result.andThen_ok, Array.empty_append, invoke, callFunc_run (hG.fn g hg)]
    rcases hA with ⟨φ, hctr, hKφ⟩ | ⟨d, e, s, es, hdst, hctr, hes, hKv⟩
    · have hcalls := hctr w (Mo M0 β (st.lendOs c.args.toList)) _ (fun b o hm => hl.mlt hm) hall
      unfold Oper.wp
      rw [hrun, Oper.upon_enter]
      rw [Array.toArray_toList] at hcalls
      refine hcalls.mono fun e w' ⟨r, v, hr, he, hv, hb⟩ => ?_
      subst he
      have := hKφ r hr
      by_cases hfl : flatB r = true
      · rw [if_pos hfl] at this
        exact hK _ β _ _ this ((h.ext hb).put hd (Rep.flat hv (flatB_flat hfl)))
      · rw [if_neg hfl] at this
        exact hK _ β _ _ this ((hl.ext hb).put hd hv)
    · have hcalls := hctr w (Mo M0 β (st.lendOs c.args.toList)) _ (fun b o hm => hl.mlt hm) hall
      unfold Oper.wp
      rw [hrun, Oper.upon_enter]
      rw [Array.toArray_toList] at hcalls
      refine hcalls.mono fun en w' ⟨v, he, hb, hv⟩ => ?_
      subst he
      have key : ∃ X : Option Nat, (∀ b, X = some b → w.heap.size ≤ b ∧ b < w'.heap.size) ∧ RepA w' (Mo M0 (upd β d X) (tokSt (st.lendOs c.args.toList) d d s es.length)) (upd β d X) ((d, s, es.length) :: del (del (st.lendOs c.args.toList).toks d) d) (.vec d e s es) v := by
        have hmo : ∀ X b o, Mo M0 (upd β d X) (tokSt (st.lendOs c.args.toList) d d s es.length) b o → Mo M0 β (st.lendOs c.args.toList) b o ∨ (X = some b ∧ es.length * s ≤ o) := by
          rintro X b o (hm | ⟨d', s', es', hd', hb'⟩ | ⟨d', s', n', hd', hb', ho'⟩)
          · exact .inl (.inl hm)
          · have hne : d' ≠ d := fun e => by subst e; simp [tokSt, look_del_same] at hd'
            rw [upd_ne _ _ hne] at hb'
            simp only [tokSt, look_del_ne _ hne] at hd'
            exact .inl (.inr (.inl ⟨d', s', es', hd', hb'⟩))
          · by_cases hne : d' = d
            · subst hne
              rw [upd_same] at hb'
              simp only [tokSt, look_cons_same, Option.some.injEq, Prod.mk.injEq] at hd'
              obtain ⟨rfl, rfl⟩ := hd'
              exact .inr ⟨hb', ho'⟩
            · rw [upd_ne _ _ hne] at hb'
              have := (tok_other hne hd').2
              exact .inl (.inr (.inr ⟨d', s', n', this, hb', ho'⟩))
        rcases hv with ⟨hr, hc⟩ | ⟨b, cap, cur, h1, h2, h3, h4, h5, h6, h7, h8⟩
        · refine ⟨none, (by simp), hr.less fun b o hm => ?_, hes, fun _ => .inl hc⟩
          rcases hmo none b o hm with hm | ⟨e, _⟩
          · exact hm
          · cases e
        · refine ⟨some b, (fun b' e => by cases e; exact ⟨h1, h2⟩), h3.less fun b' o hm => ?_, hes, fun _ => .inr ⟨b, cap, cur, upd_same _ _ _, h4, h5, h6, h7, h8⟩⟩
          rcases hmo _ b' o hm with hm | ⟨e, ho⟩
          · exact .inl hm
          · cases e; exact .inr ⟨rfl, ho⟩
      obtain ⟨X, hX, hrep⟩ := key
      have hsim := hl.newTok (w' := w') (src := d) (dst := d) (s := s) (n := es.length) (X := X) ?_ (hl.below.trans (hb.mono hl.below.size)) hb.size ?_ ?_ (.inl rfl)
      · rw [hdst]
        exact hK _ _ _ _ hKv (hsim.put (fun d' e' => by cases e'; exact hd d hdst) hrep)
      · intro b o u hc hm
        have hbl : b < w.heap.size := World.block_lt_of_cell? (a := ⟨b, o, none⟩) w hc
        refine ⟨by rw [← hc]; exact hb.cell hbl, ?_⟩
        rintro (hm' | ⟨d', s', es', hd', hb'⟩ | ⟨d', s', n', hd', hb', ho'⟩)
        · exact hm (.inl hm')
        · have hne : d' ≠ d := fun e => by subst e; simp [tokSt, look_del_same] at hd'
          rw [upd_ne _ _ hne] at hb'
          simp only [tokSt, look_del_ne _ hne] at hd'
          exact hm (.inr (.inl ⟨d', s', es', hd', hb'⟩))
        · by_cases hne : d' = d
          · subst hne
            rw [upd_same] at hb'
            have := (hX b hb').1
            omega
          · rw [upd_ne _ _ hne] at hb'
            exact hm (.inr (.inr ⟨d', s', n', (tok_other hne hd').2, hb', ho'⟩))
      · intro k b hk hlk
        have hbl : b < w.heap.size := by
          rcases hlk with h1 | ⟨h1, _⟩
          · obtain ⟨⟨s', es'⟩, hx⟩ := Option.isSome_iff_exists.1 h1
            obtain ⟨b', hb', _, cur, T, hcur, _⟩ := hl.rows k s' es' hx
            rw [hk] at hb'; cases hb'
            exact (Array.getElem?_eq_some_iff.1 hcur).1
          · obtain ⟨⟨s', n'⟩, hx⟩ := Option.isSome_iff_exists.1 h1
            exact (hl.toks k s' n' hx b hk).2
        exact hb.block b hbl
      · intro b hXb
        obtain ⟨h1, h2⟩ := hX b hXb
        refine ⟨by have := hl.below.size; omega, h2, fun k _ _ hlk hk => ?_⟩
        rcases hlk with h3 | h3
        · obtain ⟨⟨s', es'⟩, hx⟩ := Option.isSome_iff_exists.1 h3
          obtain ⟨b', hb', _, cur, T, hcur, _⟩ := hl.rows k s' es' hx
          rw [hk] at hb'; cases hb'
          have := (Array.getElem?_eq_some_iff.1 hcur).1
          omega
        · obtain ⟨⟨s', n'⟩, hx⟩ := Option.isSome_iff_exists.1 h3
          have := (hl.toks k s' n' hx b hk).2
          omega
  · exact hA.elim

theorem aop_sound (hG : G.Good) (h : Sim N w0 M0 β st a w) {o : Oper} {K : St → Prop} (hd : ∀ d, o.dst = some d → d < N) (hA : aop G o K st) {K' : Act → World → Prop} {Q' : Exit → Act → World → Prop}
    (hK : ∀ st' β' a' w', K st' → Sim N w0 M0 β' st' a' w' → K' a' w') : o.wp G.P a w K' Q' := by
  unfold aop at hA
  split at hA
  · -- box
    rename_i t x ho
    split at hA
    · rename_i d y hdst hy
      obtain ⟨hone, hA⟩ := hA
      have hl := h.lendO x
      have hr := ivOf_rep (evO_rep hl x) hy
      have hrow := one_row hr hone
      have := hl.newRowPut (T := t) (hd d hdst) (es := [cellsOf y]) (fun e he => by simp at he; rw [he]) hrow
      unfold Oper.wp execOp
      rw [ho]
      simp only [Instr.box, newVar, newRow, Sem.run_bind, run_newObj, Result.andThen_ok, Sem.run_pure, World.alloc_eq, Oper.upon_value, hdst]
      exact hK _ _ _ _ hA this
    · exact hA.elim
  · -- alloc
    rename_i t ho
    split at hA
    · rename_i d z hdst hz
      obtain ⟨zv, hzr, hz1, hz2, _, hzs⟩ := zeroIV_run hG.ok hz w (Mo M0 β st)
      have hrow : ∀ (i : Nat) e (j : Nat) x, [z][i]? = some e → e[j]? = some x → x.one = true ∧ ∃ u, zv.cells[i * z.length + j]? = some u ∧ Rep w (Mo M0 β st) x u := by
        intro i e j x hi hj
        cases i with
        | succ i => simp at hi
        | zero =>
          simp at hi; subst hi
          have hlt : j < zv.cells.toList.length := by rw [← hz1.1]; exact (List.getElem?_eq_some_iff.1 hj).1
          have hu := List.getElem?_eq_getElem hlt
          refine ⟨hz2 x (List.mem_of_getElem? hj), _, ?_, hz1.2 j x _ hj hu⟩
          rw [Nat.zero_mul, Nat.zero_add, ← Array.getElem?_toList]; exact hu
      have := h.newRowPut (T := t) (hd d hdst) (es := [z]) (fun e he => by simp at he; rw [he]) hrow
      unfold Oper.wp execOp
      rw [ho]
      simp only [Instr.alloc, Sem.run_bind, hzr, Result.andThen_ok, newVar, newRow, run_newObj, Sem.run_pure, World.alloc_eq, Oper.upon_value, hdst]
      exact hK _ _ _ _ hA this
    · exact hA.elim
  · -- store
    rename_i t p x ho
    unfold aStore at hA
    split at hA
    · rename_i y d s i j hy hp
      split at hA
      · rename_i s' es hrow
        split at hA
        · rename_i c hi
          obtain ⟨rfl, h0, hl, hone, hj, hA⟩ := hA
          have hls := h.lendO x
          have hr := ivOf_rep (evO_rep hls x) hy
          have hpv := evO_rep hls p
          rw [hp] at hpv
          obtain ⟨w', hrun, hsim⟩ := store_run hG.ok hls h0 hrow hi hl hone hj hpv hr
          unfold Oper.wp execOp
          rw [ho]
          simp only [Sem.run_bind, hrun, Result.andThen_ok, Sem.run_pure, Oper.upon_skip]
          exact hK _ _ _ _ hA (hsim.put hd (Rep.sc _ rfl))
        · exact hA.elim
      · exact hA.elim
    · exact hA.elim
  · -- makeSlice
    rename_i t l c ho
    unfold aMake at hA
    split at hA
    · rename_i d k n k' m hdst hl hc
      split at hA
      · rename_i e hk
        split at hA
        · rename_i z hz
          obtain ⟨h0, rfl, hn, hb, hb0, hA⟩ := hA
          obtain ⟨zv, hzr, hz1, hz2, h1, hzs⟩ := zeroIV_run hG.ok hz w (Mo M0 β st)
          obtain ⟨i, z', hi, hsz, hbt, hz', _⟩ := hG.ok.info h1
          have hzz : zv = z' := by
            simp [zeroValue, typeInfo, hi, hz'] at hzr
            exact hzr.symm
          subst hzz
          have hu := hG.ok.sl h0 hk
          have hlv := evO_rep h l; rw [hl] at hlv
          have hcv := evO_rep h c; rw [hc] at hcv
          have hb1 : n ≤ 140737488355328 := by
            have h2 : n * 1 ≤ n * ((G.ti e).bytes : Int) := Int.mul_le_mul_of_nonneg_left (by omega) hn
            omega
          have hmk := run_make (P := G.P) w t e i zv hu hi hz' k k' n n hn (Int.le_refl _) (by rw [hbt, Int.mul_comm]; omega) (by omega)
          have hzlen : z.length = (G.ti e).size := by have := hz1.1; simp at this; omega
          have hrow : ∀ (i' : Nat) e' (j : Nat) x, (List.replicate n.toNat z)[i']? = some e' → e'[j]? = some x → x.one = true ∧ ∃ u, (madeCells zv.cells (n.toNat * i.size))[i' * (G.ti e).size + j]? = some u ∧ Rep w (Mo M0 β st) x u := by
            intro i' e' j x hi' hj
            rw [List.getElem?_replicate] at hi'
            split at hi'
            · rename_i hlt
              cases hi'
              have hjl : j < zv.cells.toList.length := by rw [← hz1.1]; exact (List.getElem?_eq_some_iff.1 hj).1
              have hu := List.getElem?_eq_getElem hjl
              have hjs : j < (G.ti e).size := by simp at hjl; omega
              refine ⟨hz2 x (List.mem_of_getElem? hj), _, ?_, hz1.2 j x _ hj hu⟩
              have hin : i' * (G.ti e).size + j < n.toNat * (G.ti e).size := by
                have : (i' + 1) * (G.ti e).size ≤ n.toNat * (G.ti e).size := Nat.mul_le_mul_right _ hlt
                rw [Nat.add_mul] at this; omega
              have hmod : (i' * (G.ti e).size + j) % zv.cells.size = j := by
                rw [hzs, Nat.mul_comm, Nat.mul_add_mod]; exact Nat.mod_eq_of_lt hjs
              have hjz : j < zv.cells.size := by simpa using hjl
              simp [madeCells, hsz, hin, hmod, hjz]
            · cases hi'
          have := h.newArrPut (T := e) (hd d hdst) (es := List.replicate n.toNat z) (fun e' he => by rw [List.eq_of_mem_replicate he]; exact hzlen) hrow
          rw [List.length_replicate] at this
          unfold Oper.wp execOp
          rw [ho]
          simp only [Rep.sc_inv hlv, Rep.sc_inv hcv, Sem.run_bind, hmk, Result.andThen_ok, Sem.run_pure, Oper.upon_value, hdst]
          exact hK _ _ _ _ hA this
        · exact hA.elim
      · exact hA.elim
    · exact hA.elim
  · -- makeFunc
    exact aVal_sound hG (h.lendOs _) hd hA hK
  · -- binOp
    rename_i op t x y u ho
    unfold aBin at hA
    split at hA
    · have key : ∀ es, sliceEls (evO st x) = some es → (G.ti t).size ≠ 0 → isSl (G.ti t).kind = true → ∃ b : Bool, (b = true → es = []) ∧
          (op = .eql → (execOp a.eval o).run G.P w = .ok (.value (.bool b)) w) ∧ (op = .neq → (execOp a.eval o).run G.P w = .ok (.value (.bool !b)) w) := by
        intro es hes h0 hk
        obtain ⟨ad, c, hv, _⟩ := (sliceEls_rep (evO_rep h x) hes).sl_len
        unfold isSl at hk
        split at hk
        · rename_i e' hk'
          have hu := hG.ok.sl h0 hk'
          refine ⟨ad.isNone, fun hn => ?_, ?_⟩
          · have hr := sliceEls_rep (evO_rep h x) hes
            rw [hv] at hr
            rcases hr.sl_inv with ⟨rfl, _⟩ | ⟨s', b, o', cap, u', hne, hs', hcap, h4, h5, he⟩
            · rfl
            · simp only [Value.slice.injEq] at he
              rw [he.1] at hn; simp at hn
          · have heq : ∀ d, (Op.equalIn (d + 1) t (.slice ad es.length c) (.slice none 0 0)).run G.P w = .ok ad.isNone w := by
              intro d
              cases ad <;> simp [Op.equalIn, run_underlying hu]
            have heq' : (Op.equal t (.slice ad es.length c) (.slice none 0 0)).run G.P w = .ok ad.isNone w := heq _
            constructor
            · intro e; subst e
              unfold execOp; rw [ho]; dsimp only
              have : a.eval (.const (.slice none 0 0)) = .slice none 0 0 := rfl
              rw [this, hv]
              simp [eqGuard, binOp, heq']
            · intro e; subst e
              unfold execOp; rw [ho]; dsimp only
              have : a.eval (.const (.slice none 0 0)) = .slice none 0 0 := rfl
              rw [this, hv]
              simp [eqGuard, binOp, heq']
        · cases hk
      unfold aNil at hA
      split at hA
      · rename_i es hes
        obtain ⟨h0, h1, hA⟩ := hA
        obtain ⟨b, hb, hrun, _⟩ := key es hes h0 h1
        unfold Oper.wp
        rw [hrun rfl]
        exact hK _ β _ _ (hA b hb) (h.put hd (Rep.sc _ rfl))
      · rename_i es hes
        obtain ⟨h0, h1, hA⟩ := hA
        obtain ⟨b, hb, _, hrun⟩ := key es hes h0 h1
        unfold Oper.wp
        rw [hrun rfl]
        exact hK _ β _ _ (hA b hb) (h.put hd (Rep.sc _ rfl))
      · exact hA.elim
    · exact aVal_sound hG h hd hA hK
  · -- call
    rename_i c ho
    split at hA
    · rename_i f hc
      exact aCall_sound hG h ho hc hd hA hK
    · rename_i b hc
      split at hA
      · -- append
        unfold aAppend at hA
        split at hA
        · rename_i d t t' s x hdst hts has
          split at hA
          · rename_i e hk
            split at hA
            · rename_i src es xs hsrc hxs
              obtain ⟨rfl, h0, h1, hby, hle, hlx, hbound, hA⟩ := hA
              have hsv := evO_rep h s
              have hxv := evO_rep h x
              have hkey : Rep w (Mo M0 β st) (.sl es) (a.eval s) ∧ Spare w β st e src (G.ti e).size es.length (a.eval s) ∧ (src = d ∨ look st.rows src = none) := by
                unfold appTok at hsrc
                split at hsrc
                · rename_i es' hes
                  cases hsrc
                  rw [hes] at hsv
                  exact ⟨hsv.1, .inl hsv.2, .inl rfl⟩
                · rename_i d' e' s' es' hes
                  split at hsrc
                  · rename_i hcc
                    obtain ⟨rfl, rfl, htok, hdd⟩ := hcc
                    cases hsrc
                    rw [hes] at hsv
                    refine ⟨hsv.1, ?_, hdd⟩
                    rcases hsv.2.2 htok with hh | hh
                    · exact .inl hh
                    · exact .inr ⟨htok, hh⟩
                  · cases hsrc
                · cases hsrc
              have hos : ∀ d' s' i n, evO st x = .osl d' s' i n → s' = (G.ti e).size ∨ xs = [] := by
                intro d' s' i n hx
                rw [hx] at hxs
                simp only [elemsOf] at hxs
                split at hxs
                · rename_i s2 es2 hrow
                  split at hxs
                  · rename_i hcc
                    obtain ⟨rfl, hin⟩ := hcc
                    cases hxs
                    by_cases hnil : (es2.drop i).take n = []
                    · exact .inr hnil
                    · left
                      obtain ⟨c0, hc0⟩ := List.exists_mem_of_ne_nil _ hnil
                      obtain ⟨_, _, _, _, _, _, hall, _⟩ := h.rows d' s2 es2 hrow
                      rw [← hlx c0 hc0, hall c0 (List.mem_of_mem_drop (List.mem_of_mem_take hc0))]
                  · cases hxs
                · cases hxs
              have hxc := elemsOf_cells h h1 hxs hlx hxv hos
              obtain ⟨v', w', β', hrun, hsim, hrep⟩ := append_run (ty := o.type) hG.ok h h0 hk h1 hby hle hlx hbound hkey.1 hkey.2.1 hkey.2.2 hxc
              have hat : c.argTypes = #[t, t] := by apply Array.ext'; simpa using hts
              have haa : c.args = #[s, x] := by apply Array.ext'; simpa using has
              unfold Oper.wp execOp
              rw [ho]
              simp only [resolve, hc, hat, haa, invoke, builtin, Sem.run_bind, Sem.run_pure, Result.andThen_ok, List.map_toArray, List.map_cons, List.map_nil, hrun, Oper.upon_value, hdst]
              exact hK _ _ _ _ hA (hsim.put (fun d' e' => by cases e'; exact hd d hdst) hrep)
            · exact hA.elim
          · exact hA.elim
        · exact hA.elim
      · exact aVal_sound hG h hd hA hK
    · exact hA.elim
  · exact aVal_sound hG h hd hA hK
end
end Go.Abs
