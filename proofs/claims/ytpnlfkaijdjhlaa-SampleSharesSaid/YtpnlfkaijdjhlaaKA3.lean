/-
  Code, loops, functions. Program-independent. The generic layer under all claims of this repo: 16 of several.
-/
import Derived.Test.YtpnlfkaijdjhlaaKA2
import Derived.Attr
namespace Go.Abs
set_option linter.all false
open Go.RowKit (Below)

/-- What is kept of a state at a loop's head. -/
def St.keep (st : St) (L R : List Nat) : St :=
  ⟨L.map fun t => (t, st.get t), st.rows.filter fun p => R.contains p.1, st.toks.filter fun p => R.contains p.1⟩

/-- What stands as s says stands as s' says, too. -/
def St.Le (s s' : St) : Prop := ∀ (N : Nat) (w0 : World) (M0 : Nat → Nat → Prop) (β : Nat → Option Nat) (a : Act) (w : World), Sim N w0 M0 β s a w → ∃ β', Sim N w0 M0 β' s' a w
theorem St.Le.refl (s : St) : St.Le s s := fun _ _ _ β _ _ h => ⟨β, h⟩
theorem St.Le.trans {s s' s'' : St} (h : St.Le s s') (h' : St.Le s' s'') : St.Le s s'' := fun N w0 M0 β a w hs => let ⟨β', h1⟩ := h N w0 M0 β a w hs; h' N w0 M0 β' a w h1

def awp (G : Ctx) : Code → (Exit → St → Prop) → St → Prop
  | .skip, Q, st => Q .normal st
  | .seq x y, Q, st => awp G x (fun e s => match e with | .normal => awp G y Q s | e => Q e s) st
  | .cond c x y, Q, st => match evO st c with
    | .im (.sc (.bool t)) => (t = true → awp G x Q st) ∧ (t = false → awp G y Q st)
    | _ => False
  | .block id c, Q, st => awp G c (fun e s => match e with | .exit k => if k = id then Q .normal s else Q (.exit k) s | e => Q e s) st
  | .loop c, Q, st => ∃ (L R : List Nat) (I : Nat → St → Prop) (n : Nat), (∃ s0, St.Le (st.keep L R) s0 ∧ I n s0) ∧
      ∀ n s, I n s → awp G c (fun e s' => match e with | .normal => ∃ n', n' < n ∧ ∃ s1, St.Le (s'.keep L R) s1 ∧ I n' s1 | e => Q e s') s
  | .exit id, Q, st => Q (.exit id) st
  | .ret, Q, st => Q .ret st
  | .region _ ops draw, Q, st =>
    if draw = true then (∃ n, drawB ops n = true ∧ ahead G ops.toList (fun s => alist G ops.toList (Q .normal) (ops.toList.drop n) s) (ops.toList.take n) st) ∨
      (drawS ops = true ∧ aheadS G ops.toList (aStores0 G (Q .normal) ops.toList) ops.toList (freshAll G ops.toList st))
    else alist G ops.toList (Q .normal) ops.toList st
  | _, _, _ => False

def dstsB (N : Nat) (ops : List Oper) : Bool := ops.all fun o => match o.dst with
  | some d => decide (d < N)
  | none => true
def dstB (N : Nat) : Code → Bool
  | .region _ ops _ => dstsB N ops.toList
  | .seq x y => dstB N x && dstB N y
  | .cond _ x y => dstB N x && dstB N y
  | .block _ c => dstB N c
  | .loop c => dstB N c
  | _ => true

def initFr : Nat → List IV → List (Nat × AV)
  | _, [] => []
  | k, x :: xs => (k, .im x) :: initFr (k + 1) xs
def initSt (args : List IV) : St := ⟨initFr 0 args, [], []⟩

def resIV (G : Ctx) (st : St) : ResultVar → Option IV
  | .tmp t => ivOf (st.get t)
  | .cell p ty => match yLoad G st ty (st.get p) with
    | some (.im x) => some x
    | _ => none
def resL (G : Ctx) (st : St) : List ResultVar → Option (List IV)
  | [] => some []
  | r :: rs => match resIV G st r, resL G st rs with
    | some x, some xs => some (x :: xs)
    | _, _ => none
def lendR (st : St) : List ResultVar → St
  | [] => st
  | .tmp t :: rs => lendR (st.lendO (.tmp t)) rs
  | .cell _ _ :: rs => lendR st rs
def aRet (G : Ctx) (rs : List ResultVar) (φ : IV → Prop) (st : St) : Prop :=
  match resL G (lendR st rs) rs with
  | some [x] => φ x
  | some xs => φ (.tup xs)
  | none => False

section
variable {G : Ctx} {N : Nat} {w0 w w' : World} {M0 : Nat → Nat → Prop} {β : Nat → Option Nat} {st st' : St} {a : Act}

theorem look_filter {α : Type} (l : List (Nat × α)) (R : List Nat) (d : Nat) : look (l.filter fun p => R.contains p.1) d = if R.contains d = true then look l d else none := by
  induction l with
  | nil => simp [look]
  | cons p l ih =>
    obtain ⟨j, v⟩ := p
    by_cases hj : R.contains j = true
    · rw [List.filter_cons_of_pos (by simpa using hj)]
      by_cases hd : d = j
      · subst hd; simp only [look, if_true]; rw [if_pos hj]
      · simp only [look, hd, if_false, ih]
    · rw [List.filter_cons_of_neg (by simpa using hj), ih]
      by_cases hd : d = j
      · subst hd; rw [if_neg hj, if_neg hj]
      · simp only [look, hd, if_false]
theorem get_keep (st : St) (L R : List Nat) (t : Nat) : (st.keep L R).get t = if t ∈ L then st.get t else .und := by
  simp only [St.get, St.keep]
  induction L with
  | nil => simp [look]
  | cons x L ih =>
    by_cases h : t = x
    · subst h; simp [look]
    · simp only [List.map_cons, look, h, if_false, List.mem_cons, false_or]; exact ih

theorem Sim.keep (h : Sim N w0 M0 β st a w) (L R : List Nat) : Sim N w0 M0 β (st.keep L R) a w := by
  have hrow : ∀ d x, look (st.keep L R).rows d = some x → look st.rows d = some x := fun d x hx => by
    simp only [St.keep, look_filter] at hx
    split at hx
    · exact hx
    · cases hx
  have htok : ∀ d x, look (st.keep L R).toks d = some x → look st.toks d = some x := fun d x hx => by
    simp only [St.keep, look_filter] at hx
    split at hx
    · exact hx
    · cases hx
  have hM : ∀ b o, Mo M0 β (st.keep L R) b o → Mo M0 β st b o := by
    rintro b o (hm | ⟨d, s, es, hd, hb⟩ | ⟨d, s, n, hd, hb⟩)
    · exact .inl hm
    · exact .inr (.inl ⟨d, s, es, hrow _ _ hd, hb⟩)
    · exact .inr (.inr ⟨d, s, n, htok _ _ hd, hb⟩)
  have some_of : ∀ {α : Type} {o o' : Option α}, (∀ x, o = some x → o' = some x) → o.isSome → o'.isSome := fun h ho => by
    obtain ⟨x, hx⟩ := Option.isSome_iff_exists.1 ho
    rw [h x hx]; rfl
  refine ⟨h.size, h.defers, h.below, h.m0, fun t => ?_, fun d s es hd => ?_, fun d s n hd => h.toks d s n (htok _ _ hd), fun d d' b h1 h2 => ?_, fun d hd => ?_⟩
  · rw [get_keep]
    split
    · exact (h.fr t).move (Kept.less w hM) (fun _ _ => rfl) (fun d s n _ hl => htok _ _ hl) (fun _ _ _ _ _ => rfl)
    · trivial
  · obtain ⟨b, h1, h2, h3⟩ := h.rows d s es (hrow _ _ hd)
    exact ⟨b, h1, h2, h3.move (Kept.less w hM) rfl⟩
  · exact h.inj d d' b (h1.imp (some_of (hrow d)) (some_of (htok d))) (h2.imp (some_of (hrow d')) (some_of (htok d')))
  · have := h.excl d (some_of (hrow d) hd)
    cases hl : look (st.keep L R).toks d with
    | none => rfl
    | some x => rw [htok d x hl] at this; cases this

def liftQ (N : Nat) (w0 : World) (M0 : Nat → Nat → Prop) (Q : Exit → St → Prop) (e : Exit) (a : Act) (w : World) : Prop := ∃ β st, Q e st ∧ Sim N w0 M0 β st a w

theorem dsts_of {ops : List Oper} (h : dstsB N ops = true) : ∀ o ∈ ops, ∀ d, o.dst = some d → d < N := fun o ho d hd => by
  have := List.all_eq_true.1 h o ho
  rw [hd] at this
  simpa using this

theorem awp_sound (hG : G.Good) : ∀ (c : Code) (Q : Exit → St → Prop) (st : St) (β : Nat → Option Nat) (a : Act) (w : World), dstB N c = true → awp G c Q st → Sim N w0 M0 β st a w →
    c.wp G.P (liftQ N w0 M0 Q) a w := by
  intro c
  induction c with
  | skip => intro Q st β a w _ hA h; exact wp_skip ⟨β, st, hA, h⟩
  | region id ops draw =>
    intro Q st β a w hd hA h
    have hds := dsts_of hd
    unfold awp at hA
    cases draw with
    | true =>
      rcases hA with ⟨n, hB, hA⟩ | ⟨hB, hA⟩
      case inr =>
        have := drawS_sound (ops := ops.toList) (K := Q .normal) (Q' := liftQ N w0 M0 Q) hG id (by simpa using hB) hds (fun st' β' a' w' hk hs => ⟨β', st', hk, hs⟩) h hA
        simpa using this
      have := draw_sound (ops := ops.toList) (K := Q .normal) (Q' := liftQ N w0 M0 Q) hG id n (by simpa using hB) hds (fun st' β' a' w' hk hs => ⟨β', st', hk, hs⟩) h hA
      simpa using this
    | false =>
      have := alist_sound (ops := ops.toList) (K := Q .normal) (Q' := liftQ N w0 M0 Q) hG (fun st' β' a' w' hk hs => ⟨β', st', hk, hs⟩) ops.toList st β a w hds (by simpa using hA) h
      exact wp_region_list (by simpa using this)
  | seq x y ihx ihy =>
    intro Q st β a w hd hA h
    simp only [dstB, Bool.and_eq_true] at hd
    refine wp_seq (wp_mono (ihx _ st β a w hd.1 hA h) fun e a' w' hq => ?_)
    obtain ⟨β', st', hq, hs⟩ := hq
    cases e with
    | normal => exact ihy Q st' β' a' w' hd.2 hq hs
    | _ => exact ⟨β', st', hq, hs⟩
  | cond c x y ihx ihy =>
    intro Q st β a w hd hA h
    simp only [dstB, Bool.and_eq_true] at hd
    unfold awp at hA
    split at hA
    · rename_i t ht
      have hv := evO_rep h c
      rw [ht] at hv
      have hc := Rep.sc_inv hv
      exact wp_cond_split hc (fun e => ihx Q st β a w hd.1 (hA.1 e) h) (fun e => ihy Q st β a w hd.2 (hA.2 e) h)
    · exact hA.elim
  | block id c ih =>
    intro Q st β a w hd hA h
    refine wp_block (wp_mono (ih _ st β a w hd hA h) fun e a' w' hq => ?_)
    obtain ⟨β', st', hq, hs⟩ := hq
    cases e with
    | exit k =>
      dsimp only at hq
      show (if k = id then liftQ N w0 M0 Q .normal a' w' else liftQ N w0 M0 Q (.exit k) a' w')
      by_cases hk : k = id
      · rw [if_pos hk] at hq ⊢; exact ⟨β', st', hq, hs⟩
      · rw [if_neg hk] at hq ⊢; exact ⟨β', st', hq, hs⟩
    | _ => exact ⟨β', st', hq, hs⟩
  | loop c ih =>
    intro Q st β a w hd hA h
    obtain ⟨L, R, I, n, ⟨s0, hle, h0⟩, hround⟩ := hA
    obtain ⟨β0, hs0⟩ := hle N w0 M0 β a w (h.keep L R)
    refine wp_loop_ghost (fun n a w => ∃ β s, I n s ∧ Sim N w0 M0 β s a w) n ⟨β0, _, h0, hs0⟩ fun n a w ⟨β, s, hI, hs⟩ => ?_
    refine wp_mono (ih _ s β a w hd (hround n s hI) hs) fun e a' w' hq => ?_
    obtain ⟨β', st', hq, hs'⟩ := hq
    cases e with
    | normal =>
      obtain ⟨n', hlt, s1, hle, hI'⟩ := hq
      obtain ⟨β1, hs1⟩ := hle N w0 M0 β' a' w' (hs'.keep L R)
      exact ⟨n', hlt, β1, _, hI', hs1⟩
    | _ => exact ⟨β', st', hq, hs'⟩
  | exit id => intro Q st β a w _ hA h; exact wp_exit ⟨β, st, hA, h⟩
  | ret => intro Q st β a w _ hA h; exact wp_ret ⟨β, st, hA, h⟩
  | rangeFunc f ps x y _ _ => intro Q st β a w _ hA h; exact hA.elim
  | scope c _ => intro Q st β a w _ hA h; exact hA.elim
  | label l => intro Q st β a w _ hA h; exact hA.elim
  | goto l => intro Q st β a w _ hA h; exact hA.elim
  | refuse s => intro Q st β a w _ hA h; exact hA.elim

theorem Sim.lendR (h : Sim N w0 M0 β st a w) (rs : List ResultVar) : Sim N w0 M0 β (lendR st rs) a w := by
  induction rs generalizing st with
  | nil => exact h
  | cons r rs ih =>
    cases r with
    | tmp t => exact ih (h.lendO _)
    | cell p ty => exact ih h

def resF (tmps : Array Value) : ResultVar → Sem Value
  | .tmp t => pure (tmps.getD t undef)
  | .cell p t => do loadVar t (← asAddr (tmps.getD p undef))
theorem results_eq (fn : Func) (tmps : Array Value) : results fn tmps = (do let vs ← fn.results.mapM (resF tmps); pure (if h : vs.size = 1 then vs[0] else .tuple vs) : Sem Value) := rfl

theorem resL_run (hG : G.Good) (h : Sim N w0 M0 β st a w) : ∀ {rs : List ResultVar} {xs : List IV}, resL G st rs = some xs →
    ∃ vs, (rs.mapM (resF a.tmps)).run G.P w = .ok vs w ∧ RepL w (Mo M0 β st) xs vs
  | [], xs, hx => by cases hx; exact ⟨[], rfl, RepL.nil⟩
  | r :: rs, xs, hx => by
    unfold resL at hx
    split at hx
    · rename_i y ys hy hys
      cases hx
      obtain ⟨vs, h1, h2⟩ := resL_run hG h hys
      have key : ∃ v, (resF a.tmps r).run G.P w = .ok v w ∧ Rep w (Mo M0 β st) y v := by
        cases r with
        | tmp t => exact ⟨_, rfl, ivOf_rep (h.fr t) hy⟩
        | cell p ty =>
          simp only [resIV] at hy
          split at hy
          · rename_i x hl
            cases hy
            have hp := h.fr p
            obtain ⟨v, h3, h4⟩ := yLoad_run hG.ok h hp hl
            refine ⟨v, ?_, h4⟩
            have hptr : ∃ ad, a.tmps.getD p undef = .pointer (some ad) := by
              unfold yLoad at hl
              split at hl
              · cases hl
              · split at hl
                · rename_i c j he
                  rw [he] at hp
                  obtain ⟨b, o, u, e, _⟩ := ip_inv hp
                  exact ⟨_, e⟩
                · rename_i d s i j he
                  rw [he] at hp
                  obtain ⟨b, _, e⟩ := hp
                  exact ⟨_, e⟩
                · cases hl
            obtain ⟨ad, had⟩ := hptr
            rw [had] at h3
            simp only [resF, had]
            simpa [Instr.loadAt, Instr.sureAddr, asAddr] using h3
          · cases hy
      obtain ⟨v, h5, h6⟩ := key
      refine ⟨v :: vs, ?_, RepL.cons h6 h2⟩
      rw [List.mapM_cons, Sem.run_bind, h5, Result.andThen_ok, Sem.run_bind, h1, Result.andThen_ok]
      rfl
    · cases hx

theorem get_initFr (args : List IV) (k t : Nat) : (look (initFr k args) t).getD .und = if k ≤ t then (match args[t - k]? with | some x => .im x | none => .und) else .und := by
  induction args generalizing k with
  | nil => simp [initFr, look]
  | cons x xs ih =>
    simp only [initFr, look]
    by_cases h : t = k
    · subst h; simp
    · rw [if_neg h, ih]
      by_cases hk : k ≤ t
      · rw [if_pos hk, if_pos (by omega)]
        have : t - k = (t - (k + 1)) + 1 := by omega
        rw [this]; simp
      · rw [if_neg hk, if_neg (by omega)]

theorem Sim.init {N : Nat} {w : World} {M : Nat → Nat → Prop} {vs : List Value} {args : List IV} (hM : ∀ b o, M b o → b < w.heap.size) (hr : RepL w M args vs) (hn : args.length ≤ N) :
    Sim N w M (fun _ => none) (initSt args) { tmps := vs.toArray ++ Array.replicate (N - vs.toArray.size) undef, defers := [] } w := by
  have hl : vs.length = args.length := hr.1.symm
  have hMo : ∀ β b o, Mo M β (initSt args) b o → M b o := by
    rintro β b o (hm | ⟨d, s, es, hd, _⟩ | ⟨d, s, n, hd, _⟩)
    · exact hm
    · simp [initSt, look] at hd
    · simp [initSt, look] at hd
  refine ⟨by simp; omega, rfl, Below.refl _ _, hM, fun t => ?_, fun d s es hd => by simp [initSt, look] at hd, fun d s n hd => by simp [initSt, look] at hd, fun d d' b h1 => by simp [initSt, look] at h1, fun d hd => by simp [initSt, look] at hd⟩
  have hg : (initSt args).get t = match args[t]? with | some x => .im x | none => .und := by
    have := get_initFr args 0 t
    simpa [St.get, initSt] using this
  rw [hg]
  cases hx : args[t]? with
  | none => trivial
  | some x =>
    have htl : t < vs.length := by rw [hl]; exact (List.getElem?_eq_some_iff.1 hx).1
    have hv : (vs.toArray ++ Array.replicate (N - vs.toArray.size) undef).getD t undef = vs[t] := by
      simp [Array.getElem?_append, htl]
    show Rep _ _ _ _
    rw [hv]
    exact (hr.2 t x _ hx (List.getElem?_eq_getElem htl)).less (hMo _)

/-- What a function returns that hands its slice on with the spare. -/
def aRetV (rs : List ResultVar) (e s : Nat) (es : List (List IV)) (st : St) : Prop :=
  match rs with
  | [.tmp t] => match st.get t with
    | .sx es' => es' = es
    | .vec d e' s' es' => e' = e ∧ s' = s ∧ es' = es ∧ look st.toks d = some (s, es.length)
    | _ => False
  | _ => False

theorem ctrv_of_awp (hG : G.Good) {f : FuncId} {fn : Func} {c : Code} {args : List IV} {e s : Nat} {es : List (List IV)} (hf : G.P.funcs[f]? = some fn) (hb : fn.body = some c) (hd : dstB fn.ntmps c = true) (hn : args.length ≤ fn.ntmps)
    (h : awp G c (fun x st => match x with | .normal => aRetV fn.results.toList e s es st | .ret => aRetV fn.results.toList e s es st | _ => False) (initSt args)) : CtrV G.P f args e s es := by
  intro w M vs hM hr
  refine calls_of_wp hf hb ?_
  refine wp_mono (awp_sound hG c _ _ _ _ _ hd h (Sim.init hM hr hn)) fun x a' w' hq => ?_
  obtain ⟨β, st, hq, hs⟩ := hq
  have fin : aRetV fn.results.toList e s es st → a'.defers = [] ∧ ∃ v, (results fn a'.tmps).run G.P w' = .ok v w' ∧ ∃ v2, Ending.returned v = .returned v2 ∧ Below w.heap.size w w' ∧ (Rep w' M (.sl es) v2 ∧ (∃ ad, v2 = .slice ad es.length es.length) ∨
      ∃ b cap cur, w.heap.size ≤ b ∧ b < w'.heap.size ∧ Rep w' (fun b' o => M b' o ∨ (b' = b ∧ es.length * s ≤ o)) (.sl es) v2 ∧ v2 = .slice (some ⟨b, 0, none⟩) es.length cap ∧ w'.heap[b]? = some (.cells cur e (0, 0)) ∧ es.length ≤ cap ∧ cap ≤ maxLen ∧ cur.size = cap * s) := by
    intro hq
    unfold aRetV at hq
    split at hq
    · rename_i t hrs
      have hres : (results fn a'.tmps).run G.P w' = .ok (a'.tmps.getD t undef) w' := by
        rw [results_eq, Sem.run_bind, Array.mapM_eq_mapM_toList, Sem.run_map, hrs]
        rfl
      have hv := hs.fr t
      refine ⟨hs.defers, _, hres, _, rfl, hs.below, ?_⟩
      split at hq
      · rename_i es' hg
        subst hq
        rw [hg] at hv
        exact .inl ⟨hv.1.less fun b o hm => .inl hm, hv.2⟩
      · rename_i d e' s' es' hg
        obtain ⟨rfl, rfl, rfl, htok⟩ := hq
        rw [hg] at hv
        rcases hv.2.2 htok with hh | ⟨b, cap, cur, h1, h2, h3, h4, h5, h6⟩
        · exact .inl ⟨hv.1.less fun b o hm => .inl hm, hh⟩
        · obtain ⟨h7, h8⟩ := hs.toks d _ _ htok b h1
          refine .inr ⟨b, cap, cur, h7, h8, hv.1.less fun b' o hm => ?_, h2, h3, h4, h5, h6⟩
          rcases hm with hm | ⟨rfl, ho⟩
          · exact .inl hm
          · exact .inr (.inr ⟨d, _, _, htok, h1, ho⟩)
      · exact hq.elim
    · exact hq.elim
  cases x with
  | normal => obtain ⟨h1, v, h2, h3⟩ := fin hq; exact ⟨h1, v, h2, h3⟩
  | ret => obtain ⟨h1, v, h2, h3⟩ := fin hq; exact ⟨h1, v, h2, h3⟩
  | _ => exact hq.elim

/-! ### A slice that has no spare of another's may be appended to under a token of its own -/
def promFr (t d e s : Nat) : List (Nat × AV) → List (Nat × AV)
  | [] => []
  | (k, v) :: r => (k, if k = t then (match v with | .sx es => .vec d e s es | _ => v.purge d) else v.purge d) :: promFr t d e s r
/-- The state in which slot t, a slice without a spare, may be appended to under the token d. -/
def St.prom (st : St) (t d e s : Nat) : St := ⟨promFr t d e s st.fr, del st.rows d, (d, s, match st.get t with | .sx es => es.length | _ => 0) :: del (del st.toks d) d⟩
theorem look_promFr (t d e s k : Nat) (l : List (Nat × AV)) : look (promFr t d e s l) k = (look l k).map fun v => if k = t then (match v with | .sx es => .vec d e s es | _ => v.purge d) else v.purge d := by
  induction l with
  | nil => rfl
  | cons p l ih =>
    obtain ⟨j, v⟩ := p
    by_cases hk : k = j
    · subst hk; simp [promFr, look]
    · simp [promFr, look, hk, ih]
theorem St.le_prom {st : St} {t d e s : Nat} {es : List (List IV)} (hg : st.get t = .sx es) (hl : ∀ c ∈ es, c.length = s) : St.Le st (st.prom t d e s) := by
  intro N w0 M0 β a w h
  refine ⟨upd β d none, ?_⟩
  have hmo : ∀ b o, Mo M0 (upd β d none) (tokSt st d d s es.length) b o → Mo M0 β st b o := by
    rintro b o (hm | ⟨d', s', es', hd', hb'⟩ | ⟨d', s', n', hd', hb', ho'⟩)
    · exact .inl hm
    · have hne : d' ≠ d := fun e => by subst e; simp [tokSt, look_del_same] at hd'
      rw [upd_ne _ _ hne] at hb'
      simp only [tokSt, look_del_ne _ hne] at hd'
      exact .inr (.inl ⟨d', s', es', hd', hb'⟩)
    · by_cases hne : d' = d
      · subst hne; rw [upd_same] at hb'; cases hb'
      · rw [upd_ne _ _ hne] at hb'
        exact .inr (.inr ⟨d', s', n', (tok_other hne hd').2, hb', ho'⟩)
  have h1 := h.newTok (w' := w) (src := d) (dst := d) (s := s) (n := es.length) (X := none) (fun b o u hc hm => ⟨hc, fun hm' => hm (hmo b o hm')⟩) h.below (Nat.le_refl _) (fun _ _ _ _ => rfl) (by simp) (.inl rfl)
  have hprom : st.prom t d e s = ⟨promFr t d e s st.fr, (tokSt st d d s es.length).rows, (tokSt st d d s es.length).toks⟩ := by
    simp only [St.prom, hg]; rfl
  rw [hprom]
  refine ⟨h1.size, h1.defers, h1.below, h1.m0, fun k => ?_, h1.rows, h1.toks, h1.inj, h1.excl⟩
  have hget : St.get ⟨promFr t d e s st.fr, (tokSt st d d s es.length).rows, (tokSt st d d s es.length).toks⟩ k = if k = t then .vec d e s es else (tokSt st d d s es.length).get k := by
    rw [get_tokSt]
    unfold St.get at hg ⊢
    dsimp only
    rw [look_promFr]
    by_cases hk : k = t
    · subst hk
      cases hlk : look st.fr k with
      | none => rw [hlk] at hg; cases hg
      | some v => rw [hlk] at hg; simp only [Option.getD_some] at hg; subst hg; simp
    · cases look st.fr k with
      | none => simp [hk]; rfl
      | some v => simp [hk]
  rw [hget]
  split
  · rename_i hk
    subst hk
    have := h.fr k
    rw [hg] at this
    exact ⟨this.1.less hmo, hl, fun _ => .inl this.2⟩
  · exact h1.fr k

def AV.forget : AV → AV
  | .sx es | .vec _ _ _ es => .im (.sl es)
  | v => v
def fgFr (t : Nat) : List (Nat × AV) → List (Nat × AV)
  | [] => []
  | (k, v) :: r => (k, if k = t then v.forget else v) :: fgFr t r
/-- Slot t's slice is read alone from now on. -/
def St.forget (st : St) (t : Nat) : St := ⟨fgFr t st.fr, st.rows, st.toks⟩
theorem look_fgFr (t k : Nat) (l : List (Nat × AV)) : look (fgFr t l) k = (look l k).map fun v => if k = t then v.forget else v := by
  induction l with
  | nil => rfl
  | cons p l ih =>
    obtain ⟨j, v⟩ := p
    by_cases hk : k = j
    · subst hk; simp [fgFr, look]
    · simp [fgFr, look, hk, ih]
theorem RepA.forget {w : World} {M : Nat → Nat → Prop} {β : Nat → Option Nat} {toks : List (Nat × Nat × Nat)} {av : AV} {v : Value} (h : RepA w M β toks av v) : RepA w M β toks av.forget v := by
  cases av with
  | sx es => exact h.1
  | vec d e s es => exact h.1
  | _ => exact h
theorem St.le_forget (st : St) (t : Nat) : St.Le st (st.forget t) := by
  intro N w0 M0 β a w h
  refine ⟨β, h.size, h.defers, h.below, h.m0, fun k => ?_, h.rows, h.toks, h.inj, h.excl⟩
  have hget : (st.forget t).get k = if k = t then (st.get k).forget else st.get k := by
    unfold St.get St.forget
    dsimp only
    rw [look_fgFr]
    cases look st.fr k with
    | none => by_cases hk : k = t <;> simp [hk] <;> rfl
    | some v => by_cases hk : k = t <;> simp [hk]
  rw [hget]
  split
  · exact (h.fr k).forget
  · exact h.fr k

def renFr (t d : Nat) : List (Nat × AV) → List (Nat × AV)
  | [] => []
  | (k, v) :: r => (k, if k = t then (match v with | .vec _ e s es => .vec d e s es | _ => v.purge d) else v.purge d) :: renFr t d r
/-- The token of slot t is called d from now on. -/
def St.ren (st : St) (t d : Nat) : St :=
  match st.get t with
  | .vec d0 _ s es => ⟨renFr t d st.fr, del st.rows d, (d, s, es.length) :: del (del st.toks d0) d⟩
  | _ => st
theorem look_renFr (t d k : Nat) (l : List (Nat × AV)) : look (renFr t d l) k = (look l k).map fun v => if k = t then (match v with | .vec _ e s es => .vec d e s es | _ => v.purge d) else v.purge d := by
  induction l with
  | nil => rfl
  | cons p l ih =>
    obtain ⟨j, v⟩ := p
    by_cases hk : k = j
    · subst hk; simp [renFr, look]
    · simp [renFr, look, hk, ih]
theorem St.le_ren {st : St} {t d d0 e s : Nat} {es : List (List IV)} (hg : st.get t = .vec d0 e s es) (htok : look st.toks d0 = some (s, es.length)) : St.Le st (st.ren t d) := by
  intro N w0 M0 β a w h
  refine ⟨upd β d (β d0), ?_⟩
  have hmo : ∀ b o, Mo M0 (upd β d (β d0)) (tokSt st d0 d s es.length) b o → Mo M0 β st b o := by
    rintro b o (hm | ⟨d', s', es', hd', hb'⟩ | ⟨d', s', n', hd', hb', ho'⟩)
    · exact .inl hm
    · have hne : d' ≠ d := fun e => by subst e; simp [tokSt, look_del_same] at hd'
      rw [upd_ne _ _ hne] at hb'
      simp only [tokSt, look_del_ne _ hne] at hd'
      exact .inr (.inl ⟨d', s', es', hd', hb'⟩)
    · by_cases hne : d' = d
      · subst hne
        rw [upd_same] at hb'
        simp only [tokSt, look_cons_same, Option.some.injEq, Prod.mk.injEq] at hd'
        obtain ⟨rfl, rfl⟩ := hd'
        exact .inr (.inr ⟨d0, _, _, htok, hb', ho'⟩)
      · rw [upd_ne _ _ hne] at hb'
        exact .inr (.inr ⟨d', s', n', (tok_other hne hd').2, hb', ho'⟩)
  have hrow0 : look st.rows d0 = none := by
    cases hl : look st.rows d0 with
    | none => rfl
    | some x => have := h.excl d0 (by simp [hl]); rw [htok] at this; cases this
  have h1 := h.newTok (w' := w) (src := d0) (dst := d) (s := s) (n := es.length) (X := β d0) (fun b o u hc hm => ⟨hc, fun hm' => hm (hmo b o hm')⟩) h.below (Nat.le_refl _) (fun _ _ _ _ => rfl)
    (fun b hb => ⟨(h.toks d0 _ _ htok b hb).1, (h.toks d0 _ _ htok b hb).2, fun k h1 h2 h3 h4 => h1 (h.inj k d0 b h3 (.inr (by simp [htok])) h4 hb)⟩) (.inr hrow0)
  have hren : st.ren t d = ⟨renFr t d st.fr, (tokSt st d0 d s es.length).rows, (tokSt st d0 d s es.length).toks⟩ := by
    simp only [St.ren, hg]; rfl
  rw [hren]
  refine ⟨h1.size, h1.defers, h1.below, h1.m0, fun k => ?_, h1.rows, h1.toks, h1.inj, h1.excl⟩
  have hget : St.get ⟨renFr t d st.fr, (tokSt st d0 d s es.length).rows, (tokSt st d0 d s es.length).toks⟩ k = if k = t then .vec d e s es else (tokSt st d0 d s es.length).get k := by
    rw [get_tokSt]
    unfold St.get at hg ⊢
    dsimp only
    rw [look_renFr]
    by_cases hk : k = t
    · subst hk
      cases hlk : look st.fr k with
      | none => rw [hlk] at hg; cases hg
      | some v => rw [hlk] at hg; simp only [Option.getD_some] at hg; subst hg; simp
    · cases look st.fr k with
      | none => simp [hk]; rfl
      | some v => simp [hk]
  rw [hget]
  split
  · rename_i hk
    subst hk
    have := h.fr k
    rw [hg] at this
    refine ⟨this.1.less hmo, this.2.1, fun _ => ?_⟩
    rcases this.2.2 htok with hh | ⟨b, cap, cur, h2, h3⟩
    · exact .inl hh
    · exact .inr ⟨b, cap, cur, by rw [upd_same]; exact h2, h3⟩
  · exact h1.fr k

theorem ctr_of_awp (hG : G.Good) {f : FuncId} {fn : Func} {c : Code} {args : List IV} {φ : IV → Prop} (hf : G.P.funcs[f]? = some fn) (hb : fn.body = some c) (hd : dstB fn.ntmps c = true) (hn : args.length ≤ fn.ntmps)
    (h : awp G c (fun e s => match e with | .normal => aRet G fn.results.toList φ s | .ret => aRet G fn.results.toList φ s | _ => False) (initSt args)) : Ctr G.P f args φ := by
  intro w M vs hM hr
  refine calls_of_wp hf hb ?_
  have hl : vs.length = args.length := hr.1.symm
  have hMo : ∀ β b o, Mo M β (initSt args) b o → M b o := by
    rintro β b o (hm | ⟨d, s, es, hd, _⟩ | ⟨d, s, n, hd, _⟩)
    · exact hm
    · simp [initSt, look] at hd
    · simp [initSt, look] at hd
  have hsim : Sim fn.ntmps w M (fun _ => none) (initSt args) { tmps := vs.toArray ++ Array.replicate (fn.ntmps - vs.toArray.size) undef, defers := [] } w := by
    refine ⟨by simp; omega, rfl, Below.refl _ _, hM, fun t => ?_, fun d s es hd => by simp [initSt, look] at hd, fun d s n hd => by simp [initSt, look] at hd, fun d d' b h1 => by simp [initSt, look] at h1, fun d hd => by simp [initSt, look] at hd⟩
    have hg : (initSt args).get t = match args[t]? with | some x => .im x | none => .und := by
      have := get_initFr args 0 t
      simpa [St.get, initSt] using this
    rw [hg]
    cases hx : args[t]? with
    | none => trivial
    | some x =>
      have htl : t < vs.length := by rw [hl]; exact (List.getElem?_eq_some_iff.1 hx).1
      have hv : (vs.toArray ++ Array.replicate (fn.ntmps - vs.toArray.size) undef).getD t undef = vs[t] := by
        simp [Array.getElem?_append, htl]
      show Rep _ _ _ _
      rw [hv]
      exact (hr.2 t x _ hx (List.getElem?_eq_getElem htl)).less (hMo _)
  refine wp_mono (awp_sound hG c _ _ _ _ _ hd h hsim) fun e a' w' hq => ?_
  obtain ⟨β, st, hq, hs⟩ := hq
  have fin : aRet G fn.results.toList φ st → a'.defers = [] ∧ ∃ v, (results fn a'.tmps).run G.P w' = .ok v w' ∧ ∃ r v2, φ r ∧ Ending.returned v = .returned v2 ∧ Rep w' M r v2 ∧ Below w.heap.size w w' := by
    intro hq
    unfold aRet at hq
    have hs' := hs.lendR fn.results.toList
    have hMle : ∀ b o, M b o → Mo M β (lendR st fn.results.toList) b o := fun b o hm => .inl hm
    have hres : ∀ (vs : List Value), (fn.results.toList.mapM (resF a'.tmps)).run G.P w' = .ok vs w' →
        (results fn a'.tmps).run G.P w' = .ok (if h : vs.toArray.size = 1 then vs.toArray[0] else .tuple vs.toArray) w' := fun vs hv => by
      rw [results_eq, Sem.run_bind, Array.mapM_eq_mapM_toList, Sem.run_map, hv]
      rfl
    refine ⟨hs.defers, ?_⟩
    split at hq
    · rename_i x hx
      obtain ⟨vs, h1, h2⟩ := resL_run hG hs' hx
      obtain ⟨v, vs', rfl, h3, h4⟩ := h2.uncons
      obtain rfl := h4.of_nil
      exact ⟨v, by rw [hres _ h1]; rfl, x, v, hq, rfl, h3.less hMle, hs.below⟩
    · rename_i xs hne hx
      obtain ⟨vs, h1, h2⟩ := resL_run hG hs' hx
      have hlen : ¬ vs.toArray.size = 1 := fun e => by
        have h3 : xs.length = 1 := by rw [h2.1]; simpa using e
        match xs, h3 with
        | [y], _ => exact hne y rfl
      exact ⟨.tuple vs.toArray, by rw [hres _ h1, dif_neg hlen], .tup xs, _, hq, rfl, (RepL.tup (vs := vs.toArray) (by simpa using h2)).less hMle, hs.below⟩
    · exact hq.elim
  cases e with
  | normal => obtain ⟨h1, v, h2, h3⟩ := fin hq; exact ⟨h1, v, h2, h3⟩
  | ret => obtain ⟨h1, v, h2, h3⟩ := fin hq; exact ⟨h1, v, h2, h3⟩
  | _ => exact hq.elim
end
end Go.Abs

namespace Go.Abs
set_option linter.all false
open Go.RowKit (Below)

universe u
/-- Holds a thing where a rewriting does not look. -/
class Hold (α : Sort u) where
  val : α
/-- Two ways on; a rewriting looks at the condition alone. -/
def Two (t : Bool) [A : Hold Prop] [B : Hold Prop] : Prop := (t = true → A.val) ∧ (t = false → B.val)
theorem Two_true {A B : Prop} : @Two true ⟨A⟩ ⟨B⟩ = A := by simp [Two]
theorem Two_false {A B : Prop} : @Two false ⟨A⟩ ⟨B⟩ = B := by simp [Two]
theorem Two_not {A B : Prop} {t : Bool} : @Two (!t) ⟨A⟩ ⟨B⟩ = @Two t ⟨B⟩ ⟨A⟩ := by cases t <;> simp [Two]
theorem Two_of {t : Bool} {A B : Prop} (h1 : t = true → A) (h2 : t = false → B) : @Two t ⟨A⟩ ⟨B⟩ := ⟨h1, h2⟩
theorem Two_dec {p : Prop} {i : Decidable p} {A B : Prop} (h1 : @decide p i = true → p → A) (h2 : @decide p i = false → ¬p → B) : @Two (@decide p i) ⟨A⟩ ⟨B⟩ :=
  ⟨fun h => h1 h (of_decide_eq_true h), fun h => h2 h (of_decide_eq_false h)⟩

def Opt {α : Type} (o : Option α) [K : Hold (α → Prop)] : Prop :=
  match o with
  | some x => K.val x
  | none => False
theorem Opt_some {α : Type} {x : α} {K : α → Prop} : @Opt α (some x) ⟨K⟩ = K x := propext ⟨fun h => h, fun h => h⟩
theorem Opt_of {α : Type} {o : Option α} {K : α → Prop} (x : α) (h : o = some x) (hK : K x) : @Opt α o ⟨K⟩ := by subst h; exact hK

def asB : AV → Option Bool
  | .im (.sc (.bool t)) => some t
  | _ => none

section
variable {G : Ctx}

def LoopP (G : Ctx) [c : Hold Code] [Q : Hold (Exit → St → Prop)] (st : St) : Prop := awp G (.loop c.val) Q.val st
def DrawP (G : Ctx) [ops : Hold (List Oper)] [Q : Hold (Exit → St → Prop)] (st : St) : Prop :=
  (∃ n, drawB ops.val.toArray n = true ∧ ahead G ops.val (fun s => alist G ops.val (Q.val .normal) (ops.val.drop n) s) (ops.val.take n) st) ∨ (drawS ops.val.toArray = true ∧ aheadS G ops.val (aStores0 G (Q.val .normal) ops.val) ops.val (freshAll G ops.val st))
theorem awp_skip (Q : Exit → St → Prop) (st : St) : awp G .skip Q st = Q .normal st := propext ⟨fun h => h, fun h => h⟩
theorem awp_seq (x y : Code) (Q : Exit → St → Prop) (st : St) :
    awp G (.seq x y) Q st = awp G x (fun e s => match e with | .normal => awp G y Q s | e => Q e s) st := propext ⟨fun h => h, fun h => h⟩
theorem awp_cond (c : Operand) (x y : Code) (Q : Exit → St → Prop) (st : St) :
    awp G (.cond c x y) Q st = Opt (asB (evO st c)) (K := ⟨fun t => Two t (A := ⟨awp G x Q st⟩) (B := ⟨awp G y Q st⟩)⟩) := by
  simp only [awp]
  generalize evO st c = av
  cases av with
  | im x => cases x with
    | sc v => cases v <;> rfl
    | _ => rfl
  | _ => rfl
theorem awp_block (id : Nat) (c : Code) (Q : Exit → St → Prop) (st : St) :
    awp G (.block id c) Q st = awp G c (fun e s => match e with | .exit k => if k = id then Q .normal s else Q (.exit k) s | e => Q e s) st := propext ⟨fun h => h, fun h => h⟩
theorem awp_exit (id : Nat) (Q : Exit → St → Prop) (st : St) : awp G (.exit id) Q st = Q (.exit id) st := propext ⟨fun h => h, fun h => h⟩
theorem awp_ret (Q : Exit → St → Prop) (st : St) : awp G .ret Q st = Q .ret st := propext ⟨fun h => h, fun h => h⟩
theorem awp_loop (c : Code) (Q : Exit → St → Prop) (st : St) : awp G (.loop c) Q st = LoopP G (c := ⟨c⟩) (Q := ⟨Q⟩) st := propext ⟨fun h => h, fun h => h⟩
theorem awp_region (id : Nat) (ops : List Oper) (Q : Exit → St → Prop) (st : St) :
    awp G (.region id ops.toArray false) Q st = alist G ops (Q .normal) ops st := by simp [awp]
theorem awp_draw (id : Nat) (ops : List Oper) (Q : Exit → St → Prop) (st : St) :
    awp G (.region id ops.toArray true) Q st = DrawP G (ops := ⟨ops⟩) (Q := ⟨Q⟩) st := by simp only [awp, DrawP, if_true]

theorem alist_nil (ops : List Oper) (K : St → Prop) (st : St) : alist G ops K [] st = K st := propext ⟨fun h => h, fun h => h⟩
theorem alist_free (ops : List Oper) (K : St → Prop) (dst : Option Tmp) (op : Op) (ty : TypeId) (pos : String) (af : Array Edge) (r : List Oper) (st : St) :
    alist G ops K (⟨dst, op, ty, pos, af, none⟩ :: r) st = aop G ⟨dst, op, ty, pos, af, none⟩ (alist G ops K r) st := propext ⟨fun h => h, fun h => h⟩
theorem Two_eq (A B : Prop) (b want : Bool) : ((b = want → A) ∧ (b ≠ want → B)) = Two (b == want) (A := ⟨A⟩) (B := ⟨B⟩) := by
  cases b <;> cases want <;> simp [Two]
theorem alist_guard (ops : List Oper) (K : St → Prop) (dst : Option Tmp) (op : Op) (ty : TypeId) (pos : String) (af : Array Edge) (j : Nat) (want : Bool) (r : List Oper) (st : St) :
    alist G ops K (⟨dst, op, ty, pos, af, some (j, want)⟩ :: r) st = Opt (yieldA st ops j) (K := ⟨fun y => match y with
      | some b => Two (b == want) (A := ⟨aop G ⟨dst, op, ty, pos, af, some (j, want)⟩ (alist G ops K r) st⟩) (B := ⟨alist G ops K r (st.put dst undefA)⟩)
      | none => alist G ops K r (st.put dst undefA)⟩) := by
  conv => lhs; unfold alist
  simp only [Opt, Two_eq]
  split <;> rename_i h <;> rw [h]
theorem ahead_nil (ops : List Oper) (K : St → Prop) (st : St) : ahead G ops K [] st = K st := propext ⟨fun h => h, fun h => h⟩
theorem ahead_free (ops : List Oper) (K : St → Prop) (dst : Option Tmp) (op : Op) (ty : TypeId) (pos : String) (af : Array Edge) (r : List Oper) (st : St) :
    ahead G ops K (⟨dst, op, ty, pos, af, none⟩ :: r) st = aq G st ⟨dst, op, ty, pos, af, none⟩ (fun av => ahead G ops K r (st.put dst av)) := propext ⟨fun h => h, fun h => h⟩
theorem ahead_guard (ops : List Oper) (K : St → Prop) (dst : Option Tmp) (op : Op) (ty : TypeId) (pos : String) (af : Array Edge) (j : Nat) (want : Bool) (r : List Oper) (st : St) :
    ahead G ops K (⟨dst, op, ty, pos, af, some (j, want)⟩ :: r) st = Opt (yieldA st ops j) (K := ⟨fun y => match y with
      | some b => Two (b == want) (A := ⟨aq G st ⟨dst, op, ty, pos, af, some (j, want)⟩ (fun av => ahead G ops K r (st.put dst av))⟩) (B := ⟨ahead G ops K r (st.put dst undefA)⟩)
      | none => ahead G ops K r (st.put dst undefA)⟩) := by
  conv => lhs; unfold ahead
  simp only [Opt, Two_eq]
  split <;> rename_i h <;> rw [h]
theorem aVal_eq (K : St → Prop) (st : St) (o : Oper) : aVal G K st o = Opt (yv G st o) (K := ⟨fun av => K (st.put o.dst av)⟩) := by
  unfold aVal Opt; split <;> rename_i h <;> simp [h]

/-- The first n operations in any order, then the others: counted down, so that a rewriting never looks at what follows. -/
def aheadN (G : Ctx) (ops : List Oper) (K : St → Prop) (n : Nat) (l : List Oper) (st : St) : Prop := ahead G ops (fun s => alist G ops K (l.drop n) s) (l.take n) st
theorem DrawP_of {ops : List Oper} {Q : Exit → St → Prop} {st : St} (n : Nat) (h : drawB ops.toArray n = true)
    (hA : aheadN G ops (Q .normal) n ops st) : @DrawP G ⟨ops⟩ ⟨Q⟩ st := .inl ⟨n, h, hA⟩
/-- Where stores stand among the others. -/
theorem DrawS_of {ops : List Oper} {Q : Exit → St → Prop} {st : St} (h : drawS ops.toArray = true)
    (hA : aheadS G ops (aStores0 G (Q .normal) ops) ops (freshAll G ops st)) : @DrawP G ⟨ops⟩ ⟨Q⟩ st := .inr ⟨h, hA⟩
theorem aheadN_zero (ops : List Oper) (K : St → Prop) (l : List Oper) (st : St) : aheadN G ops K 0 l st = alist G ops K l st := by
  simp only [aheadN, List.take_zero, List.drop_zero, ahead_nil]
theorem aheadN_nil (ops : List Oper) (K : St → Prop) (n : Nat) (st : St) : aheadN G ops K n [] st = K st := by
  simp only [aheadN, List.take_nil, List.drop_nil, ahead_nil, alist_nil]
theorem aheadN_free (ops : List Oper) (K : St → Prop) (n : Nat) (dst : Option Tmp) (op : Op) (ty : TypeId) (pos : String) (af : Array Edge) (r : List Oper) (st : St) :
    aheadN G ops K (n + 1) (⟨dst, op, ty, pos, af, none⟩ :: r) st = aq G st ⟨dst, op, ty, pos, af, none⟩ (fun av => aheadN G ops K n r (st.put dst av)) := by
  simp only [aheadN, List.take_succ_cons, List.drop_succ_cons, ahead_free]
theorem aheadS_nil (ops : List Oper) (K : St → Prop) (st : St) : aheadS G ops K [] st = K st := propext ⟨fun h => h, fun h => h⟩
theorem aheadS_store (ops : List Oper) (K : St → Prop) (t : TypeId) (p x : Operand) (ty : TypeId) (pos : String) (af : Array Edge) (r : List Oper) (st : St) :
    aheadS G ops K (⟨none, .store t p x, ty, pos, af, none⟩ :: r) st = aheadS G ops K r st := by
  conv => lhs; unfold aheadS
  rw [if_pos (by rfl)]
theorem aStores_nil (K : St → Prop) (st : St) : aStores G K [] st = K st := propext ⟨fun h => h, fun h => h⟩
theorem aStores_other (K : St → Prop) (d : Tmp) (op : Op) (ty : TypeId) (pos : String) (af : Array Edge) (g : Option (Nat × Bool)) (r : List Oper) (st : St) :
    aStores G K (⟨some d, op, ty, pos, af, g⟩ :: r) st = aStores G K r st := by
  conv => lhs; unfold aStores
  rw [if_neg (by unfold isStore; split <;> simp)]
theorem aStores_store (K : St → Prop) (t : TypeId) (p x : Operand) (ty : TypeId) (pos : String) (af : Array Edge) (r : List Oper) (st : St) :
    aStores G K (⟨none, .store t p x, ty, pos, af, none⟩ :: r) st = match ivOf (evO st x), evO st p with
      | some y, .loc d s i j => match look st.rows d with
        | some (s', es) => Opt es[i]? (K := ⟨fun c => s' = s ∧ (G.ti t).size ≠ 0 ∧ (cellsOf y).length = (G.ti t).size ∧ (cellsOf y).all IV.one = true ∧ j + (G.ti t).size ≤ c.length ∧
          aStores G K r { st with rows := setRow st.rows d s (es.set i (setCells c j (cellsOf y))) }⟩)
        | none => False
      | _, _ => False := by
  conv => lhs; unfold aStores
  rw [if_pos (by rfl)]
  dsimp only
  unfold aStQ
  generalize ivOf (evO st x) = oy
  generalize evO st p = pv
  cases oy with
  | none => rfl
  | some y => cases pv with
    | loc d s i j =>
      dsimp only
      generalize look st.rows d = o
      cases o with
      | none => rfl
      | some q =>
        obtain ⟨s', es⟩ := q
        dsimp only
        unfold Opt
        generalize es[i]? = oc
        cases oc <;> rfl
    | _ => rfl
theorem aheadN_guard (ops : List Oper) (K : St → Prop) (n : Nat) (dst : Option Tmp) (op : Op) (ty : TypeId) (pos : String) (af : Array Edge) (j : Nat) (want : Bool) (r : List Oper) (st : St) :
    aheadN G ops K (n + 1) (⟨dst, op, ty, pos, af, some (j, want)⟩ :: r) st = Opt (yieldA st ops j) (K := ⟨fun y => match y with
      | some b => Two (b == want) (A := ⟨aq G st ⟨dst, op, ty, pos, af, some (j, want)⟩ (fun av => aheadN G ops K n r (st.put dst av))⟩) (B := ⟨aheadN G ops K n r (st.put dst undefA)⟩)
      | none => aheadN G ops K n r (st.put dst undefA)⟩) := by
  unfold aheadN
  rw [List.take_succ_cons, List.drop_succ_cons, ahead_guard]

/-- A call of another function of the program. -/
def CallP (G : Ctx) (g : Nat) (xs : List IV) [K : Hold (IV → Prop)] [V : Hold (Nat → Nat → List (List IV) → Prop)] : Prop :=
  (3 ≤ g ∧ g < G.fns) ∧ ((∃ φ : IV → Prop, Ctr G.P g xs φ ∧ ∀ r, φ r → K.val r) ∨ ∃ e s es, CtrV G.P g xs e s es ∧ (∀ c ∈ es, c.length = s) ∧ V.val e s es)
theorem CallP_of {g : Nat} {xs : List IV} {K : IV → Prop} {V : Nat → Nat → List (List IV) → Prop} {φ : IV → Prop} (h : Ctr G.P g xs φ) (hg : 3 ≤ g ∧ g < G.fns) (hK : ∀ r, φ r → K r) : @CallP G g xs ⟨K⟩ ⟨V⟩ := ⟨hg, .inl ⟨φ, h, hK⟩⟩
theorem CallP_eq {g : Nat} {xs : List IV} {K : IV → Prop} {V : Nat → Nat → List (List IV) → Prop} {r : IV} (h : Ctr G.P g xs (· = r)) (hg : 3 ≤ g ∧ g < G.fns) (hK : K r) : @CallP G g xs ⟨K⟩ ⟨V⟩ := ⟨hg, .inl ⟨_, h, fun _ e => e ▸ hK⟩⟩
theorem CallP_vec {g : Nat} {xs : List IV} {K : IV → Prop} {V : Nat → Nat → List (List IV) → Prop} {e s : Nat} {es : List (List IV)} (h : CtrV G.P g xs e s es) (hg : 3 ≤ g ∧ g < G.fns) (hl : ∀ c ∈ es, c.length = s) (hK : V e s es) : @CallP G g xs ⟨K⟩ ⟨V⟩ := ⟨hg, .inr ⟨e, s, es, h, hl, hK⟩⟩
/-- The same in a region whose order is open: the result is one. -/
def CallD (G : Ctx) (g : Nat) (xs : List IV) [K : Hold (IV → Prop)] : Prop :=
  (3 ≤ g ∧ g < G.fns) ∧ ∃ r, Ctr G.P g xs (· = r) ∧ K.val r
theorem CallD_eq {g : Nat} {xs : List IV} {K : IV → Prop} {r : IV} (h : Ctr G.P g xs (· = r)) (hg : 3 ≤ g ∧ g < G.fns) (hK : K r) : @CallD G g xs ⟨K⟩ := ⟨hg, r, h, hK⟩

theorem aCall_eq (K : St → Prop) (st : St) (dst : Option Nat) (f : Operand) (args : List Operand) :
    aCall G K st dst f args = match evO st f, ivsOf (args.map (evO (st.lendOs args))) with
      | .im (.clo g caps), some xs => CallP G g (xs ++ caps) (K := ⟨fun r => K ((if flatB r = true then st else st.lendOs args).put dst (.im r))⟩)
          (V := ⟨fun e s es => match dst with | some d => K ((tokSt (st.lendOs args) d d s es.length).put (some d) (.vec d e s es)) | none => False⟩)
      | _, _ => False := by
  unfold aCall CallP
  generalize evO st f = fv
  generalize ivsOf (args.map (evO (st.lendOs args))) = oxs
  cases fv with
  | im x => cases x with
    | clo g caps => cases oxs with
      | none => rfl
      | some xs =>
        dsimp only
        cases dst with
        | none => simp
        | some d => simp
    | _ => rfl
  | _ => rfl
/-- A slice held against nil. -/
def NilP (es : List (List IV)) [K : Hold (Bool → Prop)] : Prop := ∀ b : Bool, (b = true → es = []) → K.val b
theorem NilP_of {es : List (List IV)} {K : Bool → Prop} (h1 : es = [] → K true) (h2 : K false) : @NilP es ⟨K⟩ := fun b hb => by
  cases b
  · exact h2
  · exact h1 (hb rfl)
theorem aNil_eq (K : St → Prop) (st : St) (dst : Option Nat) (op : BinOp) (t : TypeId) (x : Operand) : aNil G K st dst op t x = match sliceEls (evO st x), op with
    | some es, .eql => (G.ti t).size ≠ 0 ∧ isSl (G.ti t).kind = true ∧ NilP es (K := ⟨fun b => K (st.put dst (.im (.sc (.bool b))))⟩)
    | some es, .neq => (G.ti t).size ≠ 0 ∧ isSl (G.ti t).kind = true ∧ NilP es (K := ⟨fun b => K (st.put dst (.im (.sc (.bool !b))))⟩)
    | _, _ => False := propext ⟨fun h => h, fun h => h⟩
theorem aq_eq (st : St) (o : Oper) (K : AV → Prop) : aq G st o K = match o.op with
    | .call c => match c.callee with
      | .value f => match evO st f, ivsOf (c.args.toList.map (evO st)) with
        | .im (.clo g caps), some xs => CallD G g (xs ++ caps) (K := ⟨fun r => K (.im r)⟩)
        | _, _ => False
      | _ => Opt (yv G st o) (K := ⟨K⟩)
    | _ => Opt (yv G st o) (K := ⟨K⟩) := by
  obtain ⟨dst, op, ty, pos, af, gd⟩ := o
  unfold aq Opt
  cases op <;> dsimp only <;> first
    | (generalize yv G st _ = y; cases y <;> rfl)
    | rfl
    | (rename_i c; obtain ⟨callee, as, ts⟩ := c; cases callee <;> dsimp only <;> first | (generalize yv G st _ = y; cases y <;> rfl) | rfl)
/-- The operation makes a variable. -/
def isMk : Op → Bool
  | .alloc _ => true
  | _ => false
theorem allocOf_no {o : Oper} (h : isMk o.op = false) : allocOf G o = none := by
  obtain ⟨dst, op, ty, pos, af, gd⟩ := o
  cases op <;> first | (cases h; done) | rfl
theorem allocOf_g {dst : Option Tmp} {op : Op} {ty : TypeId} {pos : String} {af : Array Edge} {g : Nat × Bool} : allocOf G ⟨dst, op, ty, pos, af, some g⟩ = none := by
  unfold allocOf; cases op <;> cases dst <;> rfl
theorem allocOf_none {op : Op} {ty : TypeId} {pos : String} {af : Array Edge} {g : Option (Nat × Bool)} : allocOf G ⟨none, op, ty, pos, af, g⟩ = none := by
  unfold allocOf; cases op <;> rfl
theorem isStore_dst {d : Tmp} {op : Op} {ty : TypeId} {pos : String} {af : Array Edge} {g : Option (Nat × Bool)} : isStore ⟨some d, op, ty, pos, af, g⟩ = false := by
  unfold isStore; split <;> simp
theorem aheadS_free (ops : List Oper) (K : St → Prop) (d : Tmp) (op : Op) (ty : TypeId) (pos : String) (af : Array Edge) (r : List Oper) (st : St) (hm : isMk op = false) :
    aheadS G ops K (⟨some d, op, ty, pos, af, none⟩ :: r) st = aq G st ⟨some d, op, ty, pos, af, none⟩ (fun av => aheadS G ops K r (st.put (some d) av)) := by
  conv => lhs; unfold aheadS
  rw [if_neg (by rw [isStore_dst]; simp), allocOf_no hm]
theorem aheadS_alloc (ops : List Oper) (K : St → Prop) (d : Tmp) (t : TypeId) (ty : TypeId) (pos : String) (af : Array Edge) (r : List Oper) (st : St) :
    aheadS G ops K (⟨some d, .alloc t, ty, pos, af, none⟩ :: r) st = Opt (zeroIV G t) (K := ⟨fun z => aheadS G ops K r (st.put (some d) (.loc d z.length 0 0))⟩) := by
  conv => lhs; unfold aheadS
  rw [if_neg (by rw [isStore_dst]; simp)]
  unfold allocOf
  dsimp only
  generalize hz : zeroIV G t = oz
  cases oz with
  | none => simp only [aq_eq, yv, Opt]
  | some z => rfl
theorem freshAll_nil (st : St) : freshAll G [] st = st := rfl
theorem freshAll_other (dst : Option Tmp) (op : Op) (ty : TypeId) (pos : String) (af : Array Edge) (g : Option (Nat × Bool)) (r : List Oper) (st : St) (hm : isMk op = false) : freshAll G (⟨dst, op, ty, pos, af, g⟩ :: r) st = freshAll G r st := by
  conv => lhs; unfold freshAll
  rw [allocOf_no hm]
theorem freshAll_alloc (d : Tmp) (t : TypeId) (ty : TypeId) (pos : String) (af : Array Edge) (r : List Oper) (st : St) : freshAll G (⟨some d, .alloc t, ty, pos, af, none⟩ :: r) st = match zeroIV G t with | some _ => freshAll G r (st.fresh d) | none => freshAll G r st := by
  conv => lhs; unfold freshAll
  unfold allocOf
  dsimp only
  generalize zeroIV G t = oz
  cases oz <;> rfl
theorem mkRows_nil : mkRows G [] = [] := rfl
theorem mkRows_other (dst : Option Tmp) (op : Op) (ty : TypeId) (pos : String) (af : Array Edge) (g : Option (Nat × Bool)) (r : List Oper) (hm : isMk op = false) : mkRows G (⟨dst, op, ty, pos, af, g⟩ :: r) = mkRows G r := by
  conv => lhs; unfold mkRows
  rw [allocOf_no hm]
theorem mkRows_alloc (d : Tmp) (t : TypeId) (ty : TypeId) (pos : String) (af : Array Edge) (r : List Oper) : mkRows G (⟨some d, .alloc t, ty, pos, af, none⟩ :: r) = match zeroIV G t with | some z => (d, z.length, [z]) :: mkRows G r | none => mkRows G r := by
  conv => lhs; unfold mkRows
  unfold allocOf
  dsimp only
  generalize zeroIV G t = oz
  cases oz <;> rfl
/-! ### One rule for each kind of operation -/
theorem aheadS_move (ops : List Oper) (K : St → Prop) (d : Tmp) {x0} (ty : TypeId) (pos : String) (af : Array Edge) (r : List Oper) (st : St) : aheadS G ops K (⟨some d, .move x0, ty, pos, af, none⟩ :: r) st = aq G st ⟨some d, .move x0, ty, pos, af, none⟩ (fun av => aheadS G ops K r (st.put (some d) av)) := aheadS_free _ _ _ _ _ _ _ _ _ rfl
theorem freshAll_move (dst : Option Tmp) {x0} (ty : TypeId) (pos : String) (af : Array Edge) (g : Option (Nat × Bool)) (r : List Oper) (st : St) : freshAll G (⟨dst, .move x0, ty, pos, af, g⟩ :: r) st = freshAll G r st := freshAll_other _ _ _ _ _ _ _ _ rfl
theorem mkRows_move (dst : Option Tmp) {x0} (ty : TypeId) (pos : String) (af : Array Edge) (g : Option (Nat × Bool)) (r : List Oper) : mkRows G (⟨dst, .move x0, ty, pos, af, g⟩ :: r) = mkRows G r := mkRows_other _ _ _ _ _ _ _ rfl
theorem aheadS_assign (ops : List Oper) (K : St → Prop) (d : Tmp) {x0} (ty : TypeId) (pos : String) (af : Array Edge) (r : List Oper) (st : St) : aheadS G ops K (⟨some d, .assign x0, ty, pos, af, none⟩ :: r) st = aq G st ⟨some d, .assign x0, ty, pos, af, none⟩ (fun av => aheadS G ops K r (st.put (some d) av)) := aheadS_free _ _ _ _ _ _ _ _ _ rfl
theorem freshAll_assign (dst : Option Tmp) {x0} (ty : TypeId) (pos : String) (af : Array Edge) (g : Option (Nat × Bool)) (r : List Oper) (st : St) : freshAll G (⟨dst, .assign x0, ty, pos, af, g⟩ :: r) st = freshAll G r st := freshAll_other _ _ _ _ _ _ _ _ rfl
theorem mkRows_assign (dst : Option Tmp) {x0} (ty : TypeId) (pos : String) (af : Array Edge) (g : Option (Nat × Bool)) (r : List Oper) : mkRows G (⟨dst, .assign x0, ty, pos, af, g⟩ :: r) = mkRows G r := mkRows_other _ _ _ _ _ _ _ rfl
theorem aheadS_pick (ops : List Oper) (K : St → Prop) (d : Tmp) {x0 x1 x2} (ty : TypeId) (pos : String) (af : Array Edge) (r : List Oper) (st : St) : aheadS G ops K (⟨some d, .pick x0 x1 x2, ty, pos, af, none⟩ :: r) st = aq G st ⟨some d, .pick x0 x1 x2, ty, pos, af, none⟩ (fun av => aheadS G ops K r (st.put (some d) av)) := aheadS_free _ _ _ _ _ _ _ _ _ rfl
theorem freshAll_pick (dst : Option Tmp) {x0 x1 x2} (ty : TypeId) (pos : String) (af : Array Edge) (g : Option (Nat × Bool)) (r : List Oper) (st : St) : freshAll G (⟨dst, .pick x0 x1 x2, ty, pos, af, g⟩ :: r) st = freshAll G r st := freshAll_other _ _ _ _ _ _ _ _ rfl
theorem mkRows_pick (dst : Option Tmp) {x0 x1 x2} (ty : TypeId) (pos : String) (af : Array Edge) (g : Option (Nat × Bool)) (r : List Oper) : mkRows G (⟨dst, .pick x0 x1 x2, ty, pos, af, g⟩ :: r) = mkRows G r := mkRows_other _ _ _ _ _ _ _ rfl
theorem aheadS_box (ops : List Oper) (K : St → Prop) (d : Tmp) {x0 x1} (ty : TypeId) (pos : String) (af : Array Edge) (r : List Oper) (st : St) : aheadS G ops K (⟨some d, .box x0 x1, ty, pos, af, none⟩ :: r) st = aq G st ⟨some d, .box x0 x1, ty, pos, af, none⟩ (fun av => aheadS G ops K r (st.put (some d) av)) := aheadS_free _ _ _ _ _ _ _ _ _ rfl
theorem freshAll_box (dst : Option Tmp) {x0 x1} (ty : TypeId) (pos : String) (af : Array Edge) (g : Option (Nat × Bool)) (r : List Oper) (st : St) : freshAll G (⟨dst, .box x0 x1, ty, pos, af, g⟩ :: r) st = freshAll G r st := freshAll_other _ _ _ _ _ _ _ _ rfl
theorem mkRows_box (dst : Option Tmp) {x0 x1} (ty : TypeId) (pos : String) (af : Array Edge) (g : Option (Nat × Bool)) (r : List Oper) : mkRows G (⟨dst, .box x0 x1, ty, pos, af, g⟩ :: r) = mkRows G r := mkRows_other _ _ _ _ _ _ _ rfl
theorem aheadS_build (ops : List Oper) (K : St → Prop) (d : Tmp) {x0 x1} (ty : TypeId) (pos : String) (af : Array Edge) (r : List Oper) (st : St) : aheadS G ops K (⟨some d, .build x0 x1, ty, pos, af, none⟩ :: r) st = aq G st ⟨some d, .build x0 x1, ty, pos, af, none⟩ (fun av => aheadS G ops K r (st.put (some d) av)) := aheadS_free _ _ _ _ _ _ _ _ _ rfl
theorem freshAll_build (dst : Option Tmp) {x0 x1} (ty : TypeId) (pos : String) (af : Array Edge) (g : Option (Nat × Bool)) (r : List Oper) (st : St) : freshAll G (⟨dst, .build x0 x1, ty, pos, af, g⟩ :: r) st = freshAll G r st := freshAll_other _ _ _ _ _ _ _ _ rfl
theorem mkRows_build (dst : Option Tmp) {x0 x1} (ty : TypeId) (pos : String) (af : Array Edge) (g : Option (Nat × Bool)) (r : List Oper) : mkRows G (⟨dst, .build x0 x1, ty, pos, af, g⟩ :: r) = mkRows G r := mkRows_other _ _ _ _ _ _ _ rfl
theorem aheadS_buildSlice (ops : List Oper) (K : St → Prop) (d : Tmp) {x0 x1 x2} (ty : TypeId) (pos : String) (af : Array Edge) (r : List Oper) (st : St) : aheadS G ops K (⟨some d, .buildSlice x0 x1 x2, ty, pos, af, none⟩ :: r) st = aq G st ⟨some d, .buildSlice x0 x1 x2, ty, pos, af, none⟩ (fun av => aheadS G ops K r (st.put (some d) av)) := aheadS_free _ _ _ _ _ _ _ _ _ rfl
theorem freshAll_buildSlice (dst : Option Tmp) {x0 x1 x2} (ty : TypeId) (pos : String) (af : Array Edge) (g : Option (Nat × Bool)) (r : List Oper) (st : St) : freshAll G (⟨dst, .buildSlice x0 x1 x2, ty, pos, af, g⟩ :: r) st = freshAll G r st := freshAll_other _ _ _ _ _ _ _ _ rfl
theorem mkRows_buildSlice (dst : Option Tmp) {x0 x1 x2} (ty : TypeId) (pos : String) (af : Array Edge) (g : Option (Nat × Bool)) (r : List Oper) : mkRows G (⟨dst, .buildSlice x0 x1 x2, ty, pos, af, g⟩ :: r) = mkRows G r := mkRows_other _ _ _ _ _ _ _ rfl
theorem aheadS_load (ops : List Oper) (K : St → Prop) (d : Tmp) {x0 x1} (ty : TypeId) (pos : String) (af : Array Edge) (r : List Oper) (st : St) : aheadS G ops K (⟨some d, .load x0 x1, ty, pos, af, none⟩ :: r) st = aq G st ⟨some d, .load x0 x1, ty, pos, af, none⟩ (fun av => aheadS G ops K r (st.put (some d) av)) := aheadS_free _ _ _ _ _ _ _ _ _ rfl
theorem freshAll_load (dst : Option Tmp) {x0 x1} (ty : TypeId) (pos : String) (af : Array Edge) (g : Option (Nat × Bool)) (r : List Oper) (st : St) : freshAll G (⟨dst, .load x0 x1, ty, pos, af, g⟩ :: r) st = freshAll G r st := freshAll_other _ _ _ _ _ _ _ _ rfl
theorem mkRows_load (dst : Option Tmp) {x0 x1} (ty : TypeId) (pos : String) (af : Array Edge) (g : Option (Nat × Bool)) (r : List Oper) : mkRows G (⟨dst, .load x0 x1, ty, pos, af, g⟩ :: r) = mkRows G r := mkRows_other _ _ _ _ _ _ _ rfl
theorem aheadS_nilCheck (ops : List Oper) (K : St → Prop) (d : Tmp) {x0} (ty : TypeId) (pos : String) (af : Array Edge) (r : List Oper) (st : St) : aheadS G ops K (⟨some d, .nilCheck x0, ty, pos, af, none⟩ :: r) st = aq G st ⟨some d, .nilCheck x0, ty, pos, af, none⟩ (fun av => aheadS G ops K r (st.put (some d) av)) := aheadS_free _ _ _ _ _ _ _ _ _ rfl
theorem freshAll_nilCheck (dst : Option Tmp) {x0} (ty : TypeId) (pos : String) (af : Array Edge) (g : Option (Nat × Bool)) (r : List Oper) (st : St) : freshAll G (⟨dst, .nilCheck x0, ty, pos, af, g⟩ :: r) st = freshAll G r st := freshAll_other _ _ _ _ _ _ _ _ rfl
theorem mkRows_nilCheck (dst : Option Tmp) {x0} (ty : TypeId) (pos : String) (af : Array Edge) (g : Option (Nat × Bool)) (r : List Oper) : mkRows G (⟨dst, .nilCheck x0, ty, pos, af, g⟩ :: r) = mkRows G r := mkRows_other _ _ _ _ _ _ _ rfl
theorem aheadS_binOp (ops : List Oper) (K : St → Prop) (d : Tmp) {x0 x1 x2 x3 x4} (ty : TypeId) (pos : String) (af : Array Edge) (r : List Oper) (st : St) : aheadS G ops K (⟨some d, .binOp x0 x1 x2 x3 x4, ty, pos, af, none⟩ :: r) st = aq G st ⟨some d, .binOp x0 x1 x2 x3 x4, ty, pos, af, none⟩ (fun av => aheadS G ops K r (st.put (some d) av)) := aheadS_free _ _ _ _ _ _ _ _ _ rfl
theorem freshAll_binOp (dst : Option Tmp) {x0 x1 x2 x3 x4} (ty : TypeId) (pos : String) (af : Array Edge) (g : Option (Nat × Bool)) (r : List Oper) (st : St) : freshAll G (⟨dst, .binOp x0 x1 x2 x3 x4, ty, pos, af, g⟩ :: r) st = freshAll G r st := freshAll_other _ _ _ _ _ _ _ _ rfl
theorem mkRows_binOp (dst : Option Tmp) {x0 x1 x2 x3 x4} (ty : TypeId) (pos : String) (af : Array Edge) (g : Option (Nat × Bool)) (r : List Oper) : mkRows G (⟨dst, .binOp x0 x1 x2 x3 x4, ty, pos, af, g⟩ :: r) = mkRows G r := mkRows_other _ _ _ _ _ _ _ rfl
theorem aheadS_unOp (ops : List Oper) (K : St → Prop) (d : Tmp) {x0 x1 x2} (ty : TypeId) (pos : String) (af : Array Edge) (r : List Oper) (st : St) : aheadS G ops K (⟨some d, .unOp x0 x1 x2, ty, pos, af, none⟩ :: r) st = aq G st ⟨some d, .unOp x0 x1 x2, ty, pos, af, none⟩ (fun av => aheadS G ops K r (st.put (some d) av)) := aheadS_free _ _ _ _ _ _ _ _ _ rfl
theorem freshAll_unOp (dst : Option Tmp) {x0 x1 x2} (ty : TypeId) (pos : String) (af : Array Edge) (g : Option (Nat × Bool)) (r : List Oper) (st : St) : freshAll G (⟨dst, .unOp x0 x1 x2, ty, pos, af, g⟩ :: r) st = freshAll G r st := freshAll_other _ _ _ _ _ _ _ _ rfl
theorem mkRows_unOp (dst : Option Tmp) {x0 x1 x2} (ty : TypeId) (pos : String) (af : Array Edge) (g : Option (Nat × Bool)) (r : List Oper) : mkRows G (⟨dst, .unOp x0 x1 x2, ty, pos, af, g⟩ :: r) = mkRows G r := mkRows_other _ _ _ _ _ _ _ rfl
theorem aheadS_convert (ops : List Oper) (K : St → Prop) (d : Tmp) {x0 x1 x2} (ty : TypeId) (pos : String) (af : Array Edge) (r : List Oper) (st : St) : aheadS G ops K (⟨some d, .convert x0 x1 x2, ty, pos, af, none⟩ :: r) st = aq G st ⟨some d, .convert x0 x1 x2, ty, pos, af, none⟩ (fun av => aheadS G ops K r (st.put (some d) av)) := aheadS_free _ _ _ _ _ _ _ _ _ rfl
theorem freshAll_convert (dst : Option Tmp) {x0 x1 x2} (ty : TypeId) (pos : String) (af : Array Edge) (g : Option (Nat × Bool)) (r : List Oper) (st : St) : freshAll G (⟨dst, .convert x0 x1 x2, ty, pos, af, g⟩ :: r) st = freshAll G r st := freshAll_other _ _ _ _ _ _ _ _ rfl
theorem mkRows_convert (dst : Option Tmp) {x0 x1 x2} (ty : TypeId) (pos : String) (af : Array Edge) (g : Option (Nat × Bool)) (r : List Oper) : mkRows G (⟨dst, .convert x0 x1 x2, ty, pos, af, g⟩ :: r) = mkRows G r := mkRows_other _ _ _ _ _ _ _ rfl
theorem aheadS_makeFunc (ops : List Oper) (K : St → Prop) (d : Tmp) {x0 x1 x2} (ty : TypeId) (pos : String) (af : Array Edge) (r : List Oper) (st : St) : aheadS G ops K (⟨some d, .makeFunc x0 x1 x2, ty, pos, af, none⟩ :: r) st = aq G st ⟨some d, .makeFunc x0 x1 x2, ty, pos, af, none⟩ (fun av => aheadS G ops K r (st.put (some d) av)) := aheadS_free _ _ _ _ _ _ _ _ _ rfl
theorem freshAll_makeFunc (dst : Option Tmp) {x0 x1 x2} (ty : TypeId) (pos : String) (af : Array Edge) (g : Option (Nat × Bool)) (r : List Oper) (st : St) : freshAll G (⟨dst, .makeFunc x0 x1 x2, ty, pos, af, g⟩ :: r) st = freshAll G r st := freshAll_other _ _ _ _ _ _ _ _ rfl
theorem mkRows_makeFunc (dst : Option Tmp) {x0 x1 x2} (ty : TypeId) (pos : String) (af : Array Edge) (g : Option (Nat × Bool)) (r : List Oper) : mkRows G (⟨dst, .makeFunc x0 x1 x2, ty, pos, af, g⟩ :: r) = mkRows G r := mkRows_other _ _ _ _ _ _ _ rfl
theorem aheadS_makeSlice (ops : List Oper) (K : St → Prop) (d : Tmp) {x0 x1 x2} (ty : TypeId) (pos : String) (af : Array Edge) (r : List Oper) (st : St) : aheadS G ops K (⟨some d, .makeSlice x0 x1 x2, ty, pos, af, none⟩ :: r) st = aq G st ⟨some d, .makeSlice x0 x1 x2, ty, pos, af, none⟩ (fun av => aheadS G ops K r (st.put (some d) av)) := aheadS_free _ _ _ _ _ _ _ _ _ rfl
theorem freshAll_makeSlice (dst : Option Tmp) {x0 x1 x2} (ty : TypeId) (pos : String) (af : Array Edge) (g : Option (Nat × Bool)) (r : List Oper) (st : St) : freshAll G (⟨dst, .makeSlice x0 x1 x2, ty, pos, af, g⟩ :: r) st = freshAll G r st := freshAll_other _ _ _ _ _ _ _ _ rfl
theorem mkRows_makeSlice (dst : Option Tmp) {x0 x1 x2} (ty : TypeId) (pos : String) (af : Array Edge) (g : Option (Nat × Bool)) (r : List Oper) : mkRows G (⟨dst, .makeSlice x0 x1 x2, ty, pos, af, g⟩ :: r) = mkRows G r := mkRows_other _ _ _ _ _ _ _ rfl
theorem aheadS_slice (ops : List Oper) (K : St → Prop) (d : Tmp) {x0 x1 x2 x3 x4} (ty : TypeId) (pos : String) (af : Array Edge) (r : List Oper) (st : St) : aheadS G ops K (⟨some d, .slice x0 x1 x2 x3 x4, ty, pos, af, none⟩ :: r) st = aq G st ⟨some d, .slice x0 x1 x2 x3 x4, ty, pos, af, none⟩ (fun av => aheadS G ops K r (st.put (some d) av)) := aheadS_free _ _ _ _ _ _ _ _ _ rfl
theorem freshAll_slice (dst : Option Tmp) {x0 x1 x2 x3 x4} (ty : TypeId) (pos : String) (af : Array Edge) (g : Option (Nat × Bool)) (r : List Oper) (st : St) : freshAll G (⟨dst, .slice x0 x1 x2 x3 x4, ty, pos, af, g⟩ :: r) st = freshAll G r st := freshAll_other _ _ _ _ _ _ _ _ rfl
theorem mkRows_slice (dst : Option Tmp) {x0 x1 x2 x3 x4} (ty : TypeId) (pos : String) (af : Array Edge) (g : Option (Nat × Bool)) (r : List Oper) : mkRows G (⟨dst, .slice x0 x1 x2 x3 x4, ty, pos, af, g⟩ :: r) = mkRows G r := mkRows_other _ _ _ _ _ _ _ rfl
theorem aheadS_fieldAddr (ops : List Oper) (K : St → Prop) (d : Tmp) {x0 x1 x2} (ty : TypeId) (pos : String) (af : Array Edge) (r : List Oper) (st : St) : aheadS G ops K (⟨some d, .fieldAddr x0 x1 x2, ty, pos, af, none⟩ :: r) st = aq G st ⟨some d, .fieldAddr x0 x1 x2, ty, pos, af, none⟩ (fun av => aheadS G ops K r (st.put (some d) av)) := aheadS_free _ _ _ _ _ _ _ _ _ rfl
theorem freshAll_fieldAddr (dst : Option Tmp) {x0 x1 x2} (ty : TypeId) (pos : String) (af : Array Edge) (g : Option (Nat × Bool)) (r : List Oper) (st : St) : freshAll G (⟨dst, .fieldAddr x0 x1 x2, ty, pos, af, g⟩ :: r) st = freshAll G r st := freshAll_other _ _ _ _ _ _ _ _ rfl
theorem mkRows_fieldAddr (dst : Option Tmp) {x0 x1 x2} (ty : TypeId) (pos : String) (af : Array Edge) (g : Option (Nat × Bool)) (r : List Oper) : mkRows G (⟨dst, .fieldAddr x0 x1 x2, ty, pos, af, g⟩ :: r) = mkRows G r := mkRows_other _ _ _ _ _ _ _ rfl
theorem aheadS_field (ops : List Oper) (K : St → Prop) (d : Tmp) {x0 x1 x2} (ty : TypeId) (pos : String) (af : Array Edge) (r : List Oper) (st : St) : aheadS G ops K (⟨some d, .field x0 x1 x2, ty, pos, af, none⟩ :: r) st = aq G st ⟨some d, .field x0 x1 x2, ty, pos, af, none⟩ (fun av => aheadS G ops K r (st.put (some d) av)) := aheadS_free _ _ _ _ _ _ _ _ _ rfl
theorem freshAll_field (dst : Option Tmp) {x0 x1 x2} (ty : TypeId) (pos : String) (af : Array Edge) (g : Option (Nat × Bool)) (r : List Oper) (st : St) : freshAll G (⟨dst, .field x0 x1 x2, ty, pos, af, g⟩ :: r) st = freshAll G r st := freshAll_other _ _ _ _ _ _ _ _ rfl
theorem mkRows_field (dst : Option Tmp) {x0 x1 x2} (ty : TypeId) (pos : String) (af : Array Edge) (g : Option (Nat × Bool)) (r : List Oper) : mkRows G (⟨dst, .field x0 x1 x2, ty, pos, af, g⟩ :: r) = mkRows G r := mkRows_other _ _ _ _ _ _ _ rfl
theorem aheadS_indexAddr (ops : List Oper) (K : St → Prop) (d : Tmp) {x0 x1 x2} (ty : TypeId) (pos : String) (af : Array Edge) (r : List Oper) (st : St) : aheadS G ops K (⟨some d, .indexAddr x0 x1 x2, ty, pos, af, none⟩ :: r) st = aq G st ⟨some d, .indexAddr x0 x1 x2, ty, pos, af, none⟩ (fun av => aheadS G ops K r (st.put (some d) av)) := aheadS_free _ _ _ _ _ _ _ _ _ rfl
theorem freshAll_indexAddr (dst : Option Tmp) {x0 x1 x2} (ty : TypeId) (pos : String) (af : Array Edge) (g : Option (Nat × Bool)) (r : List Oper) (st : St) : freshAll G (⟨dst, .indexAddr x0 x1 x2, ty, pos, af, g⟩ :: r) st = freshAll G r st := freshAll_other _ _ _ _ _ _ _ _ rfl
theorem mkRows_indexAddr (dst : Option Tmp) {x0 x1 x2} (ty : TypeId) (pos : String) (af : Array Edge) (g : Option (Nat × Bool)) (r : List Oper) : mkRows G (⟨dst, .indexAddr x0 x1 x2, ty, pos, af, g⟩ :: r) = mkRows G r := mkRows_other _ _ _ _ _ _ _ rfl
theorem aheadS_index (ops : List Oper) (K : St → Prop) (d : Tmp) {x0 x1 x2} (ty : TypeId) (pos : String) (af : Array Edge) (r : List Oper) (st : St) : aheadS G ops K (⟨some d, .index x0 x1 x2, ty, pos, af, none⟩ :: r) st = aq G st ⟨some d, .index x0 x1 x2, ty, pos, af, none⟩ (fun av => aheadS G ops K r (st.put (some d) av)) := aheadS_free _ _ _ _ _ _ _ _ _ rfl
theorem freshAll_index (dst : Option Tmp) {x0 x1 x2} (ty : TypeId) (pos : String) (af : Array Edge) (g : Option (Nat × Bool)) (r : List Oper) (st : St) : freshAll G (⟨dst, .index x0 x1 x2, ty, pos, af, g⟩ :: r) st = freshAll G r st := freshAll_other _ _ _ _ _ _ _ _ rfl
theorem mkRows_index (dst : Option Tmp) {x0 x1 x2} (ty : TypeId) (pos : String) (af : Array Edge) (g : Option (Nat × Bool)) (r : List Oper) : mkRows G (⟨dst, .index x0 x1 x2, ty, pos, af, g⟩ :: r) = mkRows G r := mkRows_other _ _ _ _ _ _ _ rfl
theorem aheadS_lookup (ops : List Oper) (K : St → Prop) (d : Tmp) {x0 x1 x2 x3} (ty : TypeId) (pos : String) (af : Array Edge) (r : List Oper) (st : St) : aheadS G ops K (⟨some d, .lookup x0 x1 x2 x3, ty, pos, af, none⟩ :: r) st = aq G st ⟨some d, .lookup x0 x1 x2 x3, ty, pos, af, none⟩ (fun av => aheadS G ops K r (st.put (some d) av)) := aheadS_free _ _ _ _ _ _ _ _ _ rfl
theorem freshAll_lookup (dst : Option Tmp) {x0 x1 x2 x3} (ty : TypeId) (pos : String) (af : Array Edge) (g : Option (Nat × Bool)) (r : List Oper) (st : St) : freshAll G (⟨dst, .lookup x0 x1 x2 x3, ty, pos, af, g⟩ :: r) st = freshAll G r st := freshAll_other _ _ _ _ _ _ _ _ rfl
theorem mkRows_lookup (dst : Option Tmp) {x0 x1 x2 x3} (ty : TypeId) (pos : String) (af : Array Edge) (g : Option (Nat × Bool)) (r : List Oper) : mkRows G (⟨dst, .lookup x0 x1 x2 x3, ty, pos, af, g⟩ :: r) = mkRows G r := mkRows_other _ _ _ _ _ _ _ rfl
theorem aheadS_extract (ops : List Oper) (K : St → Prop) (d : Tmp) {x0 x1} (ty : TypeId) (pos : String) (af : Array Edge) (r : List Oper) (st : St) : aheadS G ops K (⟨some d, .extract x0 x1, ty, pos, af, none⟩ :: r) st = aq G st ⟨some d, .extract x0 x1, ty, pos, af, none⟩ (fun av => aheadS G ops K r (st.put (some d) av)) := aheadS_free _ _ _ _ _ _ _ _ _ rfl
theorem freshAll_extract (dst : Option Tmp) {x0 x1} (ty : TypeId) (pos : String) (af : Array Edge) (g : Option (Nat × Bool)) (r : List Oper) (st : St) : freshAll G (⟨dst, .extract x0 x1, ty, pos, af, g⟩ :: r) st = freshAll G r st := freshAll_other _ _ _ _ _ _ _ _ rfl
theorem mkRows_extract (dst : Option Tmp) {x0 x1} (ty : TypeId) (pos : String) (af : Array Edge) (g : Option (Nat × Bool)) (r : List Oper) : mkRows G (⟨dst, .extract x0 x1, ty, pos, af, g⟩ :: r) = mkRows G r := mkRows_other _ _ _ _ _ _ _ rfl
theorem aheadS_call (ops : List Oper) (K : St → Prop) (d : Tmp) {x0} (ty : TypeId) (pos : String) (af : Array Edge) (r : List Oper) (st : St) : aheadS G ops K (⟨some d, .call x0, ty, pos, af, none⟩ :: r) st = aq G st ⟨some d, .call x0, ty, pos, af, none⟩ (fun av => aheadS G ops K r (st.put (some d) av)) := aheadS_free _ _ _ _ _ _ _ _ _ rfl
theorem freshAll_call (dst : Option Tmp) {x0} (ty : TypeId) (pos : String) (af : Array Edge) (g : Option (Nat × Bool)) (r : List Oper) (st : St) : freshAll G (⟨dst, .call x0, ty, pos, af, g⟩ :: r) st = freshAll G r st := freshAll_other _ _ _ _ _ _ _ _ rfl
theorem mkRows_call (dst : Option Tmp) {x0} (ty : TypeId) (pos : String) (af : Array Edge) (g : Option (Nat × Bool)) (r : List Oper) : mkRows G (⟨dst, .call x0, ty, pos, af, g⟩ :: r) = mkRows G r := mkRows_other _ _ _ _ _ _ _ rfl
theorem aheadS_store' (ops : List Oper) (K : St → Prop) (d : Tmp) {x0 x1 x2} (ty : TypeId) (pos : String) (af : Array Edge) (r : List Oper) (st : St) : aheadS G ops K (⟨some d, .store x0 x1 x2, ty, pos, af, none⟩ :: r) st = aq G st ⟨some d, .store x0 x1 x2, ty, pos, af, none⟩ (fun av => aheadS G ops K r (st.put (some d) av)) := aheadS_free _ _ _ _ _ _ _ _ _ rfl
theorem freshAll_store (dst : Option Tmp) {x0 x1 x2} (ty : TypeId) (pos : String) (af : Array Edge) (g : Option (Nat × Bool)) (r : List Oper) (st : St) : freshAll G (⟨dst, .store x0 x1 x2, ty, pos, af, g⟩ :: r) st = freshAll G r st := freshAll_other _ _ _ _ _ _ _ _ rfl
theorem mkRows_store (dst : Option Tmp) {x0 x1 x2} (ty : TypeId) (pos : String) (af : Array Edge) (g : Option (Nat × Bool)) (r : List Oper) : mkRows G (⟨dst, .store x0 x1 x2, ty, pos, af, g⟩ :: r) = mkRows G r := mkRows_other _ _ _ _ _ _ _ rfl
theorem aheadS_makeMap (ops : List Oper) (K : St → Prop) (d : Tmp) {x0 x1} (ty : TypeId) (pos : String) (af : Array Edge) (r : List Oper) (st : St) : aheadS G ops K (⟨some d, .makeMap x0 x1, ty, pos, af, none⟩ :: r) st = aq G st ⟨some d, .makeMap x0 x1, ty, pos, af, none⟩ (fun av => aheadS G ops K r (st.put (some d) av)) := aheadS_free _ _ _ _ _ _ _ _ _ rfl
theorem freshAll_makeMap (dst : Option Tmp) {x0 x1} (ty : TypeId) (pos : String) (af : Array Edge) (g : Option (Nat × Bool)) (r : List Oper) (st : St) : freshAll G (⟨dst, .makeMap x0 x1, ty, pos, af, g⟩ :: r) st = freshAll G r st := freshAll_other _ _ _ _ _ _ _ _ rfl
theorem mkRows_makeMap (dst : Option Tmp) {x0 x1} (ty : TypeId) (pos : String) (af : Array Edge) (g : Option (Nat × Bool)) (r : List Oper) : mkRows G (⟨dst, .makeMap x0 x1, ty, pos, af, g⟩ :: r) = mkRows G r := mkRows_other _ _ _ _ _ _ _ rfl
theorem aheadS_mapUpdate (ops : List Oper) (K : St → Prop) (d : Tmp) {x0 x1 x2 x3} (ty : TypeId) (pos : String) (af : Array Edge) (r : List Oper) (st : St) : aheadS G ops K (⟨some d, .mapUpdate x0 x1 x2 x3, ty, pos, af, none⟩ :: r) st = aq G st ⟨some d, .mapUpdate x0 x1 x2 x3, ty, pos, af, none⟩ (fun av => aheadS G ops K r (st.put (some d) av)) := aheadS_free _ _ _ _ _ _ _ _ _ rfl
theorem freshAll_mapUpdate (dst : Option Tmp) {x0 x1 x2 x3} (ty : TypeId) (pos : String) (af : Array Edge) (g : Option (Nat × Bool)) (r : List Oper) (st : St) : freshAll G (⟨dst, .mapUpdate x0 x1 x2 x3, ty, pos, af, g⟩ :: r) st = freshAll G r st := freshAll_other _ _ _ _ _ _ _ _ rfl
theorem mkRows_mapUpdate (dst : Option Tmp) {x0 x1 x2 x3} (ty : TypeId) (pos : String) (af : Array Edge) (g : Option (Nat × Bool)) (r : List Oper) : mkRows G (⟨dst, .mapUpdate x0 x1 x2 x3, ty, pos, af, g⟩ :: r) = mkRows G r := mkRows_other _ _ _ _ _ _ _ rfl
theorem aheadS_makeInterface (ops : List Oper) (K : St → Prop) (d : Tmp) {x0 x1} (ty : TypeId) (pos : String) (af : Array Edge) (r : List Oper) (st : St) : aheadS G ops K (⟨some d, .makeInterface x0 x1, ty, pos, af, none⟩ :: r) st = aq G st ⟨some d, .makeInterface x0 x1, ty, pos, af, none⟩ (fun av => aheadS G ops K r (st.put (some d) av)) := aheadS_free _ _ _ _ _ _ _ _ _ rfl
theorem freshAll_makeInterface (dst : Option Tmp) {x0 x1} (ty : TypeId) (pos : String) (af : Array Edge) (g : Option (Nat × Bool)) (r : List Oper) (st : St) : freshAll G (⟨dst, .makeInterface x0 x1, ty, pos, af, g⟩ :: r) st = freshAll G r st := freshAll_other _ _ _ _ _ _ _ _ rfl
theorem mkRows_makeInterface (dst : Option Tmp) {x0 x1} (ty : TypeId) (pos : String) (af : Array Edge) (g : Option (Nat × Bool)) (r : List Oper) : mkRows G (⟨dst, .makeInterface x0 x1, ty, pos, af, g⟩ :: r) = mkRows G r := mkRows_other _ _ _ _ _ _ _ rfl
theorem aStores0_eq (K : St → Prop) (ops : List Oper) (st : St) : aStores0 G K ops st = aStores G K ops ⟨st.fr, mkRows G ops ++ st.rows, st.toks⟩ := rfl
theorem aheadS_guard (ops : List Oper) (K : St → Prop) (dst : Option Tmp) (op : Op) (ty : TypeId) (pos : String) (af : Array Edge) (j : Nat) (want : Bool) (r : List Oper) (st : St) :
    aheadS G ops K (⟨dst, op, ty, pos, af, some (j, want)⟩ :: r) st = Opt (yieldA st ops j) (K := ⟨fun y => match y with
      | some b => Two (b == want) (A := ⟨aq G st ⟨dst, op, ty, pos, af, some (j, want)⟩ (fun av => aheadS G ops K r (st.put dst av))⟩) (B := ⟨aheadS G ops K r (st.put dst undefA)⟩)
      | none => aheadS G ops K r (st.put dst undefA)⟩) := by
  conv => lhs; unfold aheadS
  rw [if_neg (by unfold isStore; split <;> simp), allocOf_g]
  simp only [Opt, Two_eq]
  split <;> rename_i h <;> rw [h]
theorem aStore_eq (K : St → Prop) (st : St) (dst : Option Nat) (t : TypeId) (p x : Operand) :
    aStore G K st dst t p x = match ivOf (evO st x), evO st p with
      | some y, .loc d s i j => match look st.rows d with
        | some (s', es) => Opt es[i]? (K := ⟨fun c => s' = s ∧ (G.ti t).size ≠ 0 ∧ (cellsOf y).length = (G.ti t).size ∧ (cellsOf y).all IV.one = true ∧ j + (G.ti t).size ≤ c.length ∧
          K (St.put { st with rows := setRow st.rows d s (es.set i (setCells c j (cellsOf y))) } dst undefA)⟩)
        | none => False
      | _, _ => False := by
  unfold aStore
  generalize ivOf (evO st x) = oy
  generalize evO st p = pv
  cases oy with
  | none => rfl
  | some y => cases pv with
    | loc d s i j =>
      dsimp only
      generalize look st.rows d = o
      cases o with
      | none => rfl
      | some q =>
        obtain ⟨s', es⟩ := q
        dsimp only
        unfold Opt
        generalize es[i]? = oc
        cases oc <;> rfl
    | _ => rfl

/-! ### Loops -/
/-- What is to be shown at the end of a round, and at an exit. -/
def RoundP {α : Type} [LR : Hold (List Nat × List Nat)] [S : Hold (α → St)] [P : Hold (α → Prop)] [M : Hold ((α → Nat) × α)] (s : St) : Prop := ∃ a', P.val a' ∧ M.val.1 a' < M.val.1 M.val.2 ∧ St.Le (s.keep LR.val.1 LR.val.2) (S.val a')
theorem RoundP_of {α : Type} {L R : List Nat} {S : α → St} {P : α → Prop} {μ : α → Nat} {a : α} {s : St} (a' : α) (hs : s.keep L R = S a') (hμ : μ a' < μ a) (hP : P a') : @RoundP α ⟨(L, R)⟩ ⟨S⟩ ⟨P⟩ ⟨(μ, a)⟩ s := ⟨a', hP, hμ, hs ▸ St.Le.refl _⟩
/-- Slots that hold slices that may be appended to, under tokens of their own from now on: (slot, token, element type, cells of an element); 0 cells: a slice that is read alone from now on. -/
def St.prom1 (s : St) (t d e k : Nat) : St :=
  if k = 0 then s.forget t else match s.get t with
  | .vec _ _ _ _ => s.ren t d
  | _ => s.prom t d e k
def St.proms : St → List (Nat × Nat × Nat × Nat) → St
  | s, [] => s
  | s, (t, d, e, k) :: r => St.proms (s.prom1 t d e k) r
def promsOk : St → List (Nat × Nat × Nat × Nat) → Prop
  | _, [] => True
  | s, (t, d, e, k) :: r => (if k = 0 then True else match s.get t with | .sx es => ∀ c ∈ es, c.length = k | .vec d0 _ s' es => look s.toks d0 = some (s', es.length) | _ => False) ∧ promsOk (s.prom1 t d e k) r
theorem St.le_proms : ∀ (l : List (Nat × Nat × Nat × Nat)) (s : St), promsOk s l → St.Le s (s.proms l)
  | [], s, _ => St.Le.refl s
  | (t, d, e, k) :: r, s, h => by
    obtain ⟨h1, h2⟩ := h
    have h3 : St.Le s (s.prom1 t d e k) := by
      unfold St.prom1
      by_cases hk : k = 0
      · rw [if_pos hk]; exact St.le_forget s t
      rw [if_neg hk] at h1 ⊢
      split at h1
      · rename_i es hg
        simp only [hg]
        exact St.le_prom hg h1
      · rename_i hg
        simp only [hg]
        exact St.le_ren hg h1
      · exact h1.elim
    exact h3.trans (St.le_proms r _ h2)
theorem LoopP_ofP {α : Type} {c : Code} {Q : Exit → St → Prop} {st : St} (L R : List Nat) (ps : List (Nat × Nat × Nat × Nat)) (S : α → St) (P : α → Prop) (μ : α → Nat) (a : α) (hps : promsOk (st.keep L R) ps) (hs : (st.keep L R).proms ps = S a) (hP : P a)
    (h : ∀ a, P a → awp G c (fun e s => match e with | .normal => @RoundP α ⟨(L, R)⟩ ⟨S⟩ ⟨P⟩ ⟨(μ, a)⟩ s | e => Q e s) (S a)) : @LoopP G ⟨c⟩ ⟨Q⟩ st := by
  refine ⟨L, R, fun n s => ∃ a, μ a = n ∧ P a ∧ s = S a, μ a, ⟨_, St.le_proms ps _ hps, a, rfl, hP, hs⟩, fun n s ⟨a, hn, hP, hs⟩ => ?_⟩
  subst hn; subst hs
  have e : (fun (e : Exit) (s' : St) => match e with | .normal => ∃ n', n' < μ a ∧ ∃ s1, St.Le (s'.keep L R) s1 ∧ ∃ b, μ b = n' ∧ P b ∧ s1 = S b | e => Q e s') =
      (fun e s => match e with | .normal => @RoundP α ⟨(L, R)⟩ ⟨S⟩ ⟨P⟩ ⟨(μ, a)⟩ s | e => Q e s) := by
    funext e s
    cases e <;> first | rfl | skip
    simp only [RoundP, eq_iff_iff]
    exact ⟨fun ⟨n', h1, s1, h5, b, h2, h3, h4⟩ => ⟨b, h3, h2 ▸ h1, h4 ▸ h5⟩, fun ⟨b, h3, h1, h4⟩ => ⟨_, h1, _, h4, b, rfl, h3, rfl⟩⟩
  refine (congrFun (congrArg (awp G c) e) (S a)).mpr (h a hP)
theorem LoopP_of {α : Type} {c : Code} {Q : Exit → St → Prop} {st : St} (L R : List Nat) (S : α → St) (P : α → Prop) (μ : α → Nat) (a : α) (hs : st.keep L R = S a) (hP : P a)
    (h : ∀ a, P a → awp G c (fun e s => match e with | .normal => @RoundP α ⟨(L, R)⟩ ⟨S⟩ ⟨P⟩ ⟨(μ, a)⟩ s | e => Q e s) (S a)) : @LoopP G ⟨c⟩ ⟨Q⟩ st := by
  exact LoopP_ofP L R [] S P μ a trivial hs hP h

theorem bq_true (b : Bool) : (b == true) = b := by cases b <;> rfl
theorem bq_false (b : Bool) : (b == false) = !b := by cases b <;> rfl
def noZ : ZC → Bool
  | .no => true
  | _ => false
theorem zeroIV_eq (t : TypeId) : zeroIV G t = if (G.ti t).size = 0 then none else if (G.ti t).zero.any noZ = true then none else some ((G.ti t).zero.map ZC.iv) := by
  have : (G.ti t).zero.contains .no = (G.ti t).zero.any noZ := by
    induction (G.ti t).zero with
    | nil => rfl
    | cons x l ih => rw [List.contains_cons, List.any_cons, ih]; cases x <;> rfl
  unfold zeroIV
  rw [this]
theorem oc_int (k : IntKind) (n : Int) : (Value.int k n).oneCell' = true := rfl
theorem oc_bool (b : Bool) : (Value.bool b).oneCell' = true := rfl
theorem oc_string (s : ByteArray) : (Value.string s).oneCell' = true := rfl
/-- A function: its body walked from its arguments. -/
theorem ctr_go (hG : G.Good) {f : FuncId} {args : List IV} {φ : IV → Prop} (fn : Func) (c : Code) (rs : List ResultVar) (hf : G.P.funcs[f]? = some fn) (hb : fn.body = some c) (hr : fn.results.toList = rs) (hd : dstB fn.ntmps c = true)
    (hn : Nat.ble args.length fn.ntmps = true) (h : awp G c (fun e s => match e with | .normal => aRet G rs φ s | .ret => aRet G rs φ s | _ => False) (initSt args)) : Ctr G.P f args φ := by
  subst hr
  exact ctr_of_awp hG hf hb hd (Nat.le_of_ble_eq_true hn) h
/-- A function that returns a slice with its spare. -/
theorem ctrv_go (hG : G.Good) {f : FuncId} {args : List IV} {e s : Nat} {es : List (List IV)} (fn : Func) (c : Code) (rs : List ResultVar) (hf : G.P.funcs[f]? = some fn) (hb : fn.body = some c) (hr : fn.results.toList = rs) (hd : dstB fn.ntmps c = true)
    (hn : Nat.ble args.length fn.ntmps = true) (h : awp G c (fun x st => match x with | .normal => aRetV rs e s es st | .ret => aRetV rs e s es st | _ => False) (initSt args)) : CtrV G.P f args e s es := by
  subst hr
  exact ctrv_of_awp hG hf hb hd (Nat.le_of_ble_eq_true hn) h
end
end Go.Abs

namespace Go.Abs
set_option linter.all false

section
variable {G : Ctx}
theorem Opt_yv (o : Oper) (K : St → Prop) (st : St) : aVal G K st o = Opt (yv G st o) (K := ⟨fun av => K (st.put o.dst av)⟩) := aVal_eq K st o
theorem aop_move (dst : Option Tmp) (ty : TypeId) (pos : String) (af : Array Edge) (gd : Option (Nat × Bool)) (x : Operand) (K : St → Prop) (st : St) : aop G ⟨dst, .move x, ty, pos, af, gd⟩ K st = Opt (yv G st ⟨dst, .move x, ty, pos, af, gd⟩) (K := ⟨fun av => K (st.put dst av)⟩) := aVal_eq K st ⟨dst, .move x, ty, pos, af, gd⟩
theorem aq_move (dst : Option Tmp) (ty : TypeId) (pos : String) (af : Array Edge) (gd : Option (Nat × Bool)) (x : Operand) (K : AV → Prop) (st : St) : aq G st ⟨dst, .move x, ty, pos, af, gd⟩ K = Opt (yv G st ⟨dst, .move x, ty, pos, af, gd⟩) (K := ⟨K⟩) := by rw [aq_eq]
theorem aop_assign (dst : Option Tmp) (ty : TypeId) (pos : String) (af : Array Edge) (gd : Option (Nat × Bool)) (x : Operand) (K : St → Prop) (st : St) : aop G ⟨dst, .assign x, ty, pos, af, gd⟩ K st = Opt (yv G st ⟨dst, .assign x, ty, pos, af, gd⟩) (K := ⟨fun av => K (st.put dst av)⟩) := aVal_eq K st ⟨dst, .assign x, ty, pos, af, gd⟩
theorem aq_assign (dst : Option Tmp) (ty : TypeId) (pos : String) (af : Array Edge) (gd : Option (Nat × Bool)) (x : Operand) (K : AV → Prop) (st : St) : aq G st ⟨dst, .assign x, ty, pos, af, gd⟩ K = Opt (yv G st ⟨dst, .assign x, ty, pos, af, gd⟩) (K := ⟨K⟩) := by rw [aq_eq]
theorem aop_pick (dst : Option Tmp) (ty : TypeId) (pos : String) (af : Array Edge) (gd : Option (Nat × Bool)) (c a b : Operand) (K : St → Prop) (st : St) : aop G ⟨dst, .pick c a b, ty, pos, af, gd⟩ K st = Opt (yv G st ⟨dst, .pick c a b, ty, pos, af, gd⟩) (K := ⟨fun av => K (st.put dst av)⟩) := aVal_eq K st ⟨dst, .pick c a b, ty, pos, af, gd⟩
theorem aq_pick (dst : Option Tmp) (ty : TypeId) (pos : String) (af : Array Edge) (gd : Option (Nat × Bool)) (c a b : Operand) (K : AV → Prop) (st : St) : aq G st ⟨dst, .pick c a b, ty, pos, af, gd⟩ K = Opt (yv G st ⟨dst, .pick c a b, ty, pos, af, gd⟩) (K := ⟨K⟩) := by rw [aq_eq]
theorem aop_unOp (dst : Option Tmp) (ty : TypeId) (pos : String) (af : Array Edge) (gd : Option (Nat × Bool)) (u : UnOp) (t : TypeId) (x : Operand) (K : St → Prop) (st : St) : aop G ⟨dst, .unOp u t x, ty, pos, af, gd⟩ K st = Opt (yv G st ⟨dst, .unOp u t x, ty, pos, af, gd⟩) (K := ⟨fun av => K (st.put dst av)⟩) := aVal_eq K st ⟨dst, .unOp u t x, ty, pos, af, gd⟩
theorem aq_unOp (dst : Option Tmp) (ty : TypeId) (pos : String) (af : Array Edge) (gd : Option (Nat × Bool)) (u : UnOp) (t : TypeId) (x : Operand) (K : AV → Prop) (st : St) : aq G st ⟨dst, .unOp u t x, ty, pos, af, gd⟩ K = Opt (yv G st ⟨dst, .unOp u t x, ty, pos, af, gd⟩) (K := ⟨K⟩) := by rw [aq_eq]
theorem aop_nilCheck (dst : Option Tmp) (ty : TypeId) (pos : String) (af : Array Edge) (gd : Option (Nat × Bool)) (x : Operand) (K : St → Prop) (st : St) : aop G ⟨dst, .nilCheck x, ty, pos, af, gd⟩ K st = Opt (yv G st ⟨dst, .nilCheck x, ty, pos, af, gd⟩) (K := ⟨fun av => K (st.put dst av)⟩) := aVal_eq K st ⟨dst, .nilCheck x, ty, pos, af, gd⟩
theorem aq_nilCheck (dst : Option Tmp) (ty : TypeId) (pos : String) (af : Array Edge) (gd : Option (Nat × Bool)) (x : Operand) (K : AV → Prop) (st : St) : aq G st ⟨dst, .nilCheck x, ty, pos, af, gd⟩ K = Opt (yv G st ⟨dst, .nilCheck x, ty, pos, af, gd⟩) (K := ⟨K⟩) := by rw [aq_eq]
theorem aop_load (dst : Option Tmp) (ty : TypeId) (pos : String) (af : Array Edge) (gd : Option (Nat × Bool)) (t : TypeId) (p : Operand) (K : St → Prop) (st : St) : aop G ⟨dst, .load t p, ty, pos, af, gd⟩ K st = Opt (yv G st ⟨dst, .load t p, ty, pos, af, gd⟩) (K := ⟨fun av => K (st.put dst av)⟩) := aVal_eq K st ⟨dst, .load t p, ty, pos, af, gd⟩
theorem aq_load (dst : Option Tmp) (ty : TypeId) (pos : String) (af : Array Edge) (gd : Option (Nat × Bool)) (t : TypeId) (p : Operand) (K : AV → Prop) (st : St) : aq G st ⟨dst, .load t p, ty, pos, af, gd⟩ K = Opt (yv G st ⟨dst, .load t p, ty, pos, af, gd⟩) (K := ⟨K⟩) := by rw [aq_eq]
theorem aop_fieldAddr (dst : Option Tmp) (ty : TypeId) (pos : String) (af : Array Edge) (gd : Option (Nat × Bool)) (t : TypeId) (x : Operand) (f : Nat) (K : St → Prop) (st : St) : aop G ⟨dst, .fieldAddr t x f, ty, pos, af, gd⟩ K st = Opt (yv G st ⟨dst, .fieldAddr t x f, ty, pos, af, gd⟩) (K := ⟨fun av => K (st.put dst av)⟩) := aVal_eq K st ⟨dst, .fieldAddr t x f, ty, pos, af, gd⟩
theorem aq_fieldAddr (dst : Option Tmp) (ty : TypeId) (pos : String) (af : Array Edge) (gd : Option (Nat × Bool)) (t : TypeId) (x : Operand) (f : Nat) (K : AV → Prop) (st : St) : aq G st ⟨dst, .fieldAddr t x f, ty, pos, af, gd⟩ K = Opt (yv G st ⟨dst, .fieldAddr t x f, ty, pos, af, gd⟩) (K := ⟨K⟩) := by rw [aq_eq]
theorem aop_field (dst : Option Tmp) (ty : TypeId) (pos : String) (af : Array Edge) (gd : Option (Nat × Bool)) (t : TypeId) (x : Operand) (f : Nat) (K : St → Prop) (st : St) : aop G ⟨dst, .field t x f, ty, pos, af, gd⟩ K st = Opt (yv G st ⟨dst, .field t x f, ty, pos, af, gd⟩) (K := ⟨fun av => K (st.put dst av)⟩) := aVal_eq K st ⟨dst, .field t x f, ty, pos, af, gd⟩
theorem aq_field (dst : Option Tmp) (ty : TypeId) (pos : String) (af : Array Edge) (gd : Option (Nat × Bool)) (t : TypeId) (x : Operand) (f : Nat) (K : AV → Prop) (st : St) : aq G st ⟨dst, .field t x f, ty, pos, af, gd⟩ K = Opt (yv G st ⟨dst, .field t x f, ty, pos, af, gd⟩) (K := ⟨K⟩) := by rw [aq_eq]
theorem aop_indexAddr (dst : Option Tmp) (ty : TypeId) (pos : String) (af : Array Edge) (gd : Option (Nat × Bool)) (t : TypeId) (x i : Operand) (K : St → Prop) (st : St) : aop G ⟨dst, .indexAddr t x i, ty, pos, af, gd⟩ K st = Opt (yv G st ⟨dst, .indexAddr t x i, ty, pos, af, gd⟩) (K := ⟨fun av => K (st.put dst av)⟩) := aVal_eq K st ⟨dst, .indexAddr t x i, ty, pos, af, gd⟩
theorem aq_indexAddr (dst : Option Tmp) (ty : TypeId) (pos : String) (af : Array Edge) (gd : Option (Nat × Bool)) (t : TypeId) (x i : Operand) (K : AV → Prop) (st : St) : aq G st ⟨dst, .indexAddr t x i, ty, pos, af, gd⟩ K = Opt (yv G st ⟨dst, .indexAddr t x i, ty, pos, af, gd⟩) (K := ⟨K⟩) := by rw [aq_eq]
theorem aop_index (dst : Option Tmp) (ty : TypeId) (pos : String) (af : Array Edge) (gd : Option (Nat × Bool)) (t : TypeId) (x i : Operand) (K : St → Prop) (st : St) : aop G ⟨dst, .index t x i, ty, pos, af, gd⟩ K st = Opt (yv G st ⟨dst, .index t x i, ty, pos, af, gd⟩) (K := ⟨fun av => K (st.put dst av)⟩) := aVal_eq K st ⟨dst, .index t x i, ty, pos, af, gd⟩
theorem aq_index (dst : Option Tmp) (ty : TypeId) (pos : String) (af : Array Edge) (gd : Option (Nat × Bool)) (t : TypeId) (x i : Operand) (K : AV → Prop) (st : St) : aq G st ⟨dst, .index t x i, ty, pos, af, gd⟩ K = Opt (yv G st ⟨dst, .index t x i, ty, pos, af, gd⟩) (K := ⟨K⟩) := by rw [aq_eq]
theorem aop_extract (dst : Option Tmp) (ty : TypeId) (pos : String) (af : Array Edge) (gd : Option (Nat × Bool)) (x : Operand) (k : Nat) (K : St → Prop) (st : St) : aop G ⟨dst, .extract x k, ty, pos, af, gd⟩ K st = Opt (yv G st ⟨dst, .extract x k, ty, pos, af, gd⟩) (K := ⟨fun av => K (st.put dst av)⟩) := aVal_eq K st ⟨dst, .extract x k, ty, pos, af, gd⟩
theorem aq_extract (dst : Option Tmp) (ty : TypeId) (pos : String) (af : Array Edge) (gd : Option (Nat × Bool)) (x : Operand) (k : Nat) (K : AV → Prop) (st : St) : aq G st ⟨dst, .extract x k, ty, pos, af, gd⟩ K = Opt (yv G st ⟨dst, .extract x k, ty, pos, af, gd⟩) (K := ⟨K⟩) := by rw [aq_eq]
theorem aop_build (dst : Option Tmp) (ty : TypeId) (pos : String) (af : Array Edge) (gd : Option (Nat × Bool)) (t : TypeId) (ps : Array (Nat × Operand)) (K : St → Prop) (st : St) : aop G ⟨dst, .build t ps, ty, pos, af, gd⟩ K st = Opt (yv G st ⟨dst, .build t ps, ty, pos, af, gd⟩) (K := ⟨fun av => K (st.put dst av)⟩) := aVal_eq K st ⟨dst, .build t ps, ty, pos, af, gd⟩
theorem aq_build (dst : Option Tmp) (ty : TypeId) (pos : String) (af : Array Edge) (gd : Option (Nat × Bool)) (t : TypeId) (ps : Array (Nat × Operand)) (K : AV → Prop) (st : St) : aq G st ⟨dst, .build t ps, ty, pos, af, gd⟩ K = Opt (yv G st ⟨dst, .build t ps, ty, pos, af, gd⟩) (K := ⟨K⟩) := by rw [aq_eq]
theorem aop_buildSlice (dst : Option Tmp) (ty : TypeId) (pos : String) (af : Array Edge) (gd : Option (Nat × Bool)) (t : TypeId) (n : Nat) (ps : Array (Nat × Operand)) (K : St → Prop) (st : St) : aop G ⟨dst, .buildSlice t n ps, ty, pos, af, gd⟩ K st = Opt (yv G st ⟨dst, .buildSlice t n ps, ty, pos, af, gd⟩) (K := ⟨fun av => K (st.put dst av)⟩) := aVal_eq K st ⟨dst, .buildSlice t n ps, ty, pos, af, gd⟩
theorem aq_buildSlice (dst : Option Tmp) (ty : TypeId) (pos : String) (af : Array Edge) (gd : Option (Nat × Bool)) (t : TypeId) (n : Nat) (ps : Array (Nat × Operand)) (K : AV → Prop) (st : St) : aq G st ⟨dst, .buildSlice t n ps, ty, pos, af, gd⟩ K = Opt (yv G st ⟨dst, .buildSlice t n ps, ty, pos, af, gd⟩) (K := ⟨K⟩) := by rw [aq_eq]
theorem aop_convert (dst : Option Tmp) (ty : TypeId) (pos : String) (af : Array Edge) (gd : Option (Nat × Bool)) (s d : TypeId) (x : Operand) (K : St → Prop) (st : St) : aop G ⟨dst, .convert s d x, ty, pos, af, gd⟩ K st = Opt (yv G st ⟨dst, .convert s d x, ty, pos, af, gd⟩) (K := ⟨fun av => K (st.put dst av)⟩) := aVal_eq K st ⟨dst, .convert s d x, ty, pos, af, gd⟩
theorem aq_convert (dst : Option Tmp) (ty : TypeId) (pos : String) (af : Array Edge) (gd : Option (Nat × Bool)) (s d : TypeId) (x : Operand) (K : AV → Prop) (st : St) : aq G st ⟨dst, .convert s d x, ty, pos, af, gd⟩ K = Opt (yv G st ⟨dst, .convert s d x, ty, pos, af, gd⟩) (K := ⟨K⟩) := by rw [aq_eq]
theorem aop_slice (dst : Option Tmp) (ty : TypeId) (pos : String) (af : Array Edge) (gd : Option (Nat × Bool)) (t : TypeId) (x : Operand) (lo hi mx : Option Operand) (K : St → Prop) (st : St) : aop G ⟨dst, .slice t x lo hi mx, ty, pos, af, gd⟩ K st = Opt (yv G st ⟨dst, .slice t x lo hi mx, ty, pos, af, gd⟩) (K := ⟨fun av => K (st.put dst av)⟩) := aVal_eq K st ⟨dst, .slice t x lo hi mx, ty, pos, af, gd⟩
theorem aq_slice (dst : Option Tmp) (ty : TypeId) (pos : String) (af : Array Edge) (gd : Option (Nat × Bool)) (t : TypeId) (x : Operand) (lo hi mx : Option Operand) (K : AV → Prop) (st : St) : aq G st ⟨dst, .slice t x lo hi mx, ty, pos, af, gd⟩ K = Opt (yv G st ⟨dst, .slice t x lo hi mx, ty, pos, af, gd⟩) (K := ⟨K⟩) := by rw [aq_eq]
theorem aop_binOp (dst : Option Tmp) (ty : TypeId) (pos : String) (af : Array Edge) (gd : Option (Nat × Bool)) (b : BinOp) (t : TypeId) (x y : Operand) (u : TypeId) (K : St → Prop) (st : St) : aop G ⟨dst, .binOp b t x y u, ty, pos, af, gd⟩ K st = aBin G K st ⟨dst, .binOp b t x y u, ty, pos, af, gd⟩ b t x y := propext ⟨fun h => h, fun h => h⟩
theorem aq_binOp (dst : Option Tmp) (ty : TypeId) (pos : String) (af : Array Edge) (gd : Option (Nat × Bool)) (b : BinOp) (t : TypeId) (x y : Operand) (u : TypeId) (K : AV → Prop) (st : St) : aq G st ⟨dst, .binOp b t x y u, ty, pos, af, gd⟩ K = Opt (yv G st ⟨dst, .binOp b t x y u, ty, pos, af, gd⟩) (K := ⟨K⟩) := by rw [aq_eq]
theorem aBin_tmp (o : Oper) (b : BinOp) (t : TypeId) (x : Operand) (d : Tmp) (K : St → Prop) (st : St) : aBin G K st o b t x (.tmp d) = Opt (yv G st o) (K := ⟨fun av => K (st.put o.dst av)⟩) := aVal_eq K st o
theorem aBin_int (o : Oper) (b : BinOp) (t : TypeId) (x : Operand) (k : IntKind) (n : Int) (K : St → Prop) (st : St) : aBin G K st o b t x (.const (.int k n)) = Opt (yv G st o) (K := ⟨fun av => K (st.put o.dst av)⟩) := aVal_eq K st o
theorem aBin_bool (o : Oper) (b : BinOp) (t : TypeId) (x : Operand) (n : Bool) (K : St → Prop) (st : St) : aBin G K st o b t x (.const (.bool n)) = Opt (yv G st o) (K := ⟨fun av => K (st.put o.dst av)⟩) := aVal_eq K st o
theorem aBin_str (o : Oper) (b : BinOp) (t : TypeId) (x : Operand) (n : ByteArray) (K : St → Prop) (st : St) : aBin G K st o b t x (.const (.string n)) = Opt (yv G st o) (K := ⟨fun av => K (st.put o.dst av)⟩) := aVal_eq K st o
theorem aBin_nil (o : Oper) (b : BinOp) (t : TypeId) (x : Operand) (K : St → Prop) (st : St) : aBin G K st o b t x (.const (.slice none 0 0)) = aNil G K st o.dst b t x := propext ⟨fun h => h, fun h => h⟩
theorem alist_app (ops : List Oper) (K : St → Prop) (x : Oper) (a b : List Oper) (st : St) : alist G ops K (List.append (x :: a) b) st = alist G ops K (x :: List.append a b) st := propext ⟨fun h => h, fun h => h⟩
theorem alist_app_nil (ops : List Oper) (K : St → Prop) (b : List Oper) (st : St) : alist G ops K (List.append [] b) st = alist G ops K b st := propext ⟨fun h => h, fun h => h⟩
theorem app_get_succ (x : Oper) (a b : List Oper) (n : Nat) : (List.append (x :: a) b)[n + 1]? = (List.append a b)[n]? := List.getElem?_cons_succ
theorem app_get_zero (x : Oper) (a b : List Oper) : (List.append (x :: a) b)[0]? = some x := List.getElem?_cons_zero
theorem app_get_nil (b : List Oper) (n : Nat) : (List.append [] b)[n]? = b[n]? := congrArg (·[n]?) (List.nil_append b)
theorem aop_box (ty : TypeId) (pos : String) (af : Array Edge) (gd : Option (Nat × Bool)) (t : TypeId) (x : Operand) (d : Tmp) (K : St → Prop) (st : St) : aop G ⟨some d, .box t x, ty, pos, af, gd⟩ K st =
    Opt (ivOf (evO (st.lendO x) x)) (K := ⟨fun y => (cellsOf y).all IV.one = true ∧ K ((st.lendO x).newRow d (cellsOf y).length [cellsOf y])⟩) := by
  simp only [aop, Opt]
  split
  · rename_i d' y h1 h2; cases h1; rw [h2]
  · rename_i h1
    generalize hy : ivOf (evO (st.lendO x) x) = oy
    cases oy with
    | none => rfl
    | some y => exact (h1 d y rfl hy).elim
theorem aop_alloc (ty : TypeId) (pos : String) (af : Array Edge) (gd : Option (Nat × Bool)) (t : TypeId) (d : Tmp) (K : St → Prop) (st : St) : aop G ⟨some d, .alloc t, ty, pos, af, gd⟩ K st = Opt (zeroIV G t) (K := ⟨fun z => K (st.newRow d z.length [z])⟩) := by
  simp only [aop, Opt]
  split
  · rename_i d' y h1 h2; cases h1; rw [h2]
  · rename_i h1
    generalize hy : zeroIV G t = oy
    cases oy with
    | none => rfl
    | some y => exact (h1 d y rfl hy).elim
theorem aop_store (dst : Option Tmp) (ty : TypeId) (pos : String) (af : Array Edge) (gd : Option (Nat × Bool)) (t : TypeId) (p x : Operand) (K : St → Prop) (st : St) : aop G ⟨dst, .store t p x, ty, pos, af, gd⟩ K st = aStore G K (st.lendO x) dst t p x := propext ⟨fun h => h, fun h => h⟩
theorem aop_makeSlice (dst : Option Tmp) (ty : TypeId) (pos : String) (af : Array Edge) (gd : Option (Nat × Bool)) (t : TypeId) (l c : Operand) (K : St → Prop) (st : St) : aop G ⟨dst, .makeSlice t l c, ty, pos, af, gd⟩ K st = aMake G K st dst t (evO st l) (evO st c) := propext ⟨fun h => h, fun h => h⟩
theorem aop_makeFunc (dst : Option Tmp) (ty : TypeId) (pos : String) (af : Array Edge) (gd : Option (Nat × Bool)) (f : Fn) (x y : Array Operand) (K : St → Prop) (st : St) : aop G ⟨dst, .makeFunc f x y, ty, pos, af, gd⟩ K st =
    Opt (yv G (st.lendOs y.toList) ⟨dst, .makeFunc f x y, ty, pos, af, gd⟩) (K := ⟨fun av => K ((st.lendOs y.toList).put dst av)⟩) := aVal_eq K (st.lendOs y.toList) ⟨dst, .makeFunc f x y, ty, pos, af, gd⟩
theorem aq_makeFunc (dst : Option Tmp) (ty : TypeId) (pos : String) (af : Array Edge) (gd : Option (Nat × Bool)) (f : Fn) (x y : Array Operand) (K : AV → Prop) (st : St) : aq G st ⟨dst, .makeFunc f x y, ty, pos, af, gd⟩ K = Opt (yv G st ⟨dst, .makeFunc f x y, ty, pos, af, gd⟩) (K := ⟨K⟩) := by rw [aq_eq]
theorem aop_call (dst : Option Tmp) (ty : TypeId) (pos : String) (af : Array Edge) (gd : Option (Nat × Bool)) (f : Operand) (as : Array Operand) (ts : Array TypeId) (K : St → Prop) (st : St) : aop G ⟨dst, .call ⟨.value f, as, ts⟩, ty, pos, af, gd⟩ K st = aCall G K st dst f as.toList := propext ⟨fun h => h, fun h => h⟩
theorem aq_call (dst : Option Tmp) (ty : TypeId) (pos : String) (af : Array Edge) (gd : Option (Nat × Bool)) (f : Operand) (as : Array Operand) (ts : Array TypeId) (K : AV → Prop) (st : St) : aq G st ⟨dst, .call ⟨.value f, as, ts⟩, ty, pos, af, gd⟩ K =
    match evO st f, ivsOf (as.toList.map (evO st)) with
    | .im (.clo g caps), some xs => CallD G g (xs ++ caps) (K := ⟨fun r => K (.im r)⟩)
    | _, _ => False := (aq_eq st ⟨dst, .call ⟨.value f, as, ts⟩, ty, pos, af, gd⟩ K).trans (propext ⟨fun h => h, fun h => h⟩)
theorem aop_append (dst : Option Tmp) (ty : TypeId) (pos : String) (af : Array Edge) (gd : Option (Nat × Bool)) (as : Array Operand) (ts : Array TypeId) (K : St → Prop) (st : St) : aop G ⟨dst, .call ⟨.builtin .append, as, ts⟩, ty, pos, af, gd⟩ K st = aAppend G K st dst ts.toList as.toList := propext ⟨fun h => h, fun h => h⟩
theorem aop_len (dst : Option Tmp) (ty : TypeId) (pos : String) (af : Array Edge) (gd : Option (Nat × Bool)) (as : Array Operand) (ts : Array TypeId) (K : St → Prop) (st : St) : aop G ⟨dst, .call ⟨.builtin .len, as, ts⟩, ty, pos, af, gd⟩ K st = Opt (yv G st ⟨dst, .call ⟨.builtin .len, as, ts⟩, ty, pos, af, gd⟩) (K := ⟨fun av => K (st.put dst av)⟩) := aVal_eq K st ⟨dst, .call ⟨.builtin .len, as, ts⟩, ty, pos, af, gd⟩
theorem aq_len (dst : Option Tmp) (ty : TypeId) (pos : String) (af : Array Edge) (gd : Option (Nat × Bool)) (as : Array Operand) (ts : Array TypeId) (K : AV → Prop) (st : St) : aq G st ⟨dst, .call ⟨.builtin .len, as, ts⟩, ty, pos, af, gd⟩ K = Opt (yv G st ⟨dst, .call ⟨.builtin .len, as, ts⟩, ty, pos, af, gd⟩) (K := ⟨K⟩) := by rw [aq_eq]
theorem aop_min (dst : Option Tmp) (ty : TypeId) (pos : String) (af : Array Edge) (gd : Option (Nat × Bool)) (as : Array Operand) (ts : Array TypeId) (K : St → Prop) (st : St) : aop G ⟨dst, .call ⟨.builtin .min, as, ts⟩, ty, pos, af, gd⟩ K st = Opt (yv G st ⟨dst, .call ⟨.builtin .min, as, ts⟩, ty, pos, af, gd⟩) (K := ⟨fun av => K (st.put dst av)⟩) := aVal_eq K st ⟨dst, .call ⟨.builtin .min, as, ts⟩, ty, pos, af, gd⟩
theorem aq_min (dst : Option Tmp) (ty : TypeId) (pos : String) (af : Array Edge) (gd : Option (Nat × Bool)) (as : Array Operand) (ts : Array TypeId) (K : AV → Prop) (st : St) : aq G st ⟨dst, .call ⟨.builtin .min, as, ts⟩, ty, pos, af, gd⟩ K = Opt (yv G st ⟨dst, .call ⟨.builtin .min, as, ts⟩, ty, pos, af, gd⟩) (K := ⟨K⟩) := by rw [aq_eq]
theorem aop_max (dst : Option Tmp) (ty : TypeId) (pos : String) (af : Array Edge) (gd : Option (Nat × Bool)) (as : Array Operand) (ts : Array TypeId) (K : St → Prop) (st : St) : aop G ⟨dst, .call ⟨.builtin .max, as, ts⟩, ty, pos, af, gd⟩ K st = Opt (yv G st ⟨dst, .call ⟨.builtin .max, as, ts⟩, ty, pos, af, gd⟩) (K := ⟨fun av => K (st.put dst av)⟩) := aVal_eq K st ⟨dst, .call ⟨.builtin .max, as, ts⟩, ty, pos, af, gd⟩
theorem aq_max (dst : Option Tmp) (ty : TypeId) (pos : String) (af : Array Edge) (gd : Option (Nat × Bool)) (as : Array Operand) (ts : Array TypeId) (K : AV → Prop) (st : St) : aq G st ⟨dst, .call ⟨.builtin .max, as, ts⟩, ty, pos, af, gd⟩ K = Opt (yv G st ⟨dst, .call ⟨.builtin .max, as, ts⟩, ty, pos, af, gd⟩) (K := ⟨K⟩) := by rw [aq_eq]
theorem aAppend_eq (K : St → Prop) (st : St) (d : Nat) (t t' : TypeId) (x y : Operand) : aAppend G K st (some d) [t, t'] [x, y] =
    match (G.ti t).kind with
    | .sl e => match appTok st e (G.ti e).size d (evO st x), elemsOf st (evO st y) with
      | some (src, es), some xs =>
        t = t' ∧ (G.ti t).size ≠ 0 ∧ (G.ti e).size ≠ 0 ∧ (G.ti e).bytes ≠ 0 ∧ (∀ c ∈ es, c.length = (G.ti e).size) ∧ (∀ c ∈ xs, c.length = (G.ti e).size) ∧
        (es.length + xs.length) * (G.ti e).bytes ≤ 140737488355328 ∧
        K ((tokSt st src d (G.ti e).size (es.length + xs.length)).put (some d) (.vec d e (G.ti e).size (es ++ xs)))
      | _, _ => False
    | _ => False := propext ⟨fun h => h, fun h => h⟩
theorem aMake_eq (K : St → Prop) (st : St) (d : Nat) (t : TypeId) (k k' : IntKind) (n m : Int) : aMake G K st (some d) t (.im (.sc (.int k n))) (.im (.sc (.int k' m))) =
    match (G.ti t).kind with
    | .sl e => match zeroIV G e with
      | some z => (G.ti t).size ≠ 0 ∧ n = m ∧ 0 ≤ n ∧ n * (G.ti e).bytes ≤ 140737488355328 ∧ (G.ti e).bytes ≠ 0 ∧ K (st.newArr d (G.ti e).size (List.replicate n.toNat z))
      | none => False
    | _ => False := propext ⟨fun h => h, fun h => h⟩
end
attribute [go_sem ↓] alist_app alist_app_nil app_get_succ app_get_zero app_get_nil awp_skip awp_seq awp_cond awp_block awp_exit awp_ret awp_loop awp_region awp_draw alist_nil alist_free alist_guard aheadN_zero aheadN_nil aheadN_free aheadN_guard aheadS_nil aheadS_store aheadS_alloc aheadS_guard aStores0_eq freshAll_nil freshAll_alloc mkRows_nil mkRows_alloc aheadS_move freshAll_move mkRows_move aheadS_assign freshAll_assign mkRows_assign aheadS_pick freshAll_pick mkRows_pick aheadS_box freshAll_box mkRows_box aheadS_build freshAll_build mkRows_build aheadS_buildSlice freshAll_buildSlice mkRows_buildSlice aheadS_load freshAll_load mkRows_load aheadS_nilCheck freshAll_nilCheck mkRows_nilCheck aheadS_binOp freshAll_binOp mkRows_binOp aheadS_unOp freshAll_unOp mkRows_unOp aheadS_convert freshAll_convert mkRows_convert aheadS_makeFunc freshAll_makeFunc mkRows_makeFunc aheadS_makeSlice freshAll_makeSlice mkRows_makeSlice aheadS_slice freshAll_slice mkRows_slice aheadS_fieldAddr freshAll_fieldAddr mkRows_fieldAddr aheadS_field freshAll_field mkRows_field aheadS_indexAddr freshAll_indexAddr mkRows_indexAddr aheadS_index freshAll_index mkRows_index aheadS_lookup freshAll_lookup mkRows_lookup aheadS_extract freshAll_extract mkRows_extract aheadS_call freshAll_call mkRows_call freshAll_store mkRows_store aheadS_makeMap freshAll_makeMap mkRows_makeMap aheadS_mapUpdate freshAll_mapUpdate mkRows_mapUpdate aheadS_makeInterface freshAll_makeInterface mkRows_makeInterface aStores_nil aStores_other aStores_store aCall_eq aStore_eq aBin_tmp aBin_int aBin_bool aBin_str aBin_nil aNil_eq aop_box aop_alloc aop_store aop_makeSlice aop_makeFunc aq_makeFunc aop_call aq_call aop_append aop_binOp aq_binOp aop_move aq_move aop_assign aq_assign aop_pick aq_pick aop_unOp aq_unOp aop_nilCheck aq_nilCheck aop_load aq_load aop_fieldAddr aq_fieldAddr aop_field aq_field aop_indexAddr aq_indexAddr aop_index aq_index aop_extract aq_extract aop_build aq_build aop_buildSlice aq_buildSlice aop_convert aq_convert aop_slice aq_slice aop_len aq_len aop_min aq_min aop_max aq_max yieldA zeroIV_eq List.getElem?_cons_succ List.getElem?_cons_zero
attribute [go_sem] initSt IV.int IV.bool initFr isSl aRetV St.proms St.prom1 AV.forget fgFr St.forget St.ren renFr St.prom promFr promsOk Opt_some Two_true Two_false Two_not asB yv evO ofV plainV St.get St.put look del undefA Go.undef scBin scUn aggBin eqCells scMin2 scMax2 scFold scs cellsAt aggK setCells fillA sliceEls ivOf ivsOf ivParts fullEls yIndexAddr yField yLoad noZ List.any_cons List.any_nil structPlace yBuild yBuildSlice bnd ySlice yLen yIndex cellsOf IV.one flatB ZC.iv St.fresh AV.purge AV.lend St.lend St.lendO St.lendOs St.newRow St.newArr setRow tokSt elemsOf appTok St.keep List.getElem?_nil List.length_cons List.length_nil List.map_cons List.map_nil List.foldl_cons List.foldl_nil List.all_cons List.all_nil List.cons_append List.nil_append List.drop_succ_cons List.drop_zero List.take_succ_cons List.take_zero List.set_cons_zero List.set_cons_succ List.filter_cons List.filter_nil List.contains_cons List.contains_nil List.replicate_succ List.replicate_zero List.append_nil Int.natCast_nonneg Int.cast_ofNat_Int Option.getD_some Option.getD_none Option.isSome_some Option.isSome_none Option.map_some Option.map_none Bool.false_eq_true Bool.true_eq_false Bool.not_true Bool.not_false Bool.and_true Bool.true_and Bool.and_false Bool.false_and Bool.or_true Bool.true_or Bool.or_false Bool.false_or beq_self_eq_true bq_true oc_int oc_bool oc_string List.length_map List.size_toArray bq_false aRet resL resIV lendR decide_true decide_false if_true if_false ite_true ite_false ne_eq not_true not_false_iff true_and and_true false_and and_false true_or or_true false_or or_false true_implies forall_const implies_true Nat.zero_add Nat.add_zero Int.toNat_natCast flat1 aAppend_eq aMake_eq
end Go.Abs
