/-
  The variables that a call makes for itself: made, written, handed on. Program-independent. The generic layer under all claims of this repo: 10 of several.
-/
import Derived.Test.YtnjkhiafjcajaaaGreatKX1
namespace Go.Abs
set_option linter.all false
open Go.RowKit (Below)

def AV.refs : AV → Nat → Prop
  | .vec d' _ _ _, d => d' = d
  | .osl d' _ _ _, d => d' = d
  | .gsl d' _ _ _, d => d' = d
  | .loc d' _ _ _, d => d' = d
  | .mpo d' _ _, d => d' = d
  | _, _ => False

def AV.purge (d : Nat) : AV → AV
  | .vec d' e s es => if d' = d then .im (.sl es) else .vec d' e s es
  | .osl d' s i n => if d' = d then .und else .osl d' s i n
  | .gsl d' e s n => if d' = d then .und else .gsl d' e s n
  | .loc d' s i j => if d' = d then .und else .loc d' s i j
  | .mpo d' sc kvs => if d' = d then .und else .mpo d' sc kvs
  | .im x => .im x
  | .und => .und
  | .sx es => .sx es
def St.fresh (st : St) (d : Nat) : St := ⟨st.fr.map fun p => (p.1, p.2.purge d), del st.rows d, del st.toks d⟩

def AV.lend (d s : Nat) (es : List (List IV)) : AV → AV
  | .osl d' s' i n => if d' = d then (if s' = s ∧ i + n ≤ es.length then .im (.sl ((es.drop i).take n)) else .und) else .osl d' s' i n
  | .gsl d' e s' n => if d' = d then (if s' = s ∧ 0 + n ≤ es.length then .im (.sl ((es.drop 0).take n)) else .und) else .gsl d' e s' n
  | .loc d' s' i j => if d' = d then (if s' = s then (match es[i]? with | some c => .im (.ip c j) | none => .und) else .und) else .loc d' s' i j
  | .vec d' e s' es' => .vec d' e s' es'
  | .mpo d' sc kvs => .mpo d' sc kvs
  | .im x => .im x
  | .und => .und
  | .sx es => .sx es
def AV.froz (d : Nat) : AV → AV
  | .mpo d' sc kvs => if d' = d then .im (.mp sc kvs) else .mpo d' sc kvs
  | .vec d' e s es => .vec d' e s es
  | .osl d' s i n => .osl d' s i n
  | .gsl d' e s n => .gsl d' e s n
  | .loc d' s i j => .loc d' s i j
  | .im x => .im x
  | .und => .und
  | .sx es => .sx es
/-- The map d is not written to any more. -/
def St.lendM (st : St) (d : Nat) : St :=
  match look st.toks d with
  | some (0, 0) => ⟨st.fr.map fun p => (p.1, p.2.froz d), st.rows, del st.toks d⟩
  | _ => st
def St.lend (st : St) (d : Nat) : St :=
  match look st.rows d with
  | some (s, es) => ⟨st.fr.map fun p => (p.1, p.2.lend d s es), del st.rows d, st.toks⟩
  | none => st
def St.lendO (st : St) (x : Operand) : St :=
  match evO st x with
  | .osl d _ _ _ => st.lend d
  | .gsl d _ _ _ => st.lend d
  | .loc d _ _ _ => st.lend d
  | .mpo d _ _ => st.lendM d
  | _ => st
def St.lendOs (st : St) (xs : List Operand) : St := xs.foldl St.lendO st

def upd (β : Nat → Option Nat) (d : Nat) (x : Option Nat) : Nat → Option Nat := fun k => if k = d then x else β k
theorem upd_same (β : Nat → Option Nat) (d : Nat) (x : Option Nat) : upd β d x d = x := by simp [upd]
theorem upd_ne (β : Nat → Option Nat) {d k : Nat} (x : Option Nat) (h : k ≠ d) : upd β d x k = β k := by simp [upd, h]

section
variable {G : Ctx} {N : Nat} {w0 : Base} {w w' : World} {M M' M0 : Nat → Nat → Prop} {β β' : Nat → Option Nat} {st : St} {a : Act} {toks toks' : List (Nat × Nat × Nat)} {av : AV} {v : Value}

theorem RepA.move (h : RepA w M β toks av v) (hk : Kept w M w' M') (hβ : ∀ d, av.refs d → β' d = β d) (ht : ∀ d s n, av.refs d → look toks' d = some (s, n) → look toks d = some (s, n))
    (hh : ∀ d b, (look toks' d).isSome → av.refs d → β d = some b → w'.heap[b]? = w.heap[b]?) (hs : Shp w w') : RepA w' M' β' toks' av v := by
  cases av with
  | im x => exact Rep.kept (w := w) h hk
  | und => trivial
  | sx es => exact ⟨Rep.kept h.1 hk, h.2⟩
  | vec d e s es =>
    refine ⟨Rep.kept h.1 hk, h.2.1, fun hl => ?_⟩
    rcases h.2.2 (ht d _ _ rfl hl) with hc | ⟨b, cap, cur, h1, h2, h3, h4⟩
    · exact .inl hc
    · exact .inr ⟨b, cap, cur, by rw [hβ d rfl]; exact h1, h2, by rw [hh d b (by simp [hl]) rfl h1]; exact h3, h4⟩
  | osl d s i n =>
    obtain ⟨ad, c, h1, h2, h3⟩ := h
    exact ⟨ad, c, h1, h2, fun hn => let ⟨b, h4, h5⟩ := h3 hn; ⟨b, by rw [hβ d rfl]; exact h4, h5⟩⟩
  | gsl d e s n =>
    obtain ⟨b, cap, cur, h1, h2, h3, h4, h5, h6⟩ := h
    obtain ⟨cur', h7, h8⟩ := hs b cur e h3
    exact ⟨b, cap, cur', by rw [hβ d rfl]; exact h1, h2, h7, h4, h5, by rw [h8]; exact h6⟩
  | loc d s i j =>
    obtain ⟨b, h1, h2⟩ := h
    exact ⟨b, by rw [hβ d rfl]; exact h1, h2⟩
  | mpo d sc kvs =>
    obtain ⟨b, h1, h2, h3⟩ := h
    refine ⟨b, by rw [hβ d rfl]; exact h1, h2, fun hl => ?_⟩
    rw [hh d b (by simp [hl]) rfl h1]
    exact h3 (ht d _ _ rfl hl)

theorem RowRep.move {b s : Nat} {es : List (List IV)} (h : RowRep w M b s es) (hk : Kept w M w' M') (hh : w'.heap[b]? = w.heap[b]?) : RowRep w' M' b s es := by
  obtain ⟨cur, T, h1, h2, h3⟩ := h
  refine ⟨cur, T, by rw [hh]; exact h1, h2, fun i e j x hi hj => ?_⟩
  obtain ⟨ho, u, hu, hr⟩ := h3 i e j x hi hj
  exact ⟨ho, u, hu, hr.kept hk⟩

/-! ### fresh -/
theorem perm_upd {β : Nat → Option Nat} {d : Nat} {x : Option Nat} (h : ∀ b, β (hp b) = some b) (hd : d < 100000 ∨ ∃ b, d = hp b ∧ x = some b) : ∀ b, upd β d x (hp b) = some b := fun b => by
  by_cases e : hp b = d
  · rcases hd with hd | ⟨b', h1, h2⟩
    · exact absurd e.symm (hp_ne hd)
    · subst h1
      rw [hp_inj.1 e, upd_same, h2]
  · rw [upd_ne _ _ e]; exact h b
theorem purge_refs (d : Nat) (av : AV) : ¬ (av.purge d).refs d := by
  cases av <;> simp only [AV.purge] <;> (try split) <;> simp_all [AV.refs]
theorem purge_refs_ne {d k : Nat} {av : AV} (h : (av.purge d).refs k) : av.refs k ∧ k ≠ d := by
  cases av <;> simp only [AV.purge] at h <;> (try split at h) <;> simp_all [AV.refs] <;> omega
theorem get_fresh (st : St) (d t : Nat) : (st.fresh d).get t = (st.get t).purge d := by
  simp only [St.get, St.fresh]
  rw [look_map]
  cases look st.fr t <;> rfl
theorem Mo_fresh {d b o : Nat} (h : Mo M0 β (st.fresh d) b o) : Mo M0 β st b o := by
  rcases h with h | ⟨k, s, es, hk, hb⟩ | ⟨k, s, n, hk, hb⟩
  · exact .inl h
  · by_cases e : k = d
    · subst e; simp [St.fresh, look_del_same] at hk
    · exact .inr (.inl ⟨k, s, es, by simpa [St.fresh, look_del_ne _ e] using hk, hb⟩)
  · by_cases e : k = d
    · subst e; simp [St.fresh, look_del_same] at hk
    · exact .inr (.inr ⟨k, s, n, by simpa [St.fresh, look_del_ne _ e] using hk, hb⟩)
theorem RepA.purge (h : RepA w M β toks av v) (d : Nat) : RepA w M β toks (av.purge d) v := by
  cases av <;> simp only [AV.purge] <;> first | exact h | skip
  all_goals (split <;> first | exact h | exact h.1 | trivial)

theorem Sim.fresh (h : Sim N w0 M0 β st a w) (d : Nat) : Sim N w0 M0 β (st.fresh d) a w where
  size := h.size
  defers := h.defers
  below := h.below
  m0 := h.m0
  fr t := by
    rw [get_fresh]
    refine ((h.fr t).purge d).move (Kept.less w fun b o hm => Mo_fresh hm) (fun _ _ => rfl) (fun k s n hr hl => ?_) (fun _ _ _ _ _ => rfl) (Shp.refl _)
    have := (purge_refs_ne hr).2
    simpa [St.fresh, look_del_ne _ this] using hl
  rows k s es hk := by
    by_cases e : k = d
    · subst e; simp [St.fresh, look_del_same] at hk
    · obtain ⟨b, h1, h2, h3⟩ := h.rows k s es (by simpa [St.fresh, look_del_ne _ e] using hk)
      exact ⟨b, h1, h2, h3.move (Kept.less w fun b o hm => Mo_fresh hm) rfl⟩
  toks k s n hk := by
    by_cases e : k = d
    · subst e; simp [St.fresh, look_del_same] at hk
    · exact h.toks k s n (by simpa [St.fresh, look_del_ne _ e] using hk)
  inj k k' b hk hk' := by
    refine h.inj k k' b ?_ ?_
    · by_cases e : k = d
      · subst e; simp [St.fresh, look_del_same] at hk
      · simpa [St.fresh, look_del_ne _ e] using hk
    · by_cases e : k' = d
      · subst e; simp [St.fresh, look_del_same] at hk'
      · simpa [St.fresh, look_del_ne _ e] using hk'
  excl k hk := by
    by_cases e : k = d
    · subst e; simp [St.fresh, look_del_same]
    · have := h.excl k (by simpa [St.fresh, look_del_ne _ e] using hk)
      simpa [St.fresh, look_del_ne _ e] using this
  nam k hN hN' hk := by
    by_cases e : k = d
    · subst e; simp [St.fresh, look_del_same] at hk
    · exact h.nam k hN hN' (by simpa [St.fresh, look_del_ne _ e] using hk)
  np := h.np
  perm := h.perm

/-- Nothing is known under the number d. -/
structure St.Clean (st : St) (d : Nat) : Prop where
  refs : ∀ t, ¬ (st.get t).refs d
  rows : look st.rows d = none
  toks : look st.toks d = none
theorem clean_fresh (st : St) (d : Nat) : (st.fresh d).Clean d :=
  ⟨fun t => by rw [get_fresh]; exact purge_refs d _, by simp [St.fresh, look_del_same], by simp [St.fresh, look_del_same]⟩

/-- A new row under a number that is free. -/
theorem Sim.newRow0 (h : Sim N w0 M0 β st a w) {d s : Nat} {es : List (List IV)} {cells : Array Value} {T : TypeId} (hdN : d < N ∨ d = hp w.heap.size) (hct : look st.toks d = none) (hcr : ∀ t, (st.get t).refs d → d = hp w.heap.size) (hes : ∀ e ∈ es, e.length = s)
    (hr : ∀ (i : Nat) e (j : Nat) x, es[i]? = some e → e[j]? = some x → x.one = true ∧ ∃ u, cells[i * s + j]? = some u ∧ Rep w (Mo M0 β st) x u) :
    Sim N w0 M0 (upd β d (some w.heap.size)) { st with rows := (d, s, es) :: st.rows } a (w.alloc (.cells cells T)) := by
  have hM : ∀ b o, Mo M0 (upd β d (some w.heap.size)) { st with rows := (d, s, es) :: st.rows } b o → b ≠ w.heap.size → Mo M0 β st b o := by
    intro b o hm hb
    rcases hm with hm | ⟨k, s', es', hk, hkb⟩ | ⟨k, s', n, hk, hkb⟩
    · exact .inl hm
    · by_cases e : k = d
      · subst e; rw [upd_same] at hkb; cases hkb; exact absurd rfl hb
      · rw [upd_ne _ _ e] at hkb
        exact .inr (.inl ⟨k, s', es', by simpa [look, e] using hk, hkb⟩)
    · by_cases e : k = d
      · subst e; exact absurd hk (by simp [hct])
      · rw [upd_ne _ _ e] at hkb
        exact .inr (.inr ⟨k, s', n, hk, hkb⟩)
  have hk : Kept w (Mo M0 β st) (w.alloc (.cells cells T)) (Mo M0 (upd β d (some w.heap.size)) { st with rows := (d, s, es) :: st.rows }) := by
    refine ⟨fun b o u hcell hn => ?_, fun b es c hb hn => ?_, ?_⟩
    · have hb : b < w.heap.size := World.block_lt_of_cell? (a := ⟨b, o, none⟩) w hcell
      exact ⟨by rw [World.cell?_alloc_lt w _ _ hb]; exact hcell, fun hm => hn (hM b o hm (by omega))⟩
    · have hlt := (Array.getElem?_eq_some_iff.1 hb).1
      exact ⟨by rw [heap_alloc_old w _ hlt]; exact hb, fun hm => hn (hM b 0 hm (by omega))⟩
    · exact Shp.old fun b hb => heap_alloc_old w _ hb
  have hold : ∀ b, b < w.heap.size → (w.alloc (.cells cells T)).heap[b]? = w.heap[b]? := fun b hb => heap_alloc_old w _ hb
  have hrowlt : ∀ k s es b, look st.rows k = some (s, es) → β k = some b → b < w.heap.size := fun k s es b hk hb => by
    obtain ⟨b', hb', _, cur, T', h1, _⟩ := h.rows k s es hk
    rw [hb] at hb'; cases hb'
    exact (Array.getElem?_eq_some_iff.1 h1).1
  refine ⟨h.size, h.defers, h.below.alloc _, h.m0, fun t => ?_, fun k s' es' hk' => ?_, fun k s' n hk' b hb => ?_, fun k k' b h1 h2 hb hb' => ?_, fun k hk' => ?_, fun k hN hN' hk' => ?_, h.np, perm_upd h.perm (hdN.imp (fun e => Nat.lt_of_lt_of_le e h.np) fun e => ⟨_, e, rfl⟩)⟩
  case refine_6 =>
    have e : k ≠ d := by rcases hdN with h1 | h1 <;> (try unfold hp at h1) <;> omega
    rw [upd_ne _ _ e]
    exact h.nam k hN hN' (by simpa [look, e] using hk')
  · refine (h.fr t).move hk (fun k hr => ?_) (fun k s' n _ hl => hl) (fun k b hl _ hb => ?_) (Shp.old hold)
    · by_cases e : k = d
      · subst e
        rw [upd_same, hcr t hr, h.perm]
      · exact upd_ne _ _ e
    · obtain ⟨⟨s', n⟩, hl'⟩ := Option.isSome_iff_exists.1 hl
      exact hold b (h.toks k s' n hl' b hb).2
  · by_cases e : k = d
    · subst e
      simp only [look, if_true, Option.some.injEq, Prod.mk.injEq] at hk'
      obtain ⟨rfl, rfl⟩ := hk'
      refine ⟨w.heap.size, upd_same _ _ _, fun hp => absurd (Nat.lt_of_lt_of_le (w0.lt _ hp) h.below.size) (Nat.lt_irrefl _), cells, T, heap_alloc_new w _, hes, fun i e j x hi hj => ?_⟩
      obtain ⟨h1, u, h2, h3⟩ := hr i e j x hi hj
      exact ⟨h1, u, h2, h3.kept hk⟩
    · have hk2 : look st.rows k = some (s', es') := by simpa [look, e] using hk'
      obtain ⟨b, h1, h2, h3⟩ := h.rows k s' es' hk2
      exact ⟨b, by rw [upd_ne _ _ e]; exact h1, h2, h3.move hk (hold b (hrowlt k s' es' b hk2 h1))⟩
  · have e : k ≠ d := fun e => by subst e; rw [hct] at hk'; cases hk'
    rw [upd_ne _ _ e] at hb
    obtain ⟨h1, h2⟩ := h.toks k s' n hk' b hb
    exact ⟨h1, by simp; omega⟩
  · have dom : ∀ k, ((look ((d, s, es) :: st.rows) k).isSome ∨ (look st.toks k).isSome) → k ≠ d → ((look st.rows k).isSome ∨ (look st.toks k).isSome) := fun k hk hne => by
      simpa [look, hne] using hk
    have lt : ∀ k b, ((look st.rows k).isSome ∨ (look st.toks k).isSome) → β k = some b → b < w.heap.size := fun k b hk hb => by
      rcases hk with hk | hk
      · obtain ⟨⟨s', es'⟩, hl⟩ := Option.isSome_iff_exists.1 hk
        exact hrowlt k s' es' b hl hb
      · obtain ⟨⟨s', n⟩, hl⟩ := Option.isSome_iff_exists.1 hk
        exact (h.toks k s' n hl b hb).2
    by_cases e : k = d <;> by_cases e' : k' = d
    · omega
    · subst e
      rw [upd_same] at hb; rw [upd_ne _ _ e'] at hb'
      cases hb
      exact absurd (lt k' _ (dom k' h2 e') hb') (by omega)
    · subst e'
      rw [upd_same] at hb'; rw [upd_ne _ _ e] at hb
      cases hb'
      exact absurd (lt k _ (dom k h1 e) hb) (by omega)
    · rw [upd_ne _ _ e] at hb; rw [upd_ne _ _ e'] at hb'
      exact h.inj k k' b (dom k h1 e) (dom k' h2 e') hb hb'
  · by_cases e : k = d
    · subst e; exact hct
    · exact h.excl k (by simpa [look, e] using hk')

theorem Sim.newRow (h : Sim N w0 M0 β st a w) {d s : Nat} {es : List (List IV)} {cells : Array Value} {T : TypeId} (hdN : d < N) (hc : st.Clean d) (hes : ∀ e ∈ es, e.length = s)
    (hr : ∀ (i : Nat) e (j : Nat) x, es[i]? = some e → e[j]? = some x → x.one = true ∧ ∃ u, cells[i * s + j]? = some u ∧ Rep w (Mo M0 β st) x u) :
    Sim N w0 M0 (upd β d (some w.heap.size)) { st with rows := (d, s, es) :: st.rows } a (w.alloc (.cells cells T)) :=
  h.newRow0 (.inl hdN) hc.toks (fun t hr => absurd hr (hc.refs t)) hes hr
/-- No row, and no token, lies in a block that is not there yet. -/
theorem Sim.none_at (h : Sim N w0 M0 β st a w) {b : Nat} (hb : w.heap.size ≤ b) : look st.rows (hp b) = none ∧ look st.toks (hp b) = none := by
  constructor
  · cases hl : look st.rows (hp b) with
    | none => rfl
    | some x =>
      obtain ⟨s, es⟩ := x
      obtain ⟨b', h1, _, cur, T, h2, _⟩ := h.rows _ s es hl
      rw [h.perm] at h1; cases h1
      have := (Array.getElem?_eq_some_iff.1 h2).1
      omega
  · cases hl : look st.toks (hp b) with
    | none => rfl
    | some x =>
      obtain ⟨s, n⟩ := x
      have := (h.toks _ s n hl b (h.perm b)).2
      omega
/-- A new row in a block of its own. -/
theorem Sim.newRowH (h : Sim N w0 M0 β st a w) {s : Nat} {es : List (List IV)} {cells : Array Value} {T : TypeId} (hes : ∀ e ∈ es, e.length = s)
    (hr : ∀ (i : Nat) e (j : Nat) x, es[i]? = some e → e[j]? = some x → x.one = true ∧ ∃ u, cells[i * s + j]? = some u ∧ Rep w (Mo M0 β st) x u) :
    Sim N w0 M0 β { st with rows := (hp w.heap.size, s, es) :: st.rows } a (w.alloc (.cells cells T)) := by
  have h1 := h.newRow0 (T := T) (.inr rfl) (h.none_at (Nat.le_refl _)).2 (fun _ _ => rfl) hes hr
  have e : upd β (hp w.heap.size) (some w.heap.size) = β := by
    funext k
    unfold upd
    split
    · rename_i e; rw [e, h.perm]
    · rfl
  rwa [e] at h1

/-! ### lend -/
theorem lend_refs {d s k : Nat} {es : List (List IV)} {av : AV} (h : (av.lend d s es).refs k) : av.refs k := by
  cases av <;> simp only [AV.lend] at h <;> (repeat' (split at h)) <;> simp_all [AV.refs]
theorem Mo_del {d b o : Nat} {fr : List (Nat × AV)} (h : Mo M0 β ⟨fr, del st.rows d, st.toks⟩ b o) : Mo M0 β st b o := by
  rcases h with h | ⟨k, s, es, hk, hb⟩ | h
  · exact .inl h
  · by_cases e : k = d
    · subst e; simp [look_del_same] at hk
    · exact .inr (.inl ⟨k, s, es, by simpa [look_del_ne _ e] using hk, hb⟩)
  · exact .inr (.inr h)

theorem Sim.lend (h : Sim N w0 M0 β st a w) (d : Nat) : Sim N w0 M0 β (st.lend d) a w := by
  unfold St.lend
  split
  case h_2 => exact h
  case h_1 s es hd =>
    obtain ⟨b, hb, hb0, hrow⟩ := h.rows d s es hd
    have htok : look st.toks d = none := h.excl d (by simp [hd])
    have hk : Kept w (Mo M0 β st) w (Mo M0 β ⟨st.fr.map fun p => (p.1, p.2.lend d s es), del st.rows d, st.toks⟩) := Kept.less w fun b o hm => Mo_del hm
    -- the row's block is now one that may be read
    have hnm : ∀ o, ¬ Mo M0 β ⟨st.fr.map fun p => (p.1, p.2.lend d s es), del st.rows d, st.toks⟩ b o := by
      rintro o (hm | ⟨k, s', es', hk', hkb⟩ | ⟨k, s', n, hk', hkb, _⟩)
      · exact hb0 (h.m0 b o hm)
      · by_cases e : k = d
        · subst e; simp [look_del_same] at hk'
        · have := h.inj k d b (.inl (by simp only [look_del_ne _ e] at hk'; simp [hk'])) (.inl (by simp [hd])) hkb hb
          exact e this
      · have := h.inj k d b (.inr (by simp only at hk'; simp [hk'])) (.inl (by simp [hd])) hkb hb
        subst this; simp only at hk'; rw [htok] at hk'; cases hk'
    have hrow' := hrow.move hk rfl
    refine ⟨h.size, h.defers, h.below, h.m0, fun t => ?_, fun k s' es' hk' => ?_, h.toks, fun k k' b h1 h2 => ?_, fun k hk' => ?_, fun k hN hN' hk' => ?_, h.np, h.perm⟩
    case refine_5 =>
      by_cases e : k = d
      · subst e; simp [look_del_same] at hk'
      · exact h.nam k hN hN' (by simpa [look_del_ne _ e] using hk')
    · have hg : (⟨st.fr.map fun p => (p.1, p.2.lend d s es), del st.rows d, st.toks⟩ : St).get t = (st.get t).lend d s es := by
        simp only [St.get]
        rw [look_map]
        cases look st.fr t <;> rfl
      rw [hg]
      have hfr := h.fr t
      generalize st.get t = av at hfr
      generalize a.tmps.getD t undef = v at hfr
      have hgl : ∀ d' e s' n, av = .gsl d' e s' n → d' = d → av.lend d s es = av.soft.lend d s es := fun d' e s' n h1 h2 => by
        subst h1 h2
        simp only [AV.soft, AV.lend, if_true]
      obtain ⟨av', hav, hlav⟩ : ∃ av', RepA w (Mo M0 β st) β st.toks av' v ∧ av.lend d s es = av'.lend d s es ∧ ∀ d' e s' n, av' = .gsl d' e s' n → d' ≠ d := by
        by_cases hq : ∃ e s' n, av = .gsl d e s' n
        · obtain ⟨e, s', n, rfl⟩ := hq
          exact ⟨_, hfr.soft h.perm, hgl d e s' n rfl rfl, fun d' e' s2 n' h => by simp [AV.soft] at h⟩
        · exact ⟨av, hfr, rfl, fun d' e s' n h1 h2 => by subst h2; exact hq ⟨e, s', n, h1⟩⟩
      obtain ⟨hlav, hng⟩ := hlav
      rw [hlav]
      clear hlav hgl hfr
      have hfr := hav
      clear hav
      cases av' with
      | gsl d' e s' n =>
        have hne := hng d' e s' n rfl
        simp only [AV.lend, if_neg hne]
        exact RepA.move hfr hk (fun _ _ => rfl) (fun _ _ _ _ h => h) (fun _ _ _ _ _ => rfl) (Shp.refl _)
      | osl d' s' i n =>
        simp only [AV.lend]
        split
        · rename_i e; subst e
          split
          · rename_i hc
            obtain ⟨rfl, hle⟩ := hc
            obtain ⟨ad, c, h1, rfl, h3⟩ := hfr
            by_cases hn : n = 0
            · subst hn; simp only [List.take_zero]; exact Rep.nil _ _
            · obtain ⟨b', hb', rfl⟩ := h3 hn
              rw [hb] at hb'; cases hb'
              obtain ⟨cur, T, hc1, hc2, hc3⟩ := hrow'
              have hlen : ((es.drop i).take n).length = n := by simp; omega
              have hget : ∀ i' e, ((es.drop i).take n)[i']? = some e → es[i + i']? = some e := fun i' e hi => by
                rw [List.getElem?_take] at hi
                split at hi
                · rwa [List.getElem?_drop] at hi
                · cases hi
              have hcell : ∀ i' e j x, ((es.drop i).take n)[i']? = some e → e[j]? = some x → x.one = true ∧ cur[(i + i') * s' + j]? = some (cur.getD ((i + i') * s' + j) undef) ∧ Rep w _ x (cur.getD ((i + i') * s' + j) undef) := fun i' e j x hi hj => by
                obtain ⟨ho, u, hu, hr⟩ := hc3 (i + i') e j x (hget i' e hi) hj
                have : cur.getD ((i + i') * s' + j) undef = u := by simp [hu]
                exact ⟨ho, by rw [this]; exact hu, by rw [this]; exact hr⟩
              have := Rep.sl (w := w) (M := Mo M0 β ⟨st.fr.map fun p => (p.1, p.2.lend d' s' es), del st.rows d', st.toks⟩) ((es.drop i).take n) s' b (i * s') c (fun i' j => cur.getD ((i + i') * s' + j) undef) (fun h => by rw [h] at hlen; simp at hlen; omega)
                (fun e he => hc2 e (List.mem_of_mem_drop (List.mem_of_mem_take he))) (by omega)
                (fun i' e j x hi hj => by
                  obtain ⟨h1, h2, _⟩ := hcell i' e j x hi hj
                  refine ⟨h1, ?_, hnm _⟩
                  rw [cell_of_row w b _ cur T _ hc1, ← h2, Nat.add_mul])
                (fun i' e j x hi hj => (hcell i' e j x hi hj).2.2)
              rw [hlen] at this
              exact this
          · trivial
        · rename_i e
          exact RepA.move hfr hk (fun _ _ => rfl) (fun _ _ _ _ h => h) (fun _ _ _ _ _ => rfl) (Shp.refl _)
      | loc d' s' i j =>
        simp only [AV.lend]
        split
        · rename_i e; subst e
          split
          · rename_i hs; subst hs
            split
            · rename_i c hi
              obtain ⟨b', hb', rfl⟩ := hfr
              rw [hb] at hb'; cases hb'
              obtain ⟨u, hu⟩ := row_cells hrow' hi
              exact Rep.ip c j b (i * s') u (fun k x hx => ⟨(hu k x hx).1, (hu k x hx).2.1, hnm _⟩) (fun k x hx => (hu k x hx).2.2)
            · trivial
          · trivial
        · rename_i e
          exact RepA.move hfr hk (fun _ _ => rfl) (fun _ _ _ _ h => h) (fun _ _ _ _ _ => rfl) (Shp.refl _)
      | _ => exact RepA.move hfr hk (fun _ _ => rfl) (fun _ _ _ _ h => h) (fun _ _ _ _ _ => rfl) (Shp.refl _)
    · by_cases e : k = d
      · subst e; simp [look_del_same] at hk'
      · obtain ⟨b', h1, h2, h3⟩ := h.rows k s' es' (by simpa [look_del_ne _ e] using hk')
        exact ⟨b', h1, h2, h3.move hk rfl⟩
    · refine h.inj k k' b ?_ ?_
      · by_cases e : k = d
        · subst e; simp [look_del_same, htok] at h1
        · simpa [look_del_ne _ e] using h1
      · by_cases e : k' = d
        · subst e; simp [look_del_same, htok] at h2
        · simpa [look_del_ne _ e] using h2
    · by_cases e : k = d
      · subst e; simp [look_del_same] at hk'
      · exact h.excl k (by simpa [look_del_ne _ e] using hk')
theorem froz_refs {d k : Nat} {av : AV} (h : (av.froz d).refs k) : av.refs k := by
  cases av <;> simp only [AV.froz] at h <;> (repeat' (split at h)) <;> simp_all [AV.refs]
theorem Mo_delT {d b o : Nat} {fr : List (Nat × AV)} (h : Mo M0 β ⟨fr, st.rows, del st.toks d⟩ b o) : Mo M0 β st b o := by
  rcases h with h | h | ⟨k, s, n, hk, hb⟩
  · exact .inl h
  · exact .inr (.inl h)
  · by_cases e : k = d
    · subst e; simp [look_del_same] at hk
    · exact .inr (.inr ⟨k, s, n, by simpa [look_del_ne _ e] using hk, hb⟩)
theorem Sim.lendM (h : Sim N w0 M0 β st a w) (d : Nat) : Sim N w0 M0 β (st.lendM d) a w := by
  unfold St.lendM
  split
  case h_2 => exact h
  case h_1 hd =>
    have hrow : look st.rows d = none := by
      cases hr : look st.rows d with
      | none => rfl
      | some x => have := h.excl d (by simp [hr]); rw [hd] at this; cases this
    have hk : Kept w (Mo M0 β st) w (Mo M0 β ⟨st.fr.map fun p => (p.1, p.2.froz d), st.rows, del st.toks d⟩) := Kept.less w fun b o hm => Mo_delT hm
    have htk : ∀ k x, look (del st.toks d) k = some x → k ≠ d ∧ look st.toks k = some x := fun k x hk => by
      by_cases e : k = d
      · subst e; simp [look_del_same] at hk
      · exact ⟨e, by simpa [look_del_ne _ e] using hk⟩
    refine ⟨h.size, h.defers, h.below, h.m0, fun t => ?_, fun k s' es' hk' => ?_, fun k s n hk' => h.toks k s n (htk k _ hk').2, fun k k' b h1 h2 => ?_, fun k hk' => ?_, h.nam, h.np, h.perm⟩
    · have hg : (⟨st.fr.map fun p => (p.1, p.2.froz d), st.rows, del st.toks d⟩ : St).get t = (st.get t).froz d := by
        simp only [St.get]
        rw [look_map]
        cases look st.fr t <;> rfl
      rw [hg]
      have hfr := h.fr t
      generalize st.get t = av at hfr
      generalize a.tmps.getD t undef = v at hfr
      have hmv : RepA w (Mo M0 β ⟨st.fr.map fun p => (p.1, p.2.froz d), st.rows, del st.toks d⟩) β (del st.toks d) av v :=
        RepA.move hfr hk (fun _ _ => rfl) (fun k s n _ hl => (htk k _ hl).2) (fun _ _ _ _ _ => rfl) (Shp.refl _)
      cases av with
      | mpo d' sc kvs =>
        simp only [AV.froz]
        split
        · rename_i e; subst e
          obtain ⟨b, h1, rfl, h3⟩ := hfr
          obtain ⟨es, c, h4, h5⟩ := h3 hd
          refine Rep.mp sc kvs b es c h4 ?_ h5
          rintro (hm | ⟨k, s', es', hk', hkb⟩ | ⟨k, s', n, hk', hkb, _⟩)
          · exact (h.toks d' 0 0 hd b h1).1 (h.m0 b 0 hm)
          · have := h.inj k d' b (.inl (by simp only at hk'; simp [hk'])) (.inr (by simp [hd])) hkb h1
            subst this; simp only at hk'; rw [hrow] at hk'; cases hk'
          · obtain ⟨hne, hk2⟩ := htk k _ hk'
            exact hne (h.inj k d' b (.inr (by simp [hk2])) (.inr (by simp [hd])) hkb h1)
        · exact hmv
      | _ => exact hmv
    · obtain ⟨b, h1, h2, h3⟩ := h.rows k s' es' hk'
      exact ⟨b, h1, h2, h3.move hk rfl⟩
    · have up : ∀ k, ((look st.rows k).isSome ∨ (look (del st.toks d) k).isSome) → ((look st.rows k).isSome ∨ (look st.toks k).isSome) := fun k hk => by
        rcases hk with hk | hk
        · exact .inl hk
        · obtain ⟨x, hx⟩ := Option.isSome_iff_exists.1 hk
          exact .inr (by simp [(htk k _ hx).2])
      exact h.inj k k' b (up k h1) (up k' h2)
    · by_cases e : k = d
      · subst e; simp [look_del_same]
      · simpa [look_del_ne _ e] using h.excl k hk'
theorem Sim.lendO (h : Sim N w0 M0 β st a w) (x : Operand) : Sim N w0 M0 β (st.lendO x) a w := by
  unfold St.lendO
  split
  · exact h.lend _
  · exact h.lend _
  · exact h.lend _
  · exact h.lendM _
  · exact h
theorem Sim.lendOs (h : Sim N w0 M0 β st a w) (xs : List Operand) : Sim N w0 M0 β (st.lendOs xs) a w := by
  induction xs generalizing st with
  | nil => exact h
  | cons x xs ih => exact ih (h.lendO x)
end
end Go.Abs

namespace Go.Abs
set_option linter.all false
open Go.RowKit (Below)

def setRow (l : List (Nat × Nat × List (List IV))) (d s : Nat) (es : List (List IV)) : List (Nat × Nat × List (List IV)) :=
  l.map fun p => if p.1 = d then (p.1, s, es) else p
theorem look_setRow_same {l : List (Nat × Nat × List (List IV))} {d s : Nat} {es : List (List IV)} (h : (look l d).isSome) : look (setRow l d s es) d = some (s, es) := by
  induction l with
  | nil => simp [look] at h
  | cons p l ih =>
    obtain ⟨j, v⟩ := p
    by_cases e : d = j
    · subst e; simp [setRow, look]
    · have hl : (look l d).isSome := by simpa [look, e] using h
      simp only [setRow, List.map_cons, Ne.symm e, if_false, look, e]
      exact ih hl
theorem look_setRow_ne {l : List (Nat × Nat × List (List IV))} {d s k : Nat} {es : List (List IV)} (h : k ≠ d) : look (setRow l d s es) k = look l k := by
  induction l with
  | nil => rfl
  | cons p l ih =>
    obtain ⟨j, v⟩ := p
    by_cases e : j = d
    · subst e
      simp only [setRow, List.map_cons, if_true, look, h, if_false]
      exact ih
    · simp only [setRow, List.map_cons, e, if_false, look]
      split
      · rfl
      · exact ih
theorem look_setRow_some {l : List (Nat × Nat × List (List IV))} {d s k : Nat} {es : List (List IV)} : (look (setRow l d s es) k).isSome = (look l k).isSome := by
  by_cases e : k = d
  · subst e
    by_cases h : (look l k).isSome
    · rw [look_setRow_same h, h]; rfl
    · have hn : look l k = none := by simpa using h
      have : look (setRow l k s es) k = none := by
        clear h
        induction l with
        | nil => rfl
        | cons p l ih =>
          obtain ⟨j, v⟩ := p
          by_cases e : k = j
          · subst e; simp [look] at hn
          · have hl : look l k = none := by simpa [look, e] using hn
            simp only [setRow, List.map_cons, Ne.symm e, if_false, look, e]
            exact ih hl
      rw [this, hn]
  · rw [look_setRow_ne e]

section
variable {G : Ctx} {N : Nat} {w0 : Base} {w w' : World} {M M' M0 : Nat → Nat → Prop} {β β' : Nat → Option Nat} {st : St} {a : Act} {toks toks' : List (Nat × Nat × Nat)} {av : AV} {v : Value}

theorem heap_setRow (w : World) (g : Nat) (cs cur : Array Value) (T : TypeId) (hg : w.heap[g]? = some (.cells cur T (0, 0))) : (w.setRow g cs).heap[g]? = some (.cells cs T (0, 0)) :=
  setRow_heap w g cur cs T _ hg

/-- Block b, known as row d, gets new cells. -/
theorem Sim.setRow (h : Sim N w0 M0 β st a w) {d s b : Nat} {es es' : List (List IV)} {cur cells : Array Value} {T : TypeId} (hd : look st.rows d = some (s, es)) (hb : β d = some b)
    (hcur : w.heap[b]? = some (.cells cur T (0, 0))) (hcsz : cells.size = cur.size) (hes : ∀ e ∈ es', e.length = s)
    (hr : ∀ (i : Nat) e (j : Nat) x, es'[i]? = some e → e[j]? = some x → x.one = true ∧ ∃ u, cells[i * s + j]? = some u ∧ Rep w (Mo M0 β st) x u) :
    Sim N w0 M0 β { st with rows := Abs.setRow st.rows d s es' } a (w.setRow b cells) := by
  have hds : (look st.rows d).isSome := by simp [hd]
  have hM : ∀ b o, Mo M0 β { st with rows := Abs.setRow st.rows d s es' } b o ↔ Mo M0 β st b o := by
    intro b o
    unfold Mo
    have : (∃ k s' es2, look (Abs.setRow st.rows d s es') k = some (s', es2) ∧ β k = some b) ↔ ∃ k s' es2, look st.rows k = some (s', es2) ∧ β k = some b := by
      constructor
      · rintro ⟨k, s', es2, hk, hkb⟩
        have : (look st.rows k).isSome := by rw [← look_setRow_some (d := d) (s := s) (es := es'), hk]; rfl
        obtain ⟨⟨x, y⟩, hxy⟩ := Option.isSome_iff_exists.1 this
        exact ⟨k, x, y, hxy, hkb⟩
      · rintro ⟨k, s', es2, hk, hkb⟩
        have : (look (Abs.setRow st.rows d s es') k).isSome := by rw [look_setRow_some, hk]; rfl
        obtain ⟨⟨x, y⟩, hxy⟩ := Option.isSome_iff_exists.1 this
        exact ⟨k, x, y, hxy, hkb⟩
    simp only [this]
  have hother : ∀ k, k ≠ b → (w.setRow b cells).heap[k]? = w.heap[k]? := fun k hk => setRow_other w b k cells hk
  have hshp : Shp w (w.setRow b cells) := fun k cur' T' hk => by
    by_cases e : k = b
    · subst e
      rw [hcur] at hk; cases hk
      exact ⟨cells, heap_setRow w k cells cur T hcur, hcsz⟩
    · exact ⟨cur', by rw [hother k e]; exact hk, rfl⟩
  have hk : Kept w (Mo M0 β st) (w.setRow b cells) (Mo M0 β { st with rows := Abs.setRow st.rows d s es' }) := by
    refine ⟨fun b' o u hc hn => ⟨?_, fun hm => hn ((hM b' o).1 hm)⟩, fun b' es2 c hc hn => ⟨?_, fun hm => hn ((hM b' 0).1 hm)⟩, hshp⟩
    · by_cases e : b' = b
      · subst e; exact absurd (.inr (.inl ⟨d, s, es, hd, hb⟩)) hn
      · rw [World.cell?_of_block (w := w) (a := ⟨b', o, none⟩) (hother b' e)]; exact hc
    · by_cases e : b' = b
      · subst e; rw [hcur] at hc; cases hc
      · rw [hother b' e]; exact hc
  have hbw0 : ¬ w0.P b := by obtain ⟨b', h1, h2, _⟩ := h.rows d s es hd; rw [hb] at h1; cases h1; exact h2
  refine ⟨h.size, h.defers, ?_, h.m0, fun t => ?_, fun k s' es2 hk' => ?_, fun k s' n hk' b' hb' => ?_, fun k k' b' h1 h2 => ?_, fun k hk' => ?_, fun k hN hN' hk' => h.nam k hN hN' (by rw [← look_setRow_some]; exact hk'), h.np, h.perm⟩
  · exact h.below.set hbw0 rfl rfl rfl (by simp) hother hshp
  · refine (h.fr t).move hk (fun _ _ => rfl) (fun _ _ _ _ h => h) (fun k b' hl _ hb' => hother b' (fun e => ?_)) hshp
    subst e
    have := h.inj k d b' (.inr hl) (.inl hds) hb' hb
    subst this
    rw [h.excl k hds] at hl; cases hl
  · by_cases e : k = d
    · subst e
      rw [look_setRow_same hds] at hk'
      simp only [Option.some.injEq, Prod.mk.injEq] at hk'
      obtain ⟨rfl, rfl⟩ := hk'
      refine ⟨b, hb, hbw0, cells, T, heap_setRow w b cells cur T hcur, hes, fun i e j x hi hj => ?_⟩
      obtain ⟨h1, u, h2, h3⟩ := hr i e j x hi hj
      exact ⟨h1, u, h2, h3.kept hk⟩
    · rw [look_setRow_ne e] at hk'
      obtain ⟨b', h1, h2, h3⟩ := h.rows k s' es2 hk'
      refine ⟨b', h1, h2, h3.move hk (hother b' (fun eb => ?_))⟩
      subst eb
      exact e (h.inj k d b' (.inl (by simp [hk'])) (.inl hds) h1 hb)
  · obtain ⟨h1, h2⟩ := h.toks k s' n hk' b' hb'
    exact ⟨h1, by simpa using h2⟩
  · simp only [look_setRow_some] at h1 h2
    exact h.inj k k' b' h1 h2
  · simp only [look_setRow_some] at hk'
    exact h.excl k hk'

/-- The store of one operation. -/
theorem store_run (hG : G.Ok) (h : Sim N w0 M0 β st a w) {t d s i j : Nat} {es : List (List IV)} {c : List IV} {x : IV} {p xv : Value} (h0 : (G.ti t).size ≠ 0)
    (hd : look st.rows d = some (s, es)) (hi : es[i]? = some c) (hl : (cellsOf x).length = (G.ti t).size) (ho : (cellsOf x).all IV.one = true) (hj : j + (G.ti t).size ≤ c.length)
    (hp : RepA w (Mo M0 β st) β st.toks (.loc d s i j) p) (hx : Rep w (Mo M0 β st) x xv) :
    ∃ w', (Instr.storeAt t p xv).run G.P w = .ok () w' ∧ Sim N w0 M0 β { st with rows := setRow st.rows d s (es.set i (setCells c j (cellsOf x))) } a w' := by
  obtain ⟨b, hb, rfl⟩ := hp
  obtain ⟨b', hb', hbw, cur, T, hcur, hes, hcell⟩ := h.rows d s es hd
  rw [hb] at hb'; cases hb'
  obtain ⟨hr, hone⟩ := cellsOf_rep hx ho
  have hcs : c.length = s := hes c (List.mem_of_getElem? hi)
  have hvl : xv.cells.toList.length = (G.ti t).size := by rw [← hr.1]; exact hl
  have hvl' : xv.cells.size = (G.ti t).size := by simpa using hvl
  -- the row is long enough
  have hfit : i * s + j + (G.ti t).size ≤ cur.size := by
    have hpos : 0 < (G.ti t).size := Nat.pos_of_ne_zero h0
    have hlt : j + (G.ti t).size - 1 < c.length := by omega
    obtain ⟨_, u, hu, _⟩ := hcell i c (j + (G.ti t).size - 1) _ hi (List.getElem?_eq_getElem hlt)
    have := (Array.getElem?_eq_some_iff.1 hu).1
    omega
  have hst := run_storeCells_at G.P b (i * s + j) T xv.cells.toList 0 cur w hcur (by simpa [hvl'] using hfit) hone
  simp only [Nat.add_zero] at hst
  refine ⟨w.setRow b (cur.toList.take (i * s + j) ++ xv.cells.toList ++ cur.toList.drop (i * s + j + xv.cells.toList.length)).toArray, ?_,
    h.setRow hd hb hcur (es' := es.set i (setCells c j (cellsOf x))) (cells := (cur.toList.take (i * s + j) ++ xv.cells.toList ++ cur.toList.drop (i * s + j + xv.cells.toList.length)).toArray) (by simp [hvl']; omega) ?_ ?_⟩
  · simp only [Instr.storeAt, Instr.sureAddr, Sem.run_bind, Sem.run_pure, Result.andThen_ok, storeVar, hG.size h0, hvl', ne_eq, not_true, if_false, hst]
  · intro e he
    rcases List.mem_or_eq_of_mem_set he with h' | h'
    · exact hes e h'
    · rw [h', setCells_length]; exact hcs
  · intro i' e j' y hi' hj'
    rw [List.getElem?_set] at hi'
    have hjs : j' < s := by
      have h1 := (List.getElem?_eq_some_iff.1 hj').1
      split at hi'
      · split at hi'
        · cases hi'; rw [setCells_length] at h1; omega
        · cases hi'
      · rw [hes e (List.mem_of_getElem? hi')] at h1; exact h1
    have hnew : ∀ k, ((cur.toList.take (i * s + j) ++ xv.cells.toList ++ cur.toList.drop (i * s + j + xv.cells.toList.length)).toArray)[k]? =
        if k < i * s + j then cur[k]? else if k < i * s + j + (G.ti t).size then xv.cells.toList[k - (i * s + j)]? else cur[k]? := by
      intro k
      simp only [List.getElem?_toArray]
      by_cases h1 : k < i * s + j
      · rw [if_pos h1, List.append_assoc, List.getElem?_append_left (by simp; omega), List.getElem?_take, if_pos h1]; simp
      · rw [if_neg h1]
        by_cases h2 : k < i * s + j + (G.ti t).size
        · rw [if_pos h2, List.getElem?_append_left (by simp; omega), List.getElem?_append_right (by simp; omega)]
          congr 1; simp; omega
        · rw [if_neg h2, List.getElem?_append_right (by simp; omega), List.getElem?_drop]
          simp only [Array.getElem?_toList]
          congr 1; simp; omega
    rw [hnew]
    have hset : ∀ (xs cs : List IV) (off k : Nat), (setCells cs off xs)[k]? = if off ≤ k ∧ k < off + xs.length ∧ k < cs.length then xs[k - off]? else cs[k]? := by
      intro xs
      induction xs with
      | nil => intro cs off k; simp only [setCells]; rw [if_neg (by simp; omega)]
      | cons z xs ih =>
        intro cs off k
        simp only [setCells]
        rw [ih]
        simp only [List.length_set, List.length_cons]
        by_cases h1 : off + 1 ≤ k ∧ k < off + 1 + xs.length ∧ k < cs.length
        · rw [if_pos h1, if_pos (by omega)]
          have : k - off = (k - (off + 1)) + 1 := by omega
          rw [this]; simp
        · rw [if_neg h1, List.getElem?_set]
          by_cases h2 : off = k
          · subst h2
            by_cases h3 : off < cs.length
            · simp [h3]
            · simp [h3]
          · rw [if_neg h2, if_neg (by omega)]
    by_cases hii : i = i'
    · subst hii
      have hil : i < es.length := (List.getElem?_eq_some_iff.1 hi).1
      simp only [hil, if_true, Option.some.injEq] at hi'
      subst hi'
      rw [hset] at hj'
      by_cases hin : j ≤ j' ∧ j' < j + (cellsOf x).length ∧ j' < c.length
      · rw [if_pos hin] at hj'
        rw [if_neg (by omega), if_pos (by omega)]
        have e : i * s + j' - (i * s + j) = j' - j := by omega
        rw [e]
        have hlt : j' - j < xv.cells.toList.length := by omega
        exact ⟨List.all_eq_true.1 ho y (List.mem_of_getElem? hj'), _, List.getElem?_eq_getElem hlt, hr.2 _ y _ hj' (List.getElem?_eq_getElem hlt)⟩
      · rw [if_neg hin] at hj'
        obtain ⟨h1, u, h2, h3⟩ := hcell i c j' y hi hj'
        refine ⟨h1, u, ?_, h3⟩
        split
        · exact h2
        · rw [if_neg (by omega)]; exact h2
    · rw [if_neg hii] at hi'
      obtain ⟨h1, u, h2, h3⟩ := hcell i' e j' y hi' hj'
      refine ⟨h1, u, ?_, h3⟩
      have hjs' : j + (G.ti t).size ≤ s := by omega
      rcases Nat.lt_or_gt_of_ne hii with hlt | hgt
      · have : (i + 1) * s ≤ i' * s := Nat.mul_le_mul_right _ hlt
        rw [Nat.add_mul] at this
        rw [if_neg (by omega), if_neg (by omega)]; exact h2
      · have : (i' + 1) * s ≤ i * s := Nat.mul_le_mul_right _ hgt
        rw [Nat.add_mul] at this
        rw [if_pos (by omega)]; exact h2
end
end Go.Abs

namespace Go.Abs
set_option linter.all false
open Go.RowKit (Below)

section
variable {G : Ctx} {N : Nat} {w0 : Base} {w w' : World} {M M' M0 : Nat → Nat → Prop} {β β' : Nat → Option Nat} {st : St} {a : Act} {toks toks' : List (Nat × Nat × Nat)} {av : AV} {v : Value}

/-- The cells l lie from ad on, with the values g. -/
def CellsAt (w : World) (M : Nat → Nat → Prop) (ad : Addr) (l : List IV) (g : Nat → Value) : Prop :=
  ∀ (k : Nat) x, l[k]? = some x → x.one = true ∧ w.cell? (ad.add k) = some (g k) ∧ Rep w M x (g k)

theorem flatten_len {α : Type} {s : Nat} : ∀ {es : List (List α)}, (∀ e ∈ es, e.length = s) → es.flatten.length = es.length * s
  | [], _ => by simp
  | e :: es, h => by
    have h0 : e.length = s := h e (by simp)
    simp only [List.flatten_cons, List.length_append, List.length_cons, Nat.add_mul, Nat.one_mul]
    rw [flatten_len (fun x hx => h x (by simp [hx])), h0]; omega
theorem flatten_split {α : Type} {s : Nat} (hs : s ≠ 0) : ∀ {es : List (List α)} {k : Nat} {x : α}, (∀ e ∈ es, e.length = s) → es.flatten[k]? = some x → ∃ e, es[k / s]? = some e ∧ e[k % s]? = some x
  | [], k, x, _, h => by simp at h
  | e :: es, k, x, hl, h => by
    have h0 : e.length = s := hl e (by simp)
    simp only [List.flatten_cons] at h
    by_cases hk : k < s
    · rw [List.getElem?_append_left (by omega)] at h
      exact ⟨e, by rw [Nat.div_eq_of_lt hk]; rfl, by rw [Nat.mod_eq_of_lt hk]; exact h⟩
    · rw [List.getElem?_append_right (by omega), h0] at h
      obtain ⟨e', h1, h2⟩ := flatten_split hs (fun x hx => hl x (by simp [hx])) h
      have e1 : k / s = (k - s) / s + 1 := by rw [← Nat.add_div_right (k - s) (by omega)]; congr 1; omega
      have e2 : k % s = (k - s) % s := by rw [Nat.mod_eq_sub_mod (by omega)]
      exact ⟨e', by rw [e1]; simpa using h1, by rw [e2]; exact h2⟩

theorem sl_cells {es : List (List IV)} {s : Nat} (hs : s ≠ 0) (h : Rep w M (.sl es) v) (hl : ∀ e ∈ es, e.length = s) :
    ∃ ad c g, v = .slice ad es.length c ∧ es.length ≤ c ∧ (es ≠ [] → ∃ b o, ad = some ⟨b, o, none⟩ ∧ CellsAt w M ⟨b, o, none⟩ es.flatten g) := by
  rcases h.sl_inv with ⟨rfl, ad, c, rfl⟩ | ⟨s', b, o, c, u, hne, hs', hc, h4, h5, rfl⟩
  · exact ⟨ad, c, fun _ => undef, rfl, Nat.zero_le _, fun h => absurd rfl h⟩
  · have hss : s = s' := by
      cases es with
      | nil => exact absurd rfl hne
      | cons e es => rw [← hl e (by simp), hs' e (by simp)]
    subst hss
    refine ⟨_, c, fun k => u (k / s) (k % s), rfl, hc, fun _ => ⟨b, o, rfl, fun k x hx => ?_⟩⟩
    obtain ⟨e, h1, h2⟩ := flatten_split hs hl hx
    obtain ⟨h6, h7, _⟩ := h4 _ e _ x h1 h2
    refine ⟨h6, ?_, h5 _ e _ x h1 h2⟩
    rw [Addr.add_lit]
    have : o + k = o + k / s * s + k % s := by have := Nat.div_add_mod k s; rw [Nat.mul_comm] at this; omega
    rw [this]; exact h7

theorem mk_sl {es : List (List IV)} {s b o c : Nat} {g : Nat → Value} (hne : es ≠ []) (hl : ∀ e ∈ es, e.length = s) (hc : es.length ≤ c)
    (h : ∀ (k : Nat) x, es.flatten[k]? = some x → x.one = true ∧ w.cell? ⟨b, o + k, none⟩ = some (g k) ∧ ¬ M b (o + k) ∧ Rep w M x (g k)) :
    Rep w M (.sl es) (.slice (some ⟨b, o, none⟩) es.length c) :=
  .sl es s b o c (fun i j => g (i * s + j)) hne hl hc
    (fun i e j x hi hj => by
      obtain ⟨h1, h2, h3, _⟩ := h _ x (flatten_at hl hi hj)
      rw [← Nat.add_assoc] at h2 h3
      exact ⟨h1, h2, h3⟩)
    (fun i e j x hi hj => (h _ x (flatten_at hl hi hj)).2.2.2)

def tokSt (st : St) (src dst s n : Nat) : St := ⟨st.fr.map fun p => (p.1, p.2.purge dst), del st.rows dst, (dst, s, n) :: del (del st.toks src) dst⟩

theorem get_tokSt (st : St) (src dst s n t : Nat) : (tokSt st src dst s n).get t = (st.get t).purge dst := by
  simp only [St.get, tokSt]
  rw [look_map]
  cases look st.fr t <;> rfl
theorem tok_other {src dst s n k : Nat} {x : Nat × Nat} (hk : k ≠ dst) (h : look (tokSt st src dst s n).toks k = some x) : k ≠ src ∧ look st.toks k = some x := by
  simp only [tokSt, look, hk, if_false, look_del_ne _ hk] at h
  by_cases e : k = src
  · subst e; rw [look_del_same] at h; cases h
  · exact ⟨e, by rwa [look_del_ne _ e] at h⟩

theorem Sim.newTok (h : Sim N w0 M0 β st a w) {src dst s n : Nat} {X : Option Nat}
    (hk : Kept w (Mo M0 β st) w' (Mo M0 (upd β dst X) (tokSt st src dst s n))) (hbelow : w0.Fr w') (hshp : Shp w w') (hsize : w.heap.size ≤ w'.heap.size)
    (hheap : ∀ k b, β k = some b → ((look st.rows k).isSome ∨ ((look st.toks k).isSome ∧ k ≠ src)) → w'.heap[b]? = w.heap[b]?)
    (hX : ∀ b, X = some b → ¬ w0.P b ∧ b < w'.heap.size ∧ ∀ k, k ≠ src → k ≠ dst → ((look st.rows k).isSome ∨ (look st.toks k).isSome) → β k ≠ some b) :
    (src = dst ∨ (look st.rows src) = none) → dst < 100000 → Sim N w0 M0 (upd β dst X) (tokSt st src dst s n) a w' := fun hsrc hdN => by
  have hrow : ∀ k x, look (tokSt st src dst s n).rows k = some x → k ≠ dst ∧ look st.rows k = some x := fun k x hk => by
    by_cases e : k = dst
    · subst e; simp [tokSt, look_del_same] at hk
    · exact ⟨e, by simpa [tokSt, look_del_ne _ e] using hk⟩
  refine ⟨h.size, h.defers, hbelow, h.m0, fun t => ?_, fun k s' es hk' => ?_, fun k s' n' hk' b hb => ?_, fun k k' b h1 h2 hb hb' => ?_, fun k hk' => ?_, fun k hN hN' hk' => ?_, h.np, perm_upd h.perm (.inl hdN)⟩
  case refine_6 =>
    obtain ⟨x, hx⟩ := Option.isSome_iff_exists.1 hk'
    obtain ⟨hne, hk2⟩ := hrow k x hx
    rw [upd_ne _ _ hne]
    exact h.nam k hN hN' (by simp [hk2])
  · rw [get_tokSt]
    refine ((h.fr t).purge dst).move hk (fun k hr => upd_ne _ _ (purge_refs_ne hr).2) (fun k s' n' hr hl => (tok_other (purge_refs_ne hr).2 hl).2) (fun k b hl hr hb => ?_) hshp
    obtain ⟨⟨s', n'⟩, hl'⟩ := Option.isSome_iff_exists.1 hl
    obtain ⟨h1, h2⟩ := tok_other (purge_refs_ne hr).2 hl'
    exact hheap k b hb (.inr ⟨by simp [h2], h1⟩)
  · obtain ⟨hne, hk2⟩ := hrow k _ hk'
    obtain ⟨b, h1, h2, h3⟩ := h.rows k s' es hk2
    exact ⟨b, by rw [upd_ne _ _ hne]; exact h1, h2, h3.move hk (hheap k b h1 (.inl (by simp [hk2])))⟩
  · by_cases e : k = dst
    · subst e; rw [upd_same] at hb
      exact ⟨(hX b hb).1, (hX b hb).2.1⟩
    · rw [upd_ne _ _ e] at hb
      obtain ⟨h1, h2⟩ := h.toks k s' n' (tok_other e hk').2 b hb
      exact ⟨h1, by omega⟩
  · have dom : ∀ k, ((look (tokSt st src dst s n).rows k).isSome ∨ (look (tokSt st src dst s n).toks k).isSome) → k ≠ dst → ((look st.rows k).isSome ∨ (look st.toks k).isSome) ∧ (k ≠ src ∨ (look st.rows k).isSome) := fun k hk hne => by
      rcases hk with hk | hk
      · obtain ⟨x, hx⟩ := Option.isSome_iff_exists.1 hk
        have := (hrow k x hx).2
        exact ⟨.inl (by simp [this]), .inr (by simp [this])⟩
      · obtain ⟨x, hx⟩ := Option.isSome_iff_exists.1 hk
        have := tok_other hne hx
        exact ⟨.inr (by simp [this.2]), .inl this.1⟩
    have ns : ∀ k, k ≠ dst → (k ≠ src ∨ (look st.rows k).isSome) → k ≠ src := fun k hne hk e => by
      subst e
      rcases hsrc with e | e
      · exact hne e
      · simp [e] at hk
    by_cases e : k = dst <;> by_cases e' : k' = dst
    · omega
    · subst e
      rw [upd_same] at hb; rw [upd_ne _ _ e'] at hb'
      obtain ⟨d1, d2⟩ := dom k' h2 e'
      exact absurd hb' ((hX b hb).2.2 k' (ns k' e' d2) e' d1)
    · subst e'
      rw [upd_same] at hb'; rw [upd_ne _ _ e] at hb
      obtain ⟨d1, d2⟩ := dom k h1 e
      exact absurd hb ((hX b hb').2.2 k (ns k e d2) e d1)
    · rw [upd_ne _ _ e] at hb; rw [upd_ne _ _ e'] at hb'
      exact h.inj k k' b (dom k h1 e).1 (dom k' h2 e').1 hb hb'
  · obtain ⟨x, hx⟩ := Option.isSome_iff_exists.1 hk'
    obtain ⟨hne, hk2⟩ := hrow k x hx
    have := h.excl k (by simp [hk2])
    simp only [tokSt, look, hne, if_false, look_del_ne _ hne]
    by_cases e : k = src
    · subst e; exact look_del_same _ _
    · rw [look_del_ne _ e]; exact this

/-- What the slice that is appended to is: its capacity is its length, or its spare belongs to the token src. -/
def Spare (w : World) (β : Nat → Option Nat) (st : St) (e : TypeId) (src s n : Nat) (v : Value) : Prop :=
  (∃ ad, v = .slice ad n n) ∨
  (look st.toks src = some (s, n) ∧ ∃ b cap cur, β src = some b ∧ v = .slice (some ⟨b, 0, none⟩) n cap ∧ w.heap[b]? = some (.cells cur e (0, 0)) ∧ n ≤ cap ∧ cap ≤ maxLen ∧ cur.size = cap * s)

theorem list_cells {ad : Addr} {l : List IV} {g : Nat → Value} (h : CellsAt w M ad l g) : ∀ j u, ((List.range l.length).map g)[j]? = some u → w.cell? (ad.add j) = some u := by
  intro j u hu
  rw [List.getElem?_map] at hu
  obtain ⟨j', hj', rfl⟩ := Option.map_eq_some_iff.1 hu
  have hjl : j < l.length := by have := (List.getElem?_eq_some_iff.1 hj').1; simpa using this
  obtain rfl : j = j' := by simpa [hjl] using hj'
  exact (h j _ (List.getElem?_eq_getElem hjl)).2.1

theorem append_run (hG : G.Ok) (h : Sim N w0 M0 β st a w) {t e ty : TypeId} {sv xv : Value} {es xs : List (List IV)} {src dst : Nat}
    (h0 : (G.ti t).size ≠ 0) (hk : (G.ti t).kind = .sl e) (h1 : (G.ti e).size ≠ 0) (hby : (G.ti e).bytes ≠ 0) (hle : ∀ c ∈ es, c.length = (G.ti e).size) (hlx : ∀ c ∈ xs, c.length = (G.ti e).size)
    (hbound : (es.length + xs.length) * (G.ti e).bytes ≤ 140737488355328)
    (hs : Rep w (Mo M0 β st) (.sl es) sv) (hsp : Spare w β st e src (G.ti e).size es.length sv) (hsrc : src = dst ∨ look st.rows src = none) (hdN : dst < 100000)
    (hx : ∃ ad c g, xv = .slice ad xs.length c ∧ (xs ≠ [] → ∃ b o, ad = some ⟨b, o, none⟩ ∧ CellsAt w (Mo M0 β st) ⟨b, o, none⟩ xs.flatten g)) :
    ∃ v' w' β', (Builtin.append_ #[t, t] ty #[sv, xv]).run G.P w = .ok v' w' ∧ Sim N w0 M0 β' (tokSt st src dst (G.ti e).size (es.length + xs.length)) a w' ∧
      RepA w' (Mo M0 β' (tokSt st src dst (G.ti e).size (es.length + xs.length))) β' (tokSt st src dst (G.ti e).size (es.length + xs.length)).toks (.vec dst e (G.ti e).size (es ++ xs)) v' := by
  have hu := hG.sl h0 hk
  obtain ⟨i, z, hi, hsz, hbt, hz, _, hzs⟩ := hG.info h1
  obtain ⟨xad, xc, gx, rfl, hxc⟩ := hx
  obtain ⟨sad, sc, gs, rfl, hsc, hsc'⟩ := sl_cells h1 hs hle
  have hle2 : ∀ c ∈ es ++ xs, c.length = (G.ti e).size := fun c hc => (List.mem_append.1 hc).elim (hle c) (hlx c)
  have hlen : (es ++ xs).length = es.length + xs.length := List.length_append
  generalize hS : (G.ti e).size = S at *
  have hfe : es.flatten.length = es.length * S := flatten_len hle
  have hfx : xs.flatten.length = xs.length * S := flatten_len hlx
  have hmax : es.length + xs.length ≤ 140737488355328 := Nat.le_trans (Nat.le_mul_of_pos_right _ (Nat.pos_of_ne_zero hby)) hbound
  have hXlt : ∀ b, β src = some b → look st.toks src = some (S, es.length) → ∀ k, k ≠ src → k ≠ dst → ((look st.rows k).isSome ∨ (look st.toks k).isSome) → β k ≠ some b :=
    fun b hb ht k hne _ hd hkb => hne (h.inj k src b hd (.inr (by simp [ht])) hkb hb)
  by_cases hx0 : xs = []
  · -- nothing is appended
    subst hx0
    simp only [List.append_nil, List.length_nil, Nat.add_zero] at *
    have hrun : (Builtin.append_ #[t, t] ty #[.slice sad es.length sc, .slice xad 0 xc]).run G.P w = .ok (.slice sad es.length sc) w := by
      cases xad <;> cases sad <;> simp [Builtin.append_, run_underlying hu, sizeOf, typeInfo, hi, Builtin.lenOf, Builtin.firstCells, loadCells, loadCellsFrom, storeCells, hsc]
    let X : Option Nat := if look st.toks src = some (S, es.length) then β src else none
    have hMo : ∀ b o, Mo M0 (upd β dst X) (tokSt st src dst S es.length) b o → Mo M0 β st b o := by
      rintro b o (hm | ⟨k, s', es', hk', hkb⟩ | ⟨k, s', n', hk', hkb, ho⟩)
      · exact .inl hm
      · by_cases e' : k = dst
        · subst e'; simp [tokSt, look_del_same] at hk'
        · rw [upd_ne _ _ e'] at hkb
          exact .inr (.inl ⟨k, s', es', by simpa [tokSt, look_del_ne _ e'] using hk', hkb⟩)
      · by_cases e' : k = dst
        · subst e'
          rw [upd_same] at hkb
          simp only [tokSt, look, if_true, Option.some.injEq, Prod.mk.injEq] at hk'
          obtain ⟨rfl, rfl⟩ := hk'
          by_cases ht : look st.toks src = some (S, es.length)
          · have : X = β src := if_pos ht
            rw [this] at hkb
            exact .inr (.inr ⟨src, S, es.length, ht, hkb, ho⟩)
          · have : X = none := if_neg ht
            rw [this] at hkb; cases hkb
        · rw [upd_ne _ _ e'] at hkb
          exact .inr (.inr ⟨k, s', n', (tok_other e' hk').2, hkb, ho⟩)
    have hkept : Kept w (Mo M0 β st) w (Mo M0 (upd β dst X) (tokSt st src dst S es.length)) := Kept.less w hMo
    refine ⟨_, w, upd β dst X, hrun, h.newTok hkept h.below (Shp.refl _) (Nat.le_refl _) (fun _ _ _ _ => rfl) (fun b hb => ?_) hsrc hdN, hs.kept hkept, hle, fun _ => ?_⟩
    · by_cases ht : look st.toks src = some (S, es.length)
      · have : X = β src := if_pos ht
        rw [this] at hb
        obtain ⟨h2, h3⟩ := h.toks src _ _ ht b hb
        exact ⟨h2, h3, hXlt b hb ht⟩
      · have : X = none := if_neg ht
        rw [this] at hb; cases hb
    · rcases hsp with ⟨ad, hsp⟩ | ⟨ht, b, cap, cur, hb, hsp, hh, hcap⟩
      · exact .inl ⟨ad, hsp⟩
      · refine .inr ⟨b, cap, cur, ?_, hsp, hh, hcap⟩
        rw [upd_same]
        have : X = β src := if_pos ht
        rw [this]; exact hb
  · have hxpos : 0 < xs.length := List.length_pos_iff.2 hx0
    obtain ⟨xb, xo, rfl, hxcells⟩ := hxc hx0
    have hne2 : es ++ xs ≠ [] := by simp [hx0]
    have hnews : ∀ j u, ((List.range xs.flatten.length).map gx)[j]? = some u → w.cell? ((⟨xb, xo, none⟩ : Addr).add j) = some u := list_cells hxcells
    have hnl : ((List.range xs.flatten.length).map gx).length = xs.length * i.size := by simp [hfx, hsz]
    have hol : ((List.range es.flatten.length).map gs).length = es.length * i.size := by simp [hfe, hsz]
    have h1c : ∀ u ∈ (List.range xs.flatten.length).map gx, u.oneCell' = true := by
      intro u hu'
      obtain ⟨j, hj, rfl⟩ := List.mem_map.1 hu'
      have hjl : j < xs.flatten.length := by simpa using hj
      obtain ⟨h2, _, h3⟩ := hxcells j _ (List.getElem?_eq_getElem hjl)
      exact h3.oneCell h2
    -- the flattened cells and the values of both
    have hval : ∀ (w2 : World) (M2 : Nat → Nat → Prop), Kept w (Mo M0 β st) w2 M2 → ∀ k x, (es ++ xs).flatten[k]? = some x →
        x.one = true ∧ Rep w2 M2 x (if k < es.flatten.length then gs k else gx (k - es.flatten.length)) := by
      intro w2 M2 hkp k x hkx
      rw [List.flatten_append] at hkx
      by_cases hlt : k < es.flatten.length
      · rw [List.getElem?_append_left hlt] at hkx
        have hesne : es ≠ [] := fun e' => by subst e'; simp at hlt
        obtain ⟨b, o, _, hc⟩ := hsc' hesne
        obtain ⟨h2, _, h3⟩ := hc k x hkx
        rw [if_pos hlt]
        exact ⟨h2, h3.kept hkp⟩
      · rw [List.getElem?_append_right (by omega)] at hkx
        obtain ⟨h2, _, h3⟩ := hxcells _ x hkx
        rw [if_neg hlt]
        exact ⟨h2, h3.kept hkp⟩
    have hflen : (es ++ xs).flatten.length = (es.length + xs.length) * S := by rw [flatten_len hle2, hlen]
    have hseq : ∀ (R : List Value) k, k < (es ++ xs).flatten.length → ((List.range es.flatten.length).map gs ++ (List.range xs.flatten.length).map gx ++ R)[k]? = some (if k < es.flatten.length then gs k else gx (k - es.flatten.length)) := by
      intro R k hkl
      rw [List.flatten_append, List.length_append] at hkl
      rw [List.getElem?_append_left (by simp only [List.length_append, List.length_map, List.length_range]; omega)]
      by_cases hlt : k < es.flatten.length
      · rw [List.getElem?_append_left (by simp only [List.length_map, List.length_range]; exact hlt), if_pos hlt, List.getElem?_map, List.getElem?_range hlt]; rfl
      · rw [List.getElem?_append_right (by simp only [List.length_map, List.length_range]; omega), if_neg hlt]
        simp only [List.length_map, List.length_range]
        rw [List.getElem?_map, List.getElem?_range (by omega)]; rfl
    by_cases hroom : es.length + xs.length ≤ sc
    · -- in place
      rcases hsp with ⟨ad, hsp⟩ | ⟨ht, b, cap, cur, hb, hsp, hh, hcap, hcm, hcs⟩
      · exfalso; simp only [Value.slice.injEq] at hsp; omega
      · simp only [Value.slice.injEq, true_and] at hsp
        obtain ⟨rfl, rfl⟩ := hsp
        have hfit : es.length * i.size + ((List.range xs.flatten.length).map gx).length ≤ cur.size := by
          rw [hnl, hcs, ← Nat.add_mul, hsz]; exact Nat.mul_le_mul_right _ hroom
        have hrun := run_append_room (P := G.P) w t ty e i hu hi b es.length sc cur hh ⟨xb, xo, none⟩ xs.length xc _ hnl hnews h1c hroom hfit
        rw [hnl, hsz] at hrun
        generalize hcells : (cur.toList.take (es.length * S) ++ (List.range xs.flatten.length).map gx ++ cur.toList.drop (es.length * S + xs.length * S)).toArray = cells at hrun
        have hbw := h.toks src _ _ ht b hb
        have hother : ∀ k, k ≠ b → (w.setRow b cells).heap[k]? = w.heap[k]? := fun k hk => setRow_other w b k cells hk
        have hb' : (w.setRow b cells).heap[b]? = some (.cells cells e (0, 0)) := heap_setRow w b cells cur e hh
        have hcsz : cells.size = cur.size := by
          rw [← hcells]
          simp only [List.size_toArray, List.length_append, List.length_take, List.length_drop, Array.length_toList, List.length_map, List.length_range, hfx]
          rw [hnl, hsz] at hfit; omega
        have hshp : Shp w (w.setRow b cells) := fun k cur' T' hk => by
          by_cases e : k = b
          · subst e
            rw [hh] at hk; cases hk
            exact ⟨cells, hb', hcsz⟩
          · exact ⟨cur', by rw [hother k e]; exact hk, rfl⟩
        have hcell : ∀ k, k < (es.length + xs.length) * S → cells[k]? = if k < es.length * S then cur[k]? else some (gx (k - es.length * S)) := by
          intro k hkl
          rw [Nat.add_mul] at hkl
          rw [← hcells]
          have hfit' : es.length * S + xs.length * S ≤ cur.size := by rw [hnl, hsz] at hfit; exact hfit
          simp only [List.getElem?_toArray]
          rw [List.getElem?_append_left (by simp [hfx]; omega)]
          by_cases hlt : k < es.length * S
          · rw [List.getElem?_append_left (by simp; omega), if_pos hlt, List.getElem?_take, if_pos hlt]; simp
          · rw [List.getElem?_append_right (by simp; omega), if_neg hlt]
            have : (List.take (es.length * S) cur.toList).length = es.length * S := by simp; omega
            rw [this, List.getElem?_map, List.getElem?_range (by rw [hfx]; omega)]; rfl
        have hMo : ∀ b' o, b' ≠ b ∨ o < es.length * S → ¬ Mo M0 β st b' o → ¬ Mo M0 (upd β dst (some b)) (tokSt st src dst S (es.length + xs.length)) b' o := by
          intro b' o hbo hn hm
          rcases hm with hm | ⟨k, s', es', hk', hkb⟩ | ⟨k, s', n', hk', hkb, ho⟩
          · exact hn (.inl hm)
          · by_cases e' : k = dst
            · subst e'; simp [tokSt, look_del_same] at hk'
            · rw [upd_ne _ _ e'] at hkb
              exact hn (.inr (.inl ⟨k, s', es', by simpa [tokSt, look_del_ne _ e'] using hk', hkb⟩))
          · by_cases e' : k = dst
            · subst e'
              rw [upd_same] at hkb
              cases hkb
              simp only [tokSt, look, if_true, Option.some.injEq, Prod.mk.injEq] at hk'
              obtain ⟨rfl, rfl⟩ := hk'
              rw [Nat.add_mul] at ho
              rcases hbo with hbo | hbo
              · exact hbo rfl
              · omega
            · rw [upd_ne _ _ e'] at hkb
              exact hn (.inr (.inr ⟨k, s', n', (tok_other e' hk').2, hkb, ho⟩))
        have hkept : Kept w (Mo M0 β st) (w.setRow b cells) (Mo M0 (upd β dst (some b)) (tokSt st src dst S (es.length + xs.length))) := by
          refine ⟨fun b' o u hc hn => ?_, fun b' es2 c hc hn => ?_, hshp⟩
          case refine_2 =>
            have e' : b' ≠ b := fun e' => by subst e'; rw [hh] at hc; cases hc
            exact ⟨by rw [hother b' e']; exact hc, hMo _ _ (.inl e') hn⟩
          by_cases e' : b' = b
          · subst e'
            have holt : o < es.length * S := by
              rcases Nat.lt_or_ge o (es.length * S) with h' | h'
              · exact h'
              · exact absurd (.inr (.inr ⟨src, S, es.length, ht, hb, h'⟩)) hn
            refine ⟨?_, hMo _ _ (.inr holt) hn⟩
            rw [cell_of_row _ b' _ cells e _ hb', hcell o (by rw [Nat.add_mul]; omega), if_pos holt]
            rw [cell_of_row _ b' _ cur e _ hh] at hc
            exact hc
          · refine ⟨?_, hMo _ _ (.inl e') hn⟩
            rw [World.cell?_of_block (w := w) (a := ⟨b', o, none⟩) (hother b' e')]; exact hc
        have hsim := h.newTok (w' := w.setRow b cells) (src := src) (dst := dst) (s := S) (n := es.length + xs.length) (X := some b) hkept
          (h.below.set hbw.1 rfl rfl rfl (by simp) hother hshp) hshp (by simp)
          (fun k b' hkb hd => hother b' (fun e' => by
            subst e'
            rcases hd with hd | ⟨hd, hne⟩
            · have := h.inj k src b' (.inl hd) (.inr (by simp [ht])) hkb hb
              subst this
              rw [h.excl k hd] at ht; cases ht
            · exact hne (h.inj k src b' (.inr hd) (.inr (by simp [ht])) hkb hb)))
          (fun b' hb2 => by cases hb2; exact ⟨hbw.1, by simpa using hbw.2, hXlt _ hb ht⟩) hsrc hdN
        refine ⟨_, _, _, hrun, hsim, ?_, hle2, fun _ => .inr ⟨b, sc, cells, upd_same _ _ _, by rw [hlen], hb', by rw [hlen]; exact hroom, hcm, by rw [hcsz, hcs]⟩⟩
        have hmk := mk_sl (w := w.setRow b cells) (M := Mo M0 (upd β dst (some b)) (tokSt st src dst S (es.length + xs.length))) (b := b) (o := 0) (c := sc)
          (g := fun k => if k < es.flatten.length then gs k else gx (k - es.flatten.length)) hne2 hle2 (by rw [hlen]; exact hroom) (fun k x hkx => ?_)
        · rw [hlen] at hmk; exact hmk
        have hkl := (List.getElem?_eq_some_iff.1 hkx).1
        obtain ⟨h2, h3⟩ := hval _ _ hkept k x hkx
        rw [Nat.zero_add]
        refine ⟨h2, ?_, ?_, h3⟩
        · rw [hflen] at hkl
          rw [cell_of_row _ b _ cells e _ hb', hcell k hkl, hfe]
          by_cases hlt : k < es.length * S
          · rw [if_pos hlt, if_pos hlt]
            have hesne : es ≠ [] := fun e' => by subst e'; simp at hlt
            obtain ⟨b2, o2, e2, hc⟩ := hsc' hesne
            simp only [Option.some.injEq, Addr.mk.injEq, and_true] at e2
            obtain ⟨rfl, rfl⟩ := e2
            obtain ⟨_, h4, _⟩ := hc k _ (List.getElem?_eq_getElem (by rw [hfe]; exact hlt))
            rw [Addr.add_lit, Nat.zero_add, cell_of_row _ b _ cur e _ hh] at h4
            exact h4
          · rw [if_neg hlt, if_neg hlt]
        · by_cases hlt : k < es.length * S
          · have hesne : es ≠ [] := fun e' => by subst e'; simp at hlt
            -- an old cell: it may be read, so it is none of M
            rcases hs.sl_inv with ⟨e', _⟩ | ⟨s', b2, o2, c2, u2, _, hs2, _, h4, _, he2⟩
            · exact absurd e' hesne
            · simp only [Value.slice.injEq, Option.some.injEq, Addr.mk.injEq, and_true, true_and] at he2
              obtain ⟨⟨rfl, rfl⟩, rfl⟩ := he2
              obtain ⟨e3, h5, h6⟩ := flatten_split h1 hle (List.getElem?_eq_getElem (l := es.flatten) (i := k) (by rw [hfe]; exact hlt))
              have hss : s' = S := by rw [← hs2 e3 (List.mem_of_getElem? h5), hle e3 (List.mem_of_getElem? h5)]
              subst hss
              have := (h4 _ e3 _ _ h5 h6).2.2
              have hidx : 0 + k / s' * s' + k % s' = k := by have := Nat.div_add_mod k s'; rw [Nat.mul_comm] at this; omega
              rw [hidx] at this
              exact hMo _ _ (.inr hlt) this
          · rw [hflen] at hkl
            intro hm
            rcases hm with hm | ⟨k2, s', es', hk', hkb⟩ | ⟨k2, s', n', hk', hkb, ho⟩
            · exact hbw.1 (h.m0 b k hm)
            · by_cases e' : k2 = dst
              · subst e'; simp [tokSt, look_del_same] at hk'
              · rw [upd_ne _ _ e'] at hkb
                have hk2 : look st.rows k2 = some (s', es') := by simpa [tokSt, look_del_ne _ e'] using hk'
                have := h.inj k2 src b (.inl (by simp [hk2])) (.inr (by simp [ht])) hkb hb
                subst this
                rw [h.excl k2 (by simp [hk2])] at ht; cases ht
            · by_cases e' : k2 = dst
              · subst e'
                simp only [tokSt, look, if_true, Option.some.injEq, Prod.mk.injEq] at hk'
                obtain ⟨rfl, rfl⟩ := hk'
                omega
              · rw [upd_ne _ _ e'] at hkb
                have hk2 := tok_other e' hk'
                exact hk2.1 (h.inj k2 src b (.inr (by simp [hk2.2])) (.inr (by simp [ht])) hkb hb)
    · -- a new array
      have hgrow : ∃ cap cells, (Builtin.append_ #[t, t] ty #[.slice sad es.length sc, .slice (some ⟨xb, xo, none⟩) xs.length xc]).run G.P w =
            .ok (.slice (some ⟨w.heap.size, 0, none⟩) (es.length + xs.length) cap) (w.drew.alloc (.cells cells e)) ∧ es.length + xs.length ≤ cap ∧ cap ≤ maxLen ∧ cells.size = cap * S ∧
            ∃ R : List Value, cells.toList = (List.range es.flatten.length).map gs ++ (List.range xs.flatten.length).map gx ++ R := by
        have hm63 : es.length + xs.length ≤ maxLen := by unfold maxLen; omega
        have hcs : ∀ old, ((List.range es.flatten.length).map gs ++ (List.range xs.flatten.length).map gx).length + (Builtin.zeroCells z.cells (grownCap w (es.length + xs.length) old e - (es.length + xs.length))).size = grownCap w (es.length + xs.length) old e * S := by
          intro old
          have hge := grownCap_ge w (es.length + xs.length) old e
          simp only [List.length_append, List.length_map, List.length_range, hfe, hfx, size_zeroCells, hzs, ← Nat.add_mul]
          congr 1; omega
        cases sad with
        | none =>
          have hes0 : es = [] := by
            rcases Classical.em (es = []) with h' | h'
            · exact h'
            · obtain ⟨_, _, e', _⟩ := hsc' h'; cases e'
          subst hes0
          have hc0 : sc = 0 := by
            rcases hsp with ⟨ad, hsp⟩ | ⟨_, b, cap, cur, _, hsp, _⟩
            · simp only [Value.slice.injEq] at hsp; exact hsp.2.2
            · simp at hsp
          subst hc0
          simp only [List.length_nil, Nat.zero_add, List.flatten_nil, List.range_zero, List.map_nil, List.nil_append] at *
          have hr := run_append_nil (P := G.P) w t ty e i z hu hi hz ⟨xb, xo, none⟩ xs.length xc _ hnl hnews hxpos (by omega) (by rw [hbt]; omega)
          refine ⟨_, _, hr, grownCap_ge _ _ _ _, grownCap_le_maxLen _ _ _ _ hm63, ?_, (Builtin.zeroCells z.cells (grownCap w xs.length 0 e - xs.length)).toList, by rw [Array.toList_append]⟩
          rw [Array.size_append, List.size_toArray]
          exact hcs 0
        | some ad =>
          have holds : ∀ j u, ((List.range es.flatten.length).map gs)[j]? = some u → w.cell? (ad.add j) = some u := by
            rcases Classical.em (es = []) with h' | h'
            · subst h'; intro j u hu'; simp at hu'
            · obtain ⟨b, o, e', hc⟩ := hsc' h'
              cases e'
              exact list_cells hc
          have hr := run_append_grow (P := G.P) w t ty e i z hu hi hz ad es.length sc _ hol holds ⟨xb, xo, none⟩ xs.length xc _ hnl hnews (by omega) (by omega) (growslice_fits (by omega) (by rw [hbt]; exact hbound))
          refine ⟨_, _, hr, grownCap_ge _ _ _ _, grownCap_le_maxLen _ _ _ _ hm63, ?_, (Builtin.zeroCells z.cells (grownCap w (es.length + xs.length) sc e - (es.length + xs.length))).toList, by rw [Array.toList_append, Array.toList_append]⟩
          have := hcs sc
          rw [Array.size_append, Array.size_append, List.size_toArray, List.size_toArray, ← this, List.length_append]
      obtain ⟨cap, cells, hrun, hcap, hcm, hcs, R, hR⟩ := hgrow
      have hnb : ∀ b o, Mo M0 (upd β dst (some w.heap.size)) (tokSt st src dst S (es.length + xs.length)) b o → b ≠ w.heap.size → Mo M0 β st b o := by
        rintro b o (hm | ⟨k, s', es', hk', hkb⟩ | ⟨k, s', n', hk', hkb, ho⟩) hne
        · exact .inl hm
        · by_cases e' : k = dst
          · subst e'; simp [tokSt, look_del_same] at hk'
          · rw [upd_ne _ _ e'] at hkb
            exact .inr (.inl ⟨k, s', es', by simpa [tokSt, look_del_ne _ e'] using hk', hkb⟩)
        · by_cases e' : k = dst
          · subst e'; rw [upd_same] at hkb; cases hkb; exact absurd rfl hne
          · rw [upd_ne _ _ e'] at hkb
            exact .inr (.inr ⟨k, s', n', (tok_other e' hk').2, hkb, ho⟩)
      have hold : ∀ b, b < w.heap.size → (w.drew.alloc (.cells cells e)).heap[b]? = w.heap[b]? := fun b hb => Below.heap_alloc w.drew _ b hb
      have hkept : Kept w (Mo M0 β st) (w.drew.alloc (.cells cells e)) (Mo M0 (upd β dst (some w.heap.size)) (tokSt st src dst S (es.length + xs.length))) := by
        refine ⟨fun b o u hc hn => ?_, fun b es2 c hc hn => ?_, Shp.old hold⟩
        · have hb : b < w.heap.size := World.block_lt_of_cell? (a := ⟨b, o, none⟩) w hc
          exact ⟨by rw [World.cell?_of_block (w := w) (a := ⟨b, o, none⟩) (hold b hb)]; exact hc, fun hm => hn (hnb b o hm (by omega))⟩
        · have hb : b < w.heap.size := (Array.getElem?_eq_some_iff.1 hc).1
          exact ⟨by rw [hold b hb]; exact hc, fun hm => hn (hnb b 0 hm (by omega))⟩
      have hdomlt : ∀ k b, ((look st.rows k).isSome ∨ (look st.toks k).isSome) → β k = some b → b < w.heap.size := fun k b hd hkb => by
        rcases hd with hd | hd
        · obtain ⟨⟨s', es'⟩, hl⟩ := Option.isSome_iff_exists.1 hd
          exact h.mlt (o := 0) (.inr (.inl ⟨k, s', es', hl, hkb⟩))
        · obtain ⟨⟨s', n'⟩, hl⟩ := Option.isSome_iff_exists.1 hd
          exact (h.toks k s' n' hl b hkb).2
      have hsim := h.newTok (w' := w.drew.alloc (.cells cells e)) (src := src) (dst := dst) (s := S) (n := es.length + xs.length) (X := some w.heap.size) hkept
        ((h.below.drew).alloc _) (Shp.old hold) (by simp)
        (fun k b hkb hd => hold b (hdomlt k b (hd.imp id (·.1)) hkb))
        (fun b hb2 => by cases hb2; exact ⟨fun hp => absurd (Nat.lt_of_lt_of_le (w0.lt _ hp) h.below.size) (Nat.lt_irrefl _), by simp, fun k _ _ hd hkb => absurd (hdomlt k _ hd hkb) (by omega)⟩) hsrc hdN
      have hb' : (w.drew.alloc (.cells cells e)).heap[w.heap.size]? = some (.cells cells e (0, 0)) := heap_alloc_new w.drew _
      refine ⟨_, _, _, hrun, hsim, ?_, hle2, fun _ => .inr ⟨w.heap.size, cap, cells, upd_same _ _ _, by rw [hlen], hb', by rw [hlen]; exact hcap, hcm, hcs⟩⟩
      have hmk := mk_sl (w := w.drew.alloc (.cells cells e)) (M := Mo M0 (upd β dst (some w.heap.size)) (tokSt st src dst S (es.length + xs.length))) (b := w.heap.size) (o := 0) (c := cap)
        (g := fun k => if k < es.flatten.length then gs k else gx (k - es.flatten.length)) hne2 hle2 (by rw [hlen]; exact hcap) (fun k x hkx => ?_)
      · rw [hlen] at hmk; exact hmk
      have hkl := (List.getElem?_eq_some_iff.1 hkx).1
      obtain ⟨h2, h3⟩ := hval _ _ hkept k x hkx
      rw [Nat.zero_add]
      refine ⟨h2, ?_, ?_, h3⟩
      · rw [cell_of_row _ w.heap.size _ cells e _ hb', ← Array.getElem?_toList, hR]
        exact hseq R k hkl
      · rintro (hm | ⟨k2, s', es', hk', hkb⟩ | ⟨k2, s', n', hk', hkb, ho⟩)
        · exact absurd (Nat.lt_of_lt_of_le (w0.lt _ (h.m0 _ _ hm)) h.below.size) (Nat.lt_irrefl _)
        · by_cases e' : k2 = dst
          · subst e'; simp [tokSt, look_del_same] at hk'
          · rw [upd_ne _ _ e'] at hkb
            exact absurd (hdomlt k2 _ (.inl (by have : look st.rows k2 = some (s', es') := by simpa [tokSt, look_del_ne _ e'] using hk'
                                                simp [this])) hkb) (by omega)
        · by_cases e' : k2 = dst
          · subst e'
            simp only [tokSt, look, if_true, Option.some.injEq, Prod.mk.injEq] at hk'
            obtain ⟨rfl, rfl⟩ := hk'
            rw [hflen] at hkl; omega
          · rw [upd_ne _ _ e'] at hkb
            exact absurd (hdomlt k2 _ (.inr (by simp [(tok_other e' hk').2])) hkb) (by omega)
end
end Go.Abs
