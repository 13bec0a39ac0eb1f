/-
  The variables that a call makes for itself: made, written, handed on. Program-independent. The generic layer under all claims of this repo: 10 of several.
-/
import Derived.Test.YtpnlfkaijdjhlaaAbs9
namespace Go.Abs
set_option linter.all false
open Go.RowKit (Below)

def AV.refs : AV → Nat → Prop
  | .vec d' _ _ _, d => d' = d
  | .osl d' _ _ _, d => d' = d
  | .loc d' _ _ _, d => d' = d
  | _, _ => False

def AV.purge (d : Nat) : AV → AV
  | .vec d' e s es => if d' = d then .im (.sl es) else .vec d' e s es
  | .osl d' s i n => if d' = d then .und else .osl d' s i n
  | .loc d' s i j => if d' = d then .und else .loc d' s i j
  | .im x => .im x
  | .und => .und
  | .sx es => .sx es
def St.fresh (st : St) (d : Nat) : St := ⟨st.fr.map fun p => (p.1, p.2.purge d), del st.rows d, del st.toks d⟩

def AV.lend (d s : Nat) (es : List (List IV)) : AV → AV
  | .osl d' s' i n => if d' = d then (if s' = s ∧ i + n ≤ es.length then .im (.sl ((es.drop i).take n)) else .und) else .osl d' s' i n
  | .loc d' s' i j => if d' = d then (if s' = s then (match es[i]? with | some c => .im (.ip c j) | none => .und) else .und) else .loc d' s' i j
  | .vec d' e s' es' => .vec d' e s' es'
  | .im x => .im x
  | .und => .und
  | .sx es => .sx es
def St.lend (st : St) (d : Nat) : St :=
  match look st.rows d with
  | some (s, es) => ⟨st.fr.map fun p => (p.1, p.2.lend d s es), del st.rows d, st.toks⟩
  | none => st
def St.lendO (st : St) (x : Operand) : St :=
  match evO st x with
  | .osl d _ _ _ => st.lend d
  | .loc d _ _ _ => st.lend d
  | _ => st
def St.lendOs (st : St) (xs : List Operand) : St := xs.foldl St.lendO st

def upd (β : Nat → Option Nat) (d : Nat) (x : Option Nat) : Nat → Option Nat := fun k => if k = d then x else β k
theorem upd_same (β : Nat → Option Nat) (d : Nat) (x : Option Nat) : upd β d x d = x := by simp [upd]
theorem upd_ne (β : Nat → Option Nat) {d k : Nat} (x : Option Nat) (h : k ≠ d) : upd β d x k = β k := by simp [upd, h]

section
variable {G : Ctx} {N : Nat} {w0 w w' : World} {M M' M0 : Nat → Nat → Prop} {β β' : Nat → Option Nat} {st : St} {a : Act} {toks toks' : List (Nat × Nat × Nat)} {av : AV} {v : Value}

theorem RepA.move (h : RepA w M β toks av v) (hk : Kept w M w' M') (hβ : ∀ d, av.refs d → β' d = β d) (ht : ∀ d s n, av.refs d → look toks' d = some (s, n) → look toks d = some (s, n))
    (hh : ∀ d b, (look toks' d).isSome → av.refs d → β d = some b → w'.heap[b]? = w.heap[b]?) : RepA w' M' β' toks' av v := by
  cases av with
  | im x => exact Rep.kept (w := w) h hk
  | und => trivial
  | sx es => exact ⟨Rep.kept h.1 hk, h.2⟩
  | vec d e s es =>
    refine ⟨Rep.kept h.1 hk, h.2.1, fun hl => ?_⟩
    rcases h.2.2 (ht d _ _ rfl hl) with hc | ⟨b, cap, cur, h1, h2, h3, h4⟩
    · exact .inl hc
    · exact .inr ⟨b, cap, cur, by rw [hβ d rfl]; exact h1, h2, by rw [hh d b (by simp [hl]) rfl h1]; exact h3, h4⟩
  | osl d s i n =>
    obtain ⟨ad, c, h1, h2, h3⟩ := h
    exact ⟨ad, c, h1, h2, fun hn => let ⟨b, h4, h5⟩ := h3 hn; ⟨b, by rw [hβ d rfl]; exact h4, h5⟩⟩
  | loc d s i j =>
    obtain ⟨b, h1, h2⟩ := h
    exact ⟨b, by rw [hβ d rfl]; exact h1, h2⟩

theorem RowRep.move {b s : Nat} {es : List (List IV)} (h : RowRep w M b s es) (hk : Kept w M w' M') (hh : w'.heap[b]? = w.heap[b]?) : RowRep w' M' b s es := by
  obtain ⟨cur, T, h1, h2, h3⟩ := h
  refine ⟨cur, T, by rw [hh]; exact h1, h2, fun i e j x hi hj => ?_⟩
  obtain ⟨ho, u, hu, hr⟩ := h3 i e j x hi hj
  exact ⟨ho, u, hu, hr.kept hk⟩

/-! ### fresh -/
theorem purge_refs (d : Nat) (av : AV) : ¬ (av.purge d).refs d := by
  cases av <;> simp only [AV.purge] <;> (try split) <;> simp_all [AV.refs]
theorem purge_refs_ne {d k : Nat} {av : AV} (h : (av.purge d).refs k) : av.refs k ∧ k ≠ d := by
  cases av <;> simp only [AV.purge] at h <;> (try split at h) <;> simp_all [AV.refs] <;> omega
theorem get_fresh (st : St) (d t : Nat) : (st.fresh d).get t = (st.get t).purge d := by
  simp only [St.get, St.fresh]
  rw [look_map]
  cases look st.fr t <;> rfl
theorem Mo_fresh {d b o : Nat} (h : Mo M0 β (st.fresh d) b o) : Mo M0 β st b o := by
  rcases h with h | ⟨k, s, es, hk, hb⟩ | ⟨k, s, n, hk, hb⟩
  · exact .inl h
  · by_cases e : k = d
    · subst e; simp [St.fresh, look_del_same] at hk
    · exact .inr (.inl ⟨k, s, es, by simpa [St.fresh, look_del_ne _ e] using hk, hb⟩)
  · by_cases e : k = d
    · subst e; simp [St.fresh, look_del_same] at hk
    · exact .inr (.inr ⟨k, s, n, by simpa [St.fresh, look_del_ne _ e] using hk, hb⟩)
theorem RepA.purge (h : RepA w M β toks av v) (d : Nat) : RepA w M β toks (av.purge d) v := by
  cases av <;> simp only [AV.purge] <;> first | exact h | skip
  all_goals (split <;> first | exact h | exact h.1 | trivial)

theorem Sim.fresh (h : Sim N w0 M0 β st a w) (d : Nat) : Sim N w0 M0 β (st.fresh d) a w where
  size := h.size
  defers := h.defers
  below := h.below
  m0 := h.m0
  fr t := by
    rw [get_fresh]
    refine ((h.fr t).purge d).move (Kept.less w fun b o hm => Mo_fresh hm) (fun _ _ => rfl) (fun k s n hr hl => ?_) (fun _ _ _ _ _ => rfl)
    have := (purge_refs_ne hr).2
    simpa [St.fresh, look_del_ne _ this] using hl
  rows k s es hk := by
    by_cases e : k = d
    · subst e; simp [St.fresh, look_del_same] at hk
    · obtain ⟨b, h1, h2, h3⟩ := h.rows k s es (by simpa [St.fresh, look_del_ne _ e] using hk)
      exact ⟨b, h1, h2, h3.move (Kept.less w fun b o hm => Mo_fresh hm) rfl⟩
  toks k s n hk := by
    by_cases e : k = d
    · subst e; simp [St.fresh, look_del_same] at hk
    · exact h.toks k s n (by simpa [St.fresh, look_del_ne _ e] using hk)
  inj k k' b hk hk' := by
    refine h.inj k k' b ?_ ?_
    · by_cases e : k = d
      · subst e; simp [St.fresh, look_del_same] at hk
      · simpa [St.fresh, look_del_ne _ e] using hk
    · by_cases e : k' = d
      · subst e; simp [St.fresh, look_del_same] at hk'
      · simpa [St.fresh, look_del_ne _ e] using hk'
  excl k hk := by
    by_cases e : k = d
    · subst e; simp [St.fresh, look_del_same]
    · have := h.excl k (by simpa [St.fresh, look_del_ne _ e] using hk)
      simpa [St.fresh, look_del_ne _ e] using this

/-- Nothing is known under the number d. -/
structure St.Clean (st : St) (d : Nat) : Prop where
  refs : ∀ t, ¬ (st.get t).refs d
  rows : look st.rows d = none
  toks : look st.toks d = none
theorem clean_fresh (st : St) (d : Nat) : (st.fresh d).Clean d :=
  ⟨fun t => by rw [get_fresh]; exact purge_refs d _, by simp [St.fresh, look_del_same], by simp [St.fresh, look_del_same]⟩

/-- A new row under a number that is free. -/
theorem Sim.newRow (h : Sim N w0 M0 β st a w) {d s : Nat} {es : List (List IV)} {cells : Array Value} {T : TypeId} (hc : st.Clean d) (hes : ∀ e ∈ es, e.length = s)
    (hr : ∀ (i : Nat) e (j : Nat) x, es[i]? = some e → e[j]? = some x → x.one = true ∧ ∃ u, cells[i * s + j]? = some u ∧ Rep w (Mo M0 β st) x u) :
    Sim N w0 M0 (upd β d (some w.heap.size)) { st with rows := (d, s, es) :: st.rows } a (w.alloc (.cells cells T)) := by
  have hM : ∀ b o, Mo M0 (upd β d (some w.heap.size)) { st with rows := (d, s, es) :: st.rows } b o → b ≠ w.heap.size → Mo M0 β st b o := by
    intro b o hm hb
    rcases hm with hm | ⟨k, s', es', hk, hkb⟩ | ⟨k, s', n, hk, hkb⟩
    · exact .inl hm
    · by_cases e : k = d
      · subst e; rw [upd_same] at hkb; cases hkb; exact absurd rfl hb
      · rw [upd_ne _ _ e] at hkb
        exact .inr (.inl ⟨k, s', es', by simpa [look, e] using hk, hkb⟩)
    · by_cases e : k = d
      · subst e; exact absurd hk (by simp [hc.toks])
      · rw [upd_ne _ _ e] at hkb
        exact .inr (.inr ⟨k, s', n, hk, hkb⟩)
  have hk : Kept w (Mo M0 β st) (w.alloc (.cells cells T)) (Mo M0 (upd β d (some w.heap.size)) { st with rows := (d, s, es) :: st.rows }) := by
    intro b o u hcell hn
    have hb : b < w.heap.size := World.block_lt_of_cell? (a := ⟨b, o, none⟩) w hcell
    exact ⟨by rw [World.cell?_alloc_lt w _ _ hb]; exact hcell, fun hm => hn (hM b o hm (by omega))⟩
  have hold : ∀ b, b < w.heap.size → (w.alloc (.cells cells T)).heap[b]? = w.heap[b]? := fun b hb => heap_alloc_old w _ hb
  have hrowlt : ∀ k s es b, look st.rows k = some (s, es) → β k = some b → b < w.heap.size := fun k s es b hk hb => by
    obtain ⟨b', hb', _, cur, T', h1, _⟩ := h.rows k s es hk
    rw [hb] at hb'; cases hb'
    exact (Array.getElem?_eq_some_iff.1 h1).1
  refine ⟨h.size, h.defers, h.below.alloc h.below.size _, h.m0, fun t => ?_, fun k s' es' hk' => ?_, fun k s' n hk' b hb => ?_, fun k k' b h1 h2 hb hb' => ?_, fun k hk' => ?_⟩
  · refine (h.fr t).move hk (fun k hr => ?_) (fun k s' n _ hl => hl) (fun k b hl _ hb => ?_)
    · exact upd_ne _ _ (fun e => hc.refs t (e ▸ hr))
    · obtain ⟨⟨s', n⟩, hl'⟩ := Option.isSome_iff_exists.1 hl
      exact hold b (h.toks k s' n hl' b hb).2
  · by_cases e : k = d
    · subst e
      simp only [look, if_true, Option.some.injEq, Prod.mk.injEq] at hk'
      obtain ⟨rfl, rfl⟩ := hk'
      refine ⟨w.heap.size, upd_same _ _ _, h.below.size, cells, T, heap_alloc_new w _, hes, fun i e j x hi hj => ?_⟩
      obtain ⟨h1, u, h2, h3⟩ := hr i e j x hi hj
      exact ⟨h1, u, h2, h3.kept hk⟩
    · have hk2 : look st.rows k = some (s', es') := by simpa [look, e] using hk'
      obtain ⟨b, h1, h2, h3⟩ := h.rows k s' es' hk2
      exact ⟨b, by rw [upd_ne _ _ e]; exact h1, h2, h3.move hk (hold b (hrowlt k s' es' b hk2 h1))⟩
  · have e : k ≠ d := fun e => by subst e; rw [hc.toks] at hk'; cases hk'
    rw [upd_ne _ _ e] at hb
    obtain ⟨h1, h2⟩ := h.toks k s' n hk' b hb
    exact ⟨h1, by simp; omega⟩
  · have dom : ∀ k, ((look ((d, s, es) :: st.rows) k).isSome ∨ (look st.toks k).isSome) → k ≠ d → ((look st.rows k).isSome ∨ (look st.toks k).isSome) := fun k hk hne => by
      simpa [look, hne] using hk
    have lt : ∀ k b, ((look st.rows k).isSome ∨ (look st.toks k).isSome) → β k = some b → b < w.heap.size := fun k b hk hb => by
      rcases hk with hk | hk
      · obtain ⟨⟨s', es'⟩, hl⟩ := Option.isSome_iff_exists.1 hk
        exact hrowlt k s' es' b hl hb
      · obtain ⟨⟨s', n⟩, hl⟩ := Option.isSome_iff_exists.1 hk
        exact (h.toks k s' n hl b hb).2
    by_cases e : k = d <;> by_cases e' : k' = d
    · omega
    · subst e
      rw [upd_same] at hb; rw [upd_ne _ _ e'] at hb'
      cases hb
      exact absurd (lt k' _ (dom k' h2 e') hb') (by omega)
    · subst e'
      rw [upd_same] at hb'; rw [upd_ne _ _ e] at hb
      cases hb'
      exact absurd (lt k _ (dom k h1 e) hb) (by omega)
    · rw [upd_ne _ _ e] at hb; rw [upd_ne _ _ e'] at hb'
      exact h.inj k k' b (dom k h1 e) (dom k' h2 e') hb hb'
  · by_cases e : k = d
    · subst e; exact hc.toks
    · exact h.excl k (by simpa [look, e] using hk')

/-! ### lend -/
theorem lend_refs {d s k : Nat} {es : List (List IV)} {av : AV} (h : (av.lend d s es).refs k) : av.refs k := by
  cases av <;> simp only [AV.lend] at h <;> (repeat' (split at h)) <;> simp_all [AV.refs]
theorem Mo_del {d b o : Nat} {fr : List (Nat × AV)} (h : Mo M0 β ⟨fr, del st.rows d, st.toks⟩ b o) : Mo M0 β st b o := by
  rcases h with h | ⟨k, s, es, hk, hb⟩ | h
  · exact .inl h
  · by_cases e : k = d
    · subst e; simp [look_del_same] at hk
    · exact .inr (.inl ⟨k, s, es, by simpa [look_del_ne _ e] using hk, hb⟩)
  · exact .inr (.inr h)

theorem Sim.lend (h : Sim N w0 M0 β st a w) (d : Nat) : Sim N w0 M0 β (st.lend d) a w := by
  unfold St.lend
  split
  case h_2 => exact h
  case h_1 s es hd =>
    obtain ⟨b, hb, hb0, hrow⟩ := h.rows d s es hd
    have htok : look st.toks d = none := h.excl d (by simp [hd])
    have hk : Kept w (Mo M0 β st) w (Mo M0 β ⟨st.fr.map fun p => (p.1, p.2.lend d s es), del st.rows d, st.toks⟩) := Kept.less w fun b o hm => Mo_del hm
    -- the row's block is now one that may be read
    have hnm : ∀ o, ¬ Mo M0 β ⟨st.fr.map fun p => (p.1, p.2.lend d s es), del st.rows d, st.toks⟩ b o := by
      rintro o (hm | ⟨k, s', es', hk', hkb⟩ | ⟨k, s', n, hk', hkb, _⟩)
      · exact absurd (h.m0 b o hm) (by omega)
      · by_cases e : k = d
        · subst e; simp [look_del_same] at hk'
        · have := h.inj k d b (.inl (by simp only [look_del_ne _ e] at hk'; simp [hk'])) (.inl (by simp [hd])) hkb hb
          exact e this
      · have := h.inj k d b (.inr (by simp only at hk'; simp [hk'])) (.inl (by simp [hd])) hkb hb
        subst this; simp only at hk'; rw [htok] at hk'; cases hk'
    have hrow' := hrow.move hk rfl
    refine ⟨h.size, h.defers, h.below, h.m0, fun t => ?_, fun k s' es' hk' => ?_, h.toks, fun k k' b h1 h2 => ?_, fun k hk' => ?_⟩
    · have hg : (⟨st.fr.map fun p => (p.1, p.2.lend d s es), del st.rows d, st.toks⟩ : St).get t = (st.get t).lend d s es := by
        simp only [St.get]
        rw [look_map]
        cases look st.fr t <;> rfl
      rw [hg]
      have hfr := h.fr t
      generalize st.get t = av at hfr
      generalize a.tmps.getD t undef = v at hfr
      cases av with
      | osl d' s' i n =>
        simp only [AV.lend]
        split
        · rename_i e; subst e
          split
          · rename_i hc
            obtain ⟨rfl, hle⟩ := hc
            obtain ⟨ad, c, h1, rfl, h3⟩ := hfr
            by_cases hn : n = 0
            · subst hn; simp only [List.take_zero]; exact Rep.nil _ _
            · obtain ⟨b', hb', rfl⟩ := h3 hn
              rw [hb] at hb'; cases hb'
              obtain ⟨cur, T, hc1, hc2, hc3⟩ := hrow'
              have hlen : ((es.drop i).take n).length = n := by simp; omega
              have hget : ∀ i' e, ((es.drop i).take n)[i']? = some e → es[i + i']? = some e := fun i' e hi => by
                rw [List.getElem?_take] at hi
                split at hi
                · rwa [List.getElem?_drop] at hi
                · cases hi
              have hcell : ∀ i' e j x, ((es.drop i).take n)[i']? = some e → e[j]? = some x → x.one = true ∧ cur[(i + i') * s' + j]? = some (cur.getD ((i + i') * s' + j) undef) ∧ Rep w _ x (cur.getD ((i + i') * s' + j) undef) := fun i' e j x hi hj => by
                obtain ⟨ho, u, hu, hr⟩ := hc3 (i + i') e j x (hget i' e hi) hj
                have : cur.getD ((i + i') * s' + j) undef = u := by simp [hu]
                exact ⟨ho, by rw [this]; exact hu, by rw [this]; exact hr⟩
              have := Rep.sl (w := w) (M := Mo M0 β ⟨st.fr.map fun p => (p.1, p.2.lend d' s' es), del st.rows d', st.toks⟩) ((es.drop i).take n) s' b (i * s') c (fun i' j => cur.getD ((i + i') * s' + j) undef) (fun h => by rw [h] at hlen; simp at hlen; omega)
                (fun e he => hc2 e (List.mem_of_mem_drop (List.mem_of_mem_take he))) (by omega)
                (fun i' e j x hi hj => by
                  obtain ⟨h1, h2, _⟩ := hcell i' e j x hi hj
                  refine ⟨h1, ?_, hnm _⟩
                  rw [cell_of_row w b _ cur T _ hc1, ← h2, Nat.add_mul])
                (fun i' e j x hi hj => (hcell i' e j x hi hj).2.2)
              rw [hlen] at this
              exact this
          · trivial
        · rename_i e
          exact RepA.move hfr hk (fun _ _ => rfl) (fun _ _ _ _ h => h) (fun _ _ _ _ _ => rfl)
      | loc d' s' i j =>
        simp only [AV.lend]
        split
        · rename_i e; subst e
          split
          · rename_i hs; subst hs
            split
            · rename_i c hi
              obtain ⟨b', hb', rfl⟩ := hfr
              rw [hb] at hb'; cases hb'
              obtain ⟨u, hu⟩ := row_cells hrow' hi
              exact Rep.ip c j b (i * s') u (fun k x hx => ⟨(hu k x hx).1, (hu k x hx).2.1, hnm _⟩) (fun k x hx => (hu k x hx).2.2)
            · trivial
          · trivial
        · rename_i e
          exact RepA.move hfr hk (fun _ _ => rfl) (fun _ _ _ _ h => h) (fun _ _ _ _ _ => rfl)
      | _ => exact RepA.move hfr hk (fun _ _ => rfl) (fun _ _ _ _ h => h) (fun _ _ _ _ _ => rfl)
    · by_cases e : k = d
      · subst e; simp [look_del_same] at hk'
      · obtain ⟨b', h1, h2, h3⟩ := h.rows k s' es' (by simpa [look_del_ne _ e] using hk')
        exact ⟨b', h1, h2, h3.move hk rfl⟩
    · refine h.inj k k' b ?_ ?_
      · by_cases e : k = d
        · subst e; simp [look_del_same, htok] at h1
        · simpa [look_del_ne _ e] using h1
      · by_cases e : k' = d
        · subst e; simp [look_del_same, htok] at h2
        · simpa [look_del_ne _ e] using h2
    · by_cases e : k = d
      · subst e; simp [look_del_same] at hk'
      · exact h.excl k (by simpa [look_del_ne _ e] using hk')
theorem Sim.lendO (h : Sim N w0 M0 β st a w) (x : Operand) : Sim N w0 M0 β (st.lendO x) a w := by
  unfold St.lendO
  split
  · exact h.lend _
  · exact h.lend _
  · exact h
theorem Sim.lendOs (h : Sim N w0 M0 β st a w) (xs : List Operand) : Sim N w0 M0 β (st.lendOs xs) a w := by
  induction xs generalizing st with
  | nil => exact h
  | cons x xs ih => exact ih (h.lendO x)
end
end Go.Abs
