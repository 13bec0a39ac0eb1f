/-
  The variables that a call makes for itself: made, written, handed on. Program-independent. The generic layer under all claims of this repo: 10 of several.
-/
import Derived.Test.YtpnlfkaijdjhlaaKA1
import Derived.StillTail
import Derived.Deep.LoopGhost
namespace Go.Abs
set_option linter.all false
open Go.RowKit (Below)

def AV.refs : AV → Nat → Prop
  | .vec d' _ _ _, d => d' = d
  | .osl d' _ _ _, d => d' = d
  | .loc d' _ _ _, d => d' = d
  | _, _ => False

def AV.purge (d : Nat) : AV → AV
  | .vec d' e s es => if d' = d then .im (.sl es) else .vec d' e s es
  | .osl d' s i n => if d' = d then .und else .osl d' s i n
  | .loc d' s i j => if d' = d then .und else .loc d' s i j
  | .im x => .im x
  | .und => .und
  | .sx es => .sx es
def St.fresh (st : St) (d : Nat) : St := ⟨st.fr.map fun p => (p.1, p.2.purge d), del st.rows d, del st.toks d⟩

def AV.lend (d s : Nat) (es : List (List IV)) : AV → AV
  | .osl d' s' i n => if d' = d then (if s' = s ∧ i + n ≤ es.length then .im (.sl ((es.drop i).take n)) else .und) else .osl d' s' i n
  | .loc d' s' i j => if d' = d then (if s' = s then (match es[i]? with | some c => .im (.ip c j) | none => .und) else .und) else .loc d' s' i j
  | .vec d' e s' es' => .vec d' e s' es'
  | .im x => .im x
  | .und => .und
  | .sx es => .sx es
def St.lend (st : St) (d : Nat) : St :=
  match look st.rows d with
  | some (s, es) => ⟨st.fr.map fun p => (p.1, p.2.lend d s es), del st.rows d, st.toks⟩
  | none => st
def St.lendO (st : St) (x : Operand) : St :=
  match evO st x with
  | .osl d _ _ _ => st.lend d
  | .loc d _ _ _ => st.lend d
  | _ => st
def St.lendOs (st : St) (xs : List Operand) : St := xs.foldl St.lendO st

def upd (β : Nat → Option Nat) (d : Nat) (x : Option Nat) : Nat → Option Nat := fun k => if k = d then x else β k
theorem upd_same (β : Nat → Option Nat) (d : Nat) (x : Option Nat) : upd β d x d = x := by simp [upd]
theorem upd_ne (β : Nat → Option Nat) {d k : Nat} (x : Option Nat) (h : k ≠ d) : upd β d x k = β k := by simp [upd, h]

section
variable {G : Ctx} {N : Nat} {w0 w w' : World} {M M' M0 : Nat → Nat → Prop} {β β' : Nat → Option Nat} {st : St} {a : Act} {toks toks' : List (Nat × Nat × Nat)} {av : AV} {v : Value}

theorem RepA.move (h : RepA w M β toks av v) (hk : Kept w M w' M') (hβ : ∀ d, av.refs d → β' d = β d) (ht : ∀ d s n, av.refs d → look toks' d = some (s, n) → look toks d = some (s, n))
    (hh : ∀ d b, (look toks' d).isSome → av.refs d → β d = some b → w'.heap[b]? = w.heap[b]?) : RepA w' M' β' toks' av v := by
  cases av with
  | im x => exact Rep.kept (w := w) h hk
  | und => trivial
  | sx es => exact ⟨Rep.kept h.1 hk, h.2⟩
  | vec d e s es =>
    refine ⟨Rep.kept h.1 hk, h.2.1, fun hl => ?_⟩
    rcases h.2.2 (ht d _ _ rfl hl) with hc | ⟨b, cap, cur, h1, h2, h3, h4⟩
    · exact .inl hc
    · exact .inr ⟨b, cap, cur, by rw [hβ d rfl]; exact h1, h2, by rw [hh d b (by simp [hl]) rfl h1]; exact h3, h4⟩
  | osl d s i n =>
    obtain ⟨ad, c, h1, h2, h3⟩ := h
    exact ⟨ad, c, h1, h2, fun hn => let ⟨b, h4, h5⟩ := h3 hn; ⟨b, by rw [hβ d rfl]; exact h4, h5⟩⟩
  | loc d s i j =>
    obtain ⟨b, h1, h2⟩ := h
    exact ⟨b, by rw [hβ d rfl]; exact h1, h2⟩

theorem RowRep.move {b s : Nat} {es : List (List IV)} (h : RowRep w M b s es) (hk : Kept w M w' M') (hh : w'.heap[b]? = w.heap[b]?) : RowRep w' M' b s es := by
  obtain ⟨cur, T, h1, h2, h3⟩ := h
  refine ⟨cur, T, by rw [hh]; exact h1, h2, fun i e j x hi hj => ?_⟩
  obtain ⟨ho, u, hu, hr⟩ := h3 i e j x hi hj
  exact ⟨ho, u, hu, hr.kept hk⟩

/-! ### fresh -/
theorem purge_refs (d : Nat) (av : AV) : ¬ (av.purge d).refs d := by
  cases av <;> simp only [AV.purge] <;> (try split) <;> simp_all [AV.refs]
theorem purge_refs_ne {d k : Nat} {av : AV} (h : (av.purge d).refs k) : av.refs k ∧ k ≠ d := by
  cases av <;> simp only [AV.purge] at h <;> (try split at h) <;> simp_all [AV.refs] <;> omega
theorem get_fresh (st : St) (d t : Nat) : (st.fresh d).get t = (st.get t).purge d := by
  simp only [St.get, St.fresh]
  rw [look_map]
  cases look st.fr t <;> rfl
theorem Mo_fresh {d b o : Nat} (h : Mo M0 β (st.fresh d) b o) : Mo M0 β st b o := by
  rcases h with h | ⟨k, s, es, hk, hb⟩ | ⟨k, s, n, hk, hb⟩
  · exact .inl h
  · by_cases e : k = d
    · subst e; simp [St.fresh, look_del_same] at hk
    · exact .inr (.inl ⟨k, s, es, by simpa [St.fresh, look_del_ne _ e] using hk, hb⟩)
  · by_cases e : k = d
    · subst e; simp [St.fresh, look_del_same] at hk
    · exact .inr (.inr ⟨k, s, n, by simpa [St.fresh, look_del_ne _ e] using hk, hb⟩)
theorem RepA.purge (h : RepA w M β toks av v) (d : Nat) : RepA w M β toks (av.purge d) v := by
  cases av <;> simp only [AV.purge] <;> first | exact h | skip
  all_goals (split <;> first | exact h | exact h.1 | trivial)

theorem Sim.fresh (h : Sim N w0 M0 β st a w) (d : Nat) : Sim N w0 M0 β (st.fresh d) a w where
  size := h.size
  defers := h.defers
  below := h.below
  m0 := h.m0
  fr t := by
    rw [get_fresh]
    refine ((h.fr t).purge d).move (Kept.less w fun b o hm => Mo_fresh hm) (fun _ _ => rfl) (fun k s n hr hl => ?_) (fun _ _ _ _ _ => rfl)
    have := (purge_refs_ne hr).2
    simpa [St.fresh, look_del_ne _ this] using hl
  rows k s es hk := by
    by_cases e : k = d
    · subst e; simp [St.fresh, look_del_same] at hk
    · obtain ⟨b, h1, h2, h3⟩ := h.rows k s es (by simpa [St.fresh, look_del_ne _ e] using hk)
      exact ⟨b, h1, h2, h3.move (Kept.less w fun b o hm => Mo_fresh hm) rfl⟩
  toks k s n hk := by
    by_cases e : k = d
    · subst e; simp [St.fresh, look_del_same] at hk
    · exact h.toks k s n (by simpa [St.fresh, look_del_ne _ e] using hk)
  inj k k' b hk hk' := by
    refine h.inj k k' b ?_ ?_
    · by_cases e : k = d
      · subst e; simp [St.fresh, look_del_same] at hk
      · simpa [St.fresh, look_del_ne _ e] using hk
    · by_cases e : k' = d
      · subst e; simp [St.fresh, look_del_same] at hk'
      · simpa [St.fresh, look_del_ne _ e] using hk'
  excl k hk := by
    by_cases e : k = d
    · subst e; simp [St.fresh, look_del_same]
    · have := h.excl k (by simpa [St.fresh, look_del_ne _ e] using hk)
      simpa [St.fresh, look_del_ne _ e] using this

/-- Nothing is known under the number d. -/
structure St.Clean (st : St) (d : Nat) : Prop where
  refs : ∀ t, ¬ (st.get t).refs d
  rows : look st.rows d = none
  toks : look st.toks d = none
theorem clean_fresh (st : St) (d : Nat) : (st.fresh d).Clean d :=
  ⟨fun t => by rw [get_fresh]; exact purge_refs d _, by simp [St.fresh, look_del_same], by simp [St.fresh, look_del_same]⟩

/-- A new row under a number that is free. -/
theorem Sim.newRow (h : Sim N w0 M0 β st a w) {d s : Nat} {es : List (List IV)} {cells : Array Value} {T : TypeId} (hc : st.Clean d) (hes : ∀ e ∈ es, e.length = s)
    (hr : ∀ (i : Nat) e (j : Nat) x, es[i]? = some e → e[j]? = some x → x.one = true ∧ ∃ u, cells[i * s + j]? = some u ∧ Rep w (Mo M0 β st) x u) :
    Sim N w0 M0 (upd β d (some w.heap.size)) { st with rows := (d, s, es) :: st.rows } a (w.alloc (.cells cells T)) := by
  have hM : ∀ b o, Mo M0 (upd β d (some w.heap.size)) { st with rows := (d, s, es) :: st.rows } b o → b ≠ w.heap.size → Mo M0 β st b o := by
    intro b o hm hb
    rcases hm with hm | ⟨k, s', es', hk, hkb⟩ | ⟨k, s', n, hk, hkb⟩
    · exact .inl hm
    · by_cases e : k = d
      · subst e; rw [upd_same] at hkb; cases hkb; exact absurd rfl hb
      · rw [upd_ne _ _ e] at hkb
        exact .inr (.inl ⟨k, s', es', by simpa [look, e] using hk, hkb⟩)
    · by_cases e : k = d
      · subst e; exact absurd hk (by simp [hc.toks])
      · rw [upd_ne _ _ e] at hkb
        exact .inr (.inr ⟨k, s', n, hk, hkb⟩)
  have hk : Kept w (Mo M0 β st) (w.alloc (.cells cells T)) (Mo M0 (upd β d (some w.heap.size)) { st with rows := (d, s, es) :: st.rows }) := by
    intro b o u hcell hn
    have hb : b < w.heap.size := World.block_lt_of_cell? (a := ⟨b, o, none⟩) w hcell
    exact ⟨by rw [World.cell?_alloc_lt w _ _ hb]; exact hcell, fun hm => hn (hM b o hm (by omega))⟩
  have hold : ∀ b, b < w.heap.size → (w.alloc (.cells cells T)).heap[b]? = w.heap[b]? := fun b hb => heap_alloc_old w _ hb
  have hrowlt : ∀ k s es b, look st.rows k = some (s, es) → β k = some b → b < w.heap.size := fun k s es b hk hb => by
    obtain ⟨b', hb', _, cur, T', h1, _⟩ := h.rows k s es hk
    rw [hb] at hb'; cases hb'
    exact (Array.getElem?_eq_some_iff.1 h1).1
  refine ⟨h.size, h.defers, h.below.alloc h.below.size _, h.m0, fun t => ?_, fun k s' es' hk' => ?_, fun k s' n hk' b hb => ?_, fun k k' b h1 h2 hb hb' => ?_, fun k hk' => ?_⟩
  · refine (h.fr t).move hk (fun k hr => ?_) (fun k s' n _ hl => hl) (fun k b hl _ hb => ?_)
    · exact upd_ne _ _ (fun e => hc.refs t (e ▸ hr))
    · obtain ⟨⟨s', n⟩, hl'⟩ := Option.isSome_iff_exists.1 hl
      exact hold b (h.toks k s' n hl' b hb).2
  · by_cases e : k = d
    · subst e
      simp only [look, if_true, Option.some.injEq, Prod.mk.injEq] at hk'
      obtain ⟨rfl, rfl⟩ := hk'
      refine ⟨w.heap.size, upd_same _ _ _, h.below.size, cells, T, heap_alloc_new w _, hes, fun i e j x hi hj => ?_⟩
      obtain ⟨h1, u, h2, h3⟩ := hr i e j x hi hj
      exact ⟨h1, u, h2, h3.kept hk⟩
    · have hk2 : look st.rows k = some (s', es') := by simpa [look, e] using hk'
      obtain ⟨b, h1, h2, h3⟩ := h.rows k s' es' hk2
      exact ⟨b, by rw [upd_ne _ _ e]; exact h1, h2, h3.move hk (hold b (hrowlt k s' es' b hk2 h1))⟩
  · have e : k ≠ d := fun e => by subst e; rw [hc.toks] at hk'; cases hk'
    rw [upd_ne _ _ e] at hb
    obtain ⟨h1, h2⟩ := h.toks k s' n hk' b hb
    exact ⟨h1, by simp; omega⟩
  · have dom : ∀ k, ((look ((d, s, es) :: st.rows) k).isSome ∨ (look st.toks k).isSome) → k ≠ d → ((look st.rows k).isSome ∨ (look st.toks k).isSome) := fun k hk hne => by
      simpa [look, hne] using hk
    have lt : ∀ k b, ((look st.rows k).isSome ∨ (look st.toks k).isSome) → β k = some b → b < w.heap.size := fun k b hk hb => by
      rcases hk with hk | hk
      · obtain ⟨⟨s', es'⟩, hl⟩ := Option.isSome_iff_exists.1 hk
        exact hrowlt k s' es' b hl hb
      · obtain ⟨⟨s', n⟩, hl⟩ := Option.isSome_iff_exists.1 hk
        exact (h.toks k s' n hl b hb).2
    by_cases e : k = d <;> by_cases e' : k' = d
    · omega
    · subst e
      rw [upd_same] at hb; rw [upd_ne _ _ e'] at hb'
      cases hb
      exact absurd (lt k' _ (dom k' h2 e') hb') (by omega)
    · subst e'
      rw [upd_same] at hb'; rw [upd_ne _ _ e] at hb
      cases hb'
      exact absurd (lt k _ (dom k h1 e) hb) (by omega)
    · rw [upd_ne _ _ e] at hb; rw [upd_ne _ _ e'] at hb'
      exact h.inj k k' b (dom k h1 e) (dom k' h2 e') hb hb'
  · by_cases e : k = d
    · subst e; exact hc.toks
    · exact h.excl k (by simpa [look, e] using hk')

/-! ### lend -/
theorem lend_refs {d s k : Nat} {es : List (List IV)} {av : AV} (h : (av.lend d s es).refs k) : av.refs k := by
  cases av <;> simp only [AV.lend] at h <;> (repeat' (split at h)) <;> simp_all [AV.refs]
theorem Mo_del {d b o : Nat} {fr : List (Nat × AV)} (h : Mo M0 β ⟨fr, del st.rows d, st.toks⟩ b o) : Mo M0 β st b o := by
  rcases h with h | ⟨k, s, es, hk, hb⟩ | h
  · exact .inl h
  · by_cases e : k = d
    · subst e; simp [look_del_same] at hk
    · exact .inr (.inl ⟨k, s, es, by simpa [look_del_ne _ e] using hk, hb⟩)
  · exact .inr (.inr h)

theorem Sim.lend (h : Sim N w0 M0 β st a w) (d : Nat) : Sim N w0 M0 β (st.lend d) a w := by
  unfold St.lend
  split
  case h_2 => exact h
  case h_1 s es hd =>
    obtain ⟨b, hb, hb0, hrow⟩ := h.rows d s es hd
    have htok : look st.toks d = none := h.excl d (by simp [hd])
    have hk : Kept w (Mo M0 β st) w (Mo M0 β ⟨st.fr.map fun p => (p.1, p.2.lend d s es), del st.rows d, st.toks⟩) := Kept.less w fun b o hm => Mo_del hm
    -- the row's block is now one that may be read
    have hnm : ∀ o, ¬ Mo M0 β ⟨st.fr.map fun p => (p.1, p.2.lend d s es), del st.rows d, st.toks⟩ b o := by
      rintro o (hm | ⟨k, s', es', hk', hkb⟩ | ⟨k, s', n, hk', hkb, _⟩)
      · exact absurd (h.m0 b o hm) (by omega)
      · by_cases e : k = d
        · subst e; simp [look_del_same] at hk'
        · have := h.inj k d b (.inl (by simp only [look_del_ne _ e] at hk'; simp [hk'])) (.inl (by simp [hd])) hkb hb
          exact e this
      · have := h.inj k d b (.inr (by simp only at hk'; simp [hk'])) (.inl (by simp [hd])) hkb hb
        subst this; simp only at hk'; rw [htok] at hk'; cases hk'
    have hrow' := hrow.move hk rfl
    refine ⟨h.size, h.defers, h.below, h.m0, fun t => ?_, fun k s' es' hk' => ?_, h.toks, fun k k' b h1 h2 => ?_, fun k hk' => ?_⟩
    · have hg : (⟨st.fr.map fun p => (p.1, p.2.lend d s es), del st.rows d, st.toks⟩ : St).get t = (st.get t).lend d s es := by
        simp only [St.get]
        rw [look_map]
        cases look st.fr t <;> rfl
      rw [hg]
      have hfr := h.fr t
      generalize st.get t = av at hfr
      generalize a.tmps.getD t undef = v at hfr
      cases av with
      | osl d' s' i n =>
        simp only [AV.lend]
        split
        · rename_i e; subst e
          split
          · rename_i hc
            obtain ⟨rfl, hle⟩ := hc
            obtain ⟨ad, c, h1, rfl, h3⟩ := hfr
            by_cases hn : n = 0
            · subst hn; simp only [List.take_zero]; exact Rep.nil _ _
            · obtain ⟨b', hb', rfl⟩ := h3 hn
              rw [hb] at hb'; cases hb'
              obtain ⟨cur, T, hc1, hc2, hc3⟩ := hrow'
              have hlen : ((es.drop i).take n).length = n := by simp; omega
              have hget : ∀ i' e, ((es.drop i).take n)[i']? = some e → es[i + i']? = some e := fun i' e hi => by
                rw [List.getElem?_take] at hi
                split at hi
                · rwa [List.getElem?_drop] at hi
                · cases hi
              have hcell : ∀ i' e j x, ((es.drop i).take n)[i']? = some e → e[j]? = some x → x.one = true ∧ cur[(i + i') * s' + j]? = some (cur.getD ((i + i') * s' + j) undef) ∧ Rep w _ x (cur.getD ((i + i') * s' + j) undef) := fun i' e j x hi hj => by
                obtain ⟨ho, u, hu, hr⟩ := hc3 (i + i') e j x (hget i' e hi) hj
                have : cur.getD ((i + i') * s' + j) undef = u := by simp [hu]
                exact ⟨ho, by rw [this]; exact hu, by rw [this]; exact hr⟩
              have := Rep.sl (w := w) (M := Mo M0 β ⟨st.fr.map fun p => (p.1, p.2.lend d' s' es), del st.rows d', st.toks⟩) ((es.drop i).take n) s' b (i * s') c (fun i' j => cur.getD ((i + i') * s' + j) undef) (fun h => by rw [h] at hlen; simp at hlen; omega)
                (fun e he => hc2 e (List.mem_of_mem_drop (List.mem_of_mem_take he))) (by omega)
                (fun i' e j x hi hj => by
                  obtain ⟨h1, h2, _⟩ := hcell i' e j x hi hj
                  refine ⟨h1, ?_, hnm _⟩
                  rw [cell_of_row w b _ cur T _ hc1, ← h2, Nat.add_mul])
                (fun i' e j x hi hj => (hcell i' e j x hi hj).2.2)
              rw [hlen] at this
              exact this
          · trivial
        · rename_i e
          exact RepA.move hfr hk (fun _ _ => rfl) (fun _ _ _ _ h => h) (fun _ _ _ _ _ => rfl)
      | loc d' s' i j =>
        simp only [AV.lend]
        split
        · rename_i e; subst e
          split
          · rename_i hs; subst hs
            split
            · rename_i c hi
              obtain ⟨b', hb', rfl⟩ := hfr
              rw [hb] at hb'; cases hb'
              obtain ⟨u, hu⟩ := row_cells hrow' hi
              exact Rep.ip c j b (i * s') u (fun k x hx => ⟨(hu k x hx).1, (hu k x hx).2.1, hnm _⟩) (fun k x hx => (hu k x hx).2.2)
            · trivial
          · trivial
        · rename_i e
          exact RepA.move hfr hk (fun _ _ => rfl) (fun _ _ _ _ h => h) (fun _ _ _ _ _ => rfl)
      | _ => exact RepA.move hfr hk (fun _ _ => rfl) (fun _ _ _ _ h => h) (fun _ _ _ _ _ => rfl)
    · by_cases e : k = d
      · subst e; simp [look_del_same] at hk'
      · obtain ⟨b', h1, h2, h3⟩ := h.rows k s' es' (by simpa [look_del_ne _ e] using hk')
        exact ⟨b', h1, h2, h3.move hk rfl⟩
    · refine h.inj k k' b ?_ ?_
      · by_cases e : k = d
        · subst e; simp [look_del_same, htok] at h1
        · simpa [look_del_ne _ e] using h1
      · by_cases e : k' = d
        · subst e; simp [look_del_same, htok] at h2
        · simpa [look_del_ne _ e] using h2
    · by_cases e : k = d
      · subst e; simp [look_del_same] at hk'
      · exact h.excl k (by simpa [look_del_ne _ e] using hk')
theorem Sim.lendO (h : Sim N w0 M0 β st a w) (x : Operand) : Sim N w0 M0 β (st.lendO x) a w := by
  unfold St.lendO
  split
  · exact h.lend _
  · exact h.lend _
  · exact h
theorem Sim.lendOs (h : Sim N w0 M0 β st a w) (xs : List Operand) : Sim N w0 M0 β (st.lendOs xs) a w := by
  induction xs generalizing st with
  | nil => exact h
  | cons x xs ih => exact ih (h.lendO x)
end
end Go.Abs

namespace Go.Abs
set_option linter.all false
open Go.RowKit (Below)

def setRow (l : List (Nat × Nat × List (List IV))) (d s : Nat) (es : List (List IV)) : List (Nat × Nat × List (List IV)) :=
  l.map fun p => if p.1 = d then (p.1, s, es) else p
theorem look_setRow_same {l : List (Nat × Nat × List (List IV))} {d s : Nat} {es : List (List IV)} (h : (look l d).isSome) : look (setRow l d s es) d = some (s, es) := by
  induction l with
  | nil => simp [look] at h
  | cons p l ih =>
    obtain ⟨j, v⟩ := p
    by_cases e : d = j
    · subst e; simp [setRow, look]
    · have hl : (look l d).isSome := by simpa [look, e] using h
      simp only [setRow, List.map_cons, Ne.symm e, if_false, look, e]
      exact ih hl
theorem look_setRow_ne {l : List (Nat × Nat × List (List IV))} {d s k : Nat} {es : List (List IV)} (h : k ≠ d) : look (setRow l d s es) k = look l k := by
  induction l with
  | nil => rfl
  | cons p l ih =>
    obtain ⟨j, v⟩ := p
    by_cases e : j = d
    · subst e
      simp only [setRow, List.map_cons, if_true, look, h, if_false]
      exact ih
    · simp only [setRow, List.map_cons, e, if_false, look]
      split
      · rfl
      · exact ih
theorem look_setRow_some {l : List (Nat × Nat × List (List IV))} {d s k : Nat} {es : List (List IV)} : (look (setRow l d s es) k).isSome = (look l k).isSome := by
  by_cases e : k = d
  · subst e
    by_cases h : (look l k).isSome
    · rw [look_setRow_same h, h]; rfl
    · have hn : look l k = none := by simpa using h
      have : look (setRow l k s es) k = none := by
        clear h
        induction l with
        | nil => rfl
        | cons p l ih =>
          obtain ⟨j, v⟩ := p
          by_cases e : k = j
          · subst e; simp [look] at hn
          · have hl : look l k = none := by simpa [look, e] using hn
            simp only [setRow, List.map_cons, Ne.symm e, if_false, look, e]
            exact ih hl
      rw [this, hn]
  · rw [look_setRow_ne e]

section
variable {G : Ctx} {N : Nat} {w0 w w' : World} {M M' M0 : Nat → Nat → Prop} {β β' : Nat → Option Nat} {st : St} {a : Act} {toks toks' : List (Nat × Nat × Nat)} {av : AV} {v : Value}

theorem heap_setRow (w : World) (g : Nat) (cs cur : Array Value) (T : TypeId) (hg : w.heap[g]? = some (.cells cur T (0, 0))) : (w.setRow g cs).heap[g]? = some (.cells cs T (0, 0)) :=
  setRow_heap w g cur cs T _ hg

/-- Block b, known as row d, gets new cells. -/
theorem Sim.setRow (h : Sim N w0 M0 β st a w) {d s b : Nat} {es es' : List (List IV)} {cur cells : Array Value} {T : TypeId} (hd : look st.rows d = some (s, es)) (hb : β d = some b)
    (hcur : w.heap[b]? = some (.cells cur T (0, 0))) (hes : ∀ e ∈ es', e.length = s)
    (hr : ∀ (i : Nat) e (j : Nat) x, es'[i]? = some e → e[j]? = some x → x.one = true ∧ ∃ u, cells[i * s + j]? = some u ∧ Rep w (Mo M0 β st) x u) :
    Sim N w0 M0 β { st with rows := Abs.setRow st.rows d s es' } a (w.setRow b cells) := by
  have hds : (look st.rows d).isSome := by simp [hd]
  have hM : ∀ b o, Mo M0 β { st with rows := Abs.setRow st.rows d s es' } b o ↔ Mo M0 β st b o := by
    intro b o
    unfold Mo
    have : (∃ k s' es2, look (Abs.setRow st.rows d s es') k = some (s', es2) ∧ β k = some b) ↔ ∃ k s' es2, look st.rows k = some (s', es2) ∧ β k = some b := by
      constructor
      · rintro ⟨k, s', es2, hk, hkb⟩
        have : (look st.rows k).isSome := by rw [← look_setRow_some (d := d) (s := s) (es := es'), hk]; rfl
        obtain ⟨⟨x, y⟩, hxy⟩ := Option.isSome_iff_exists.1 this
        exact ⟨k, x, y, hxy, hkb⟩
      · rintro ⟨k, s', es2, hk, hkb⟩
        have : (look (Abs.setRow st.rows d s es') k).isSome := by rw [look_setRow_some, hk]; rfl
        obtain ⟨⟨x, y⟩, hxy⟩ := Option.isSome_iff_exists.1 this
        exact ⟨k, x, y, hxy, hkb⟩
    simp only [this]
  have hother : ∀ k, k ≠ b → (w.setRow b cells).heap[k]? = w.heap[k]? := fun k hk => setRow_other w b k cells hk
  have hk : Kept w (Mo M0 β st) (w.setRow b cells) (Mo M0 β { st with rows := Abs.setRow st.rows d s es' }) := by
    intro b' o u hc hn
    refine ⟨?_, fun hm => hn ((hM b' o).1 hm)⟩
    by_cases e : b' = b
    · subst e; exact absurd (.inr (.inl ⟨d, s, es, hd, hb⟩)) hn
    · rw [World.cell?_of_block (w := w) (a := ⟨b', o, none⟩) (hother b' e)]; exact hc
  have hbw0 : w0.heap.size ≤ b := by obtain ⟨b', h1, h2, _⟩ := h.rows d s es hd; rw [hb] at h1; cases h1; exact h2
  refine ⟨h.size, h.defers, ?_, h.m0, fun t => ?_, fun k s' es2 hk' => ?_, fun k s' n hk' b' hb' => ?_, fun k k' b' h1 h2 => ?_, fun k hk' => ?_⟩
  · exact h.below.trans ⟨rfl, rfl, rfl, by simp, fun k hk => hother k (by omega)⟩
  · refine (h.fr t).move hk (fun _ _ => rfl) (fun _ _ _ _ h => h) (fun k b' hl _ hb' => hother b' (fun e => ?_))
    subst e
    have := h.inj k d b' (.inr hl) (.inl hds) hb' hb
    subst this
    rw [h.excl k hds] at hl; cases hl
  · by_cases e : k = d
    · subst e
      rw [look_setRow_same hds] at hk'
      simp only [Option.some.injEq, Prod.mk.injEq] at hk'
      obtain ⟨rfl, rfl⟩ := hk'
      refine ⟨b, hb, hbw0, cells, T, heap_setRow w b cells cur T hcur, hes, fun i e j x hi hj => ?_⟩
      obtain ⟨h1, u, h2, h3⟩ := hr i e j x hi hj
      exact ⟨h1, u, h2, h3.kept hk⟩
    · rw [look_setRow_ne e] at hk'
      obtain ⟨b', h1, h2, h3⟩ := h.rows k s' es2 hk'
      refine ⟨b', h1, h2, h3.move hk (hother b' (fun eb => ?_))⟩
      subst eb
      exact e (h.inj k d b' (.inl (by simp [hk'])) (.inl hds) h1 hb)
  · obtain ⟨h1, h2⟩ := h.toks k s' n hk' b' hb'
    exact ⟨h1, by simpa using h2⟩
  · simp only [look_setRow_some] at h1 h2
    exact h.inj k k' b' h1 h2
  · simp only [look_setRow_some] at hk'
    exact h.excl k hk'

/-- The store of one operation. -/
theorem store_run (hG : G.Ok) (h : Sim N w0 M0 β st a w) {t d s i j : Nat} {es : List (List IV)} {c : List IV} {x : IV} {p xv : Value} (h0 : (G.ti t).size ≠ 0)
    (hd : look st.rows d = some (s, es)) (hi : es[i]? = some c) (hl : (cellsOf x).length = (G.ti t).size) (ho : (cellsOf x).all IV.one = true) (hj : j + (G.ti t).size ≤ c.length)
    (hp : RepA w (Mo M0 β st) β st.toks (.loc d s i j) p) (hx : Rep w (Mo M0 β st) x xv) :
    ∃ w', (Instr.storeAt t p xv).run G.P w = .ok () w' ∧ Sim N w0 M0 β { st with rows := setRow st.rows d s (es.set i (setCells c j (cellsOf x))) } a w' := by
  obtain ⟨b, hb, rfl⟩ := hp
  obtain ⟨b', hb', hbw, cur, T, hcur, hes, hcell⟩ := h.rows d s es hd
  rw [hb] at hb'; cases hb'
  obtain ⟨hr, hone⟩ := cellsOf_rep hx ho
  have hcs : c.length = s := hes c (List.mem_of_getElem? hi)
  have hvl : xv.cells.toList.length = (G.ti t).size := by rw [← hr.1]; exact hl
  have hvl' : xv.cells.size = (G.ti t).size := by simpa using hvl
  -- the row is long enough
  have hfit : i * s + j + (G.ti t).size ≤ cur.size := by
    have hpos : 0 < (G.ti t).size := Nat.pos_of_ne_zero h0
    have hlt : j + (G.ti t).size - 1 < c.length := by omega
    obtain ⟨_, u, hu, _⟩ := hcell i c (j + (G.ti t).size - 1) _ hi (List.getElem?_eq_getElem hlt)
    have := (Array.getElem?_eq_some_iff.1 hu).1
    omega
  have hst := run_storeCells_at G.P b (i * s + j) T xv.cells.toList 0 cur w hcur (by simpa [hvl'] using hfit) hone
  simp only [Nat.add_zero] at hst
  refine ⟨w.setRow b (cur.toList.take (i * s + j) ++ xv.cells.toList ++ cur.toList.drop (i * s + j + xv.cells.toList.length)).toArray, ?_,
    h.setRow hd hb hcur (es' := es.set i (setCells c j (cellsOf x))) (cells := (cur.toList.take (i * s + j) ++ xv.cells.toList ++ cur.toList.drop (i * s + j + xv.cells.toList.length)).toArray) ?_ ?_⟩
  · simp only [Instr.storeAt, Instr.sureAddr, Sem.run_bind, Sem.run_pure, Result.andThen_ok, storeVar, hG.size h0, hvl', ne_eq, not_true, if_false, hst]
  · intro e he
    rcases List.mem_or_eq_of_mem_set he with h' | h'
    · exact hes e h'
    · rw [h', setCells_length]; exact hcs
  · intro i' e j' y hi' hj'
    rw [List.getElem?_set] at hi'
    have hjs : j' < s := by
      have h1 := (List.getElem?_eq_some_iff.1 hj').1
      split at hi'
      · split at hi'
        · cases hi'; rw [setCells_length] at h1; omega
        · cases hi'
      · rw [hes e (List.mem_of_getElem? hi')] at h1; exact h1
    have hnew : ∀ k, ((cur.toList.take (i * s + j) ++ xv.cells.toList ++ cur.toList.drop (i * s + j + xv.cells.toList.length)).toArray)[k]? =
        if k < i * s + j then cur[k]? else if k < i * s + j + (G.ti t).size then xv.cells.toList[k - (i * s + j)]? else cur[k]? := by
      intro k
      simp only [List.getElem?_toArray]
      by_cases h1 : k < i * s + j
      · rw [if_pos h1, List.append_assoc, List.getElem?_append_left (by simp; omega), List.getElem?_take, if_pos h1]; simp
      · rw [if_neg h1]
        by_cases h2 : k < i * s + j + (G.ti t).size
        · rw [if_pos h2, List.getElem?_append_left (by simp; omega), List.getElem?_append_right (by simp; omega)]
          congr 1; simp; omega
        · rw [if_neg h2, List.getElem?_append_right (by simp; omega), List.getElem?_drop]
          simp only [Array.getElem?_toList]
          congr 1; simp; omega
    rw [hnew]
    have hset : ∀ (xs cs : List IV) (off k : Nat), (setCells cs off xs)[k]? = if off ≤ k ∧ k < off + xs.length ∧ k < cs.length then xs[k - off]? else cs[k]? := by
      intro xs
      induction xs with
      | nil => intro cs off k; simp only [setCells]; rw [if_neg (by simp; omega)]
      | cons z xs ih =>
        intro cs off k
        simp only [setCells]
        rw [ih]
        simp only [List.length_set, List.length_cons]
        by_cases h1 : off + 1 ≤ k ∧ k < off + 1 + xs.length ∧ k < cs.length
        · rw [if_pos h1, if_pos (by omega)]
          have : k - off = (k - (off + 1)) + 1 := by omega
          rw [this]; simp
        · rw [if_neg h1, List.getElem?_set]
          by_cases h2 : off = k
          · subst h2
            by_cases h3 : off < cs.length
            · simp [h3]
            · simp [h3]
          · rw [if_neg h2, if_neg (by omega)]
    by_cases hii : i = i'
    · subst hii
      have hil : i < es.length := (List.getElem?_eq_some_iff.1 hi).1
      simp only [hil, if_true, Option.some.injEq] at hi'
      subst hi'
      rw [hset] at hj'
      by_cases hin : j ≤ j' ∧ j' < j + (cellsOf x).length ∧ j' < c.length
      · rw [if_pos hin] at hj'
        rw [if_neg (by omega), if_pos (by omega)]
        have e : i * s + j' - (i * s + j) = j' - j := by omega
        rw [e]
        have hlt : j' - j < xv.cells.toList.length := by omega
        exact ⟨List.all_eq_true.1 ho y (List.mem_of_getElem? hj'), _, List.getElem?_eq_getElem hlt, hr.2 _ y _ hj' (List.getElem?_eq_getElem hlt)⟩
      · rw [if_neg hin] at hj'
        obtain ⟨h1, u, h2, h3⟩ := hcell i c j' y hi hj'
        refine ⟨h1, u, ?_, h3⟩
        split
        · exact h2
        · rw [if_neg (by omega)]; exact h2
    · rw [if_neg hii] at hi'
      obtain ⟨h1, u, h2, h3⟩ := hcell i' e j' y hi' hj'
      refine ⟨h1, u, ?_, h3⟩
      have hjs' : j + (G.ti t).size ≤ s := by omega
      rcases Nat.lt_or_gt_of_ne hii with hlt | hgt
      · have : (i + 1) * s ≤ i' * s := Nat.mul_le_mul_right _ hlt
        rw [Nat.add_mul] at this
        rw [if_neg (by omega), if_neg (by omega)]; exact h2
      · have : (i' + 1) * s ≤ i * s := Nat.mul_le_mul_right _ hgt
        rw [Nat.add_mul] at this
        rw [if_pos (by omega)]; exact h2
end
end Go.Abs

namespace Go.Abs
set_option linter.all false
open Go.RowKit (Below)

section
variable {G : Ctx} {N : Nat} {w0 w w' : World} {M M' M0 : Nat → Nat → Prop} {β β' : Nat → Option Nat} {st : St} {a : Act} {toks toks' : List (Nat × Nat × Nat)} {av : AV} {v : Value}

/-- The cells l lie from ad on, with the values g. -/
def CellsAt (w : World) (M : Nat → Nat → Prop) (ad : Addr) (l : List IV) (g : Nat → Value) : Prop :=
  ∀ (k : Nat) x, l[k]? = some x → x.one = true ∧ w.cell? (ad.add k) = some (g k) ∧ Rep w M x (g k)

theorem flatten_len {α : Type} {s : Nat} : ∀ {es : List (List α)}, (∀ e ∈ es, e.length = s) → es.flatten.length = es.length * s
  | [], _ => by simp
  | e :: es, h => by
    have h0 : e.length = s := h e (by simp)
    simp only [List.flatten_cons, List.length_append, List.length_cons, Nat.add_mul, Nat.one_mul]
    rw [flatten_len (fun x hx => h x (by simp [hx])), h0]; omega
theorem flatten_split {α : Type} {s : Nat} (hs : s ≠ 0) : ∀ {es : List (List α)} {k : Nat} {x : α}, (∀ e ∈ es, e.length = s) → es.flatten[k]? = some x → ∃ e, es[k / s]? = some e ∧ e[k % s]? = some x
  | [], k, x, _, h => by simp at h
  | e :: es, k, x, hl, h => by
    have h0 : e.length = s := hl e (by simp)
    simp only [List.flatten_cons] at h
    by_cases hk : k < s
    · rw [List.getElem?_append_left (by omega)] at h
      exact ⟨e, by rw [Nat.div_eq_of_lt hk]; rfl, by rw [Nat.mod_eq_of_lt hk]; exact h⟩
    · rw [List.getElem?_append_right (by omega), h0] at h
      obtain ⟨e', h1, h2⟩ := flatten_split hs (fun x hx => hl x (by simp [hx])) h
      have e1 : k / s = (k - s) / s + 1 := by rw [← Nat.add_div_right (k - s) (by omega)]; congr 1; omega
      have e2 : k % s = (k - s) % s := by rw [Nat.mod_eq_sub_mod (by omega)]
      exact ⟨e', by rw [e1]; simpa using h1, by rw [e2]; exact h2⟩

theorem sl_cells {es : List (List IV)} {s : Nat} (hs : s ≠ 0) (h : Rep w M (.sl es) v) (hl : ∀ e ∈ es, e.length = s) :
    ∃ ad c g, v = .slice ad es.length c ∧ es.length ≤ c ∧ (es ≠ [] → ∃ b o, ad = some ⟨b, o, none⟩ ∧ CellsAt w M ⟨b, o, none⟩ es.flatten g) := by
  rcases h.sl_inv with ⟨rfl, ad, c, rfl⟩ | ⟨s', b, o, c, u, hne, hs', hc, h4, h5, rfl⟩
  · exact ⟨ad, c, fun _ => undef, rfl, Nat.zero_le _, fun h => absurd rfl h⟩
  · have hss : s = s' := by
      cases es with
      | nil => exact absurd rfl hne
      | cons e es => rw [← hl e (by simp), hs' e (by simp)]
    subst hss
    refine ⟨_, c, fun k => u (k / s) (k % s), rfl, hc, fun _ => ⟨b, o, rfl, fun k x hx => ?_⟩⟩
    obtain ⟨e, h1, h2⟩ := flatten_split hs hl hx
    obtain ⟨h6, h7, _⟩ := h4 _ e _ x h1 h2
    refine ⟨h6, ?_, h5 _ e _ x h1 h2⟩
    rw [Addr.add_lit]
    have : o + k = o + k / s * s + k % s := by have := Nat.div_add_mod k s; rw [Nat.mul_comm] at this; omega
    rw [this]; exact h7

theorem mk_sl {es : List (List IV)} {s b o c : Nat} {g : Nat → Value} (hne : es ≠ []) (hl : ∀ e ∈ es, e.length = s) (hc : es.length ≤ c)
    (h : ∀ (k : Nat) x, es.flatten[k]? = some x → x.one = true ∧ w.cell? ⟨b, o + k, none⟩ = some (g k) ∧ ¬ M b (o + k) ∧ Rep w M x (g k)) :
    Rep w M (.sl es) (.slice (some ⟨b, o, none⟩) es.length c) :=
  .sl es s b o c (fun i j => g (i * s + j)) hne hl hc
    (fun i e j x hi hj => by
      obtain ⟨h1, h2, h3, _⟩ := h _ x (flatten_at hl hi hj)
      rw [← Nat.add_assoc] at h2 h3
      exact ⟨h1, h2, h3⟩)
    (fun i e j x hi hj => (h _ x (flatten_at hl hi hj)).2.2.2)

def tokSt (st : St) (src dst s n : Nat) : St := ⟨st.fr.map fun p => (p.1, p.2.purge dst), del st.rows dst, (dst, s, n) :: del (del st.toks src) dst⟩

theorem get_tokSt (st : St) (src dst s n t : Nat) : (tokSt st src dst s n).get t = (st.get t).purge dst := by
  simp only [St.get, tokSt]
  rw [look_map]
  cases look st.fr t <;> rfl
theorem tok_other {src dst s n k : Nat} {x : Nat × Nat} (hk : k ≠ dst) (h : look (tokSt st src dst s n).toks k = some x) : k ≠ src ∧ look st.toks k = some x := by
  simp only [tokSt, look, hk, if_false, look_del_ne _ hk] at h
  by_cases e : k = src
  · subst e; rw [look_del_same] at h; cases h
  · exact ⟨e, by rwa [look_del_ne _ e] at h⟩

theorem Sim.newTok (h : Sim N w0 M0 β st a w) {src dst s n : Nat} {X : Option Nat}
    (hk : Kept w (Mo M0 β st) w' (Mo M0 (upd β dst X) (tokSt st src dst s n))) (hbelow : Below w0.heap.size w0 w') (hsize : w.heap.size ≤ w'.heap.size)
    (hheap : ∀ k b, β k = some b → ((look st.rows k).isSome ∨ ((look st.toks k).isSome ∧ k ≠ src)) → w'.heap[b]? = w.heap[b]?)
    (hX : ∀ b, X = some b → w0.heap.size ≤ b ∧ b < w'.heap.size ∧ ∀ k, k ≠ src → k ≠ dst → ((look st.rows k).isSome ∨ (look st.toks k).isSome) → β k ≠ some b) :
    (src = dst ∨ (look st.rows src) = none) → Sim N w0 M0 (upd β dst X) (tokSt st src dst s n) a w' := fun hsrc => by
  have hrow : ∀ k x, look (tokSt st src dst s n).rows k = some x → k ≠ dst ∧ look st.rows k = some x := fun k x hk => by
    by_cases e : k = dst
    · subst e; simp [tokSt, look_del_same] at hk
    · exact ⟨e, by simpa [tokSt, look_del_ne _ e] using hk⟩
  refine ⟨h.size, h.defers, hbelow, h.m0, fun t => ?_, fun k s' es hk' => ?_, fun k s' n' hk' b hb => ?_, fun k k' b h1 h2 hb hb' => ?_, fun k hk' => ?_⟩
  · rw [get_tokSt]
    refine ((h.fr t).purge dst).move hk (fun k hr => upd_ne _ _ (purge_refs_ne hr).2) (fun k s' n' hr hl => (tok_other (purge_refs_ne hr).2 hl).2) (fun k b hl hr hb => ?_)
    obtain ⟨⟨s', n'⟩, hl'⟩ := Option.isSome_iff_exists.1 hl
    obtain ⟨h1, h2⟩ := tok_other (purge_refs_ne hr).2 hl'
    exact hheap k b hb (.inr ⟨by simp [h2], h1⟩)
  · obtain ⟨hne, hk2⟩ := hrow k _ hk'
    obtain ⟨b, h1, h2, h3⟩ := h.rows k s' es hk2
    exact ⟨b, by rw [upd_ne _ _ hne]; exact h1, h2, h3.move hk (hheap k b h1 (.inl (by simp [hk2])))⟩
  · by_cases e : k = dst
    · subst e; rw [upd_same] at hb
      exact ⟨(hX b hb).1, (hX b hb).2.1⟩
    · rw [upd_ne _ _ e] at hb
      obtain ⟨h1, h2⟩ := h.toks k s' n' (tok_other e hk').2 b hb
      exact ⟨h1, by omega⟩
  · have dom : ∀ k, ((look (tokSt st src dst s n).rows k).isSome ∨ (look (tokSt st src dst s n).toks k).isSome) → k ≠ dst → ((look st.rows k).isSome ∨ (look st.toks k).isSome) ∧ (k ≠ src ∨ (look st.rows k).isSome) := fun k hk hne => by
      rcases hk with hk | hk
      · obtain ⟨x, hx⟩ := Option.isSome_iff_exists.1 hk
        have := (hrow k x hx).2
        exact ⟨.inl (by simp [this]), .inr (by simp [this])⟩
      · obtain ⟨x, hx⟩ := Option.isSome_iff_exists.1 hk
        have := tok_other hne hx
        exact ⟨.inr (by simp [this.2]), .inl this.1⟩
    have ns : ∀ k, k ≠ dst → (k ≠ src ∨ (look st.rows k).isSome) → k ≠ src := fun k hne hk e => by
      subst e
      rcases hsrc with e | e
      · exact hne e
      · simp [e] at hk
    by_cases e : k = dst <;> by_cases e' : k' = dst
    · omega
    · subst e
      rw [upd_same] at hb; rw [upd_ne _ _ e'] at hb'
      obtain ⟨d1, d2⟩ := dom k' h2 e'
      exact absurd hb' ((hX b hb).2.2 k' (ns k' e' d2) e' d1)
    · subst e'
      rw [upd_same] at hb'; rw [upd_ne _ _ e] at hb
      obtain ⟨d1, d2⟩ := dom k h1 e
      exact absurd hb ((hX b hb').2.2 k (ns k e d2) e d1)
    · rw [upd_ne _ _ e] at hb; rw [upd_ne _ _ e'] at hb'
      exact h.inj k k' b (dom k h1 e).1 (dom k' h2 e').1 hb hb'
  · obtain ⟨x, hx⟩ := Option.isSome_iff_exists.1 hk'
    obtain ⟨hne, hk2⟩ := hrow k x hx
    have := h.excl k (by simp [hk2])
    simp only [tokSt, look, hne, if_false, look_del_ne _ hne]
    by_cases e : k = src
    · subst e; exact look_del_same _ _
    · rw [look_del_ne _ e]; exact this

/-- What the slice that is appended to is: its capacity is its length, or its spare belongs to the token src. -/
def Spare (w : World) (β : Nat → Option Nat) (st : St) (e : TypeId) (src s n : Nat) (v : Value) : Prop :=
  (∃ ad, v = .slice ad n n) ∨
  (look st.toks src = some (s, n) ∧ ∃ b cap cur, β src = some b ∧ v = .slice (some ⟨b, 0, none⟩) n cap ∧ w.heap[b]? = some (.cells cur e (0, 0)) ∧ n ≤ cap ∧ cap ≤ maxLen ∧ cur.size = cap * s)

theorem list_cells {ad : Addr} {l : List IV} {g : Nat → Value} (h : CellsAt w M ad l g) : ∀ j u, ((List.range l.length).map g)[j]? = some u → w.cell? (ad.add j) = some u := by
  intro j u hu
  rw [List.getElem?_map] at hu
  obtain ⟨j', hj', rfl⟩ := Option.map_eq_some_iff.1 hu
  have hjl : j < l.length := by have := (List.getElem?_eq_some_iff.1 hj').1; simpa using this
  obtain rfl : j = j' := by simpa [hjl] using hj'
  exact (h j _ (List.getElem?_eq_getElem hjl)).2.1

theorem append_run (hG : G.Ok) (h : Sim N w0 M0 β st a w) {t e ty : TypeId} {sv xv : Value} {es xs : List (List IV)} {src dst : Nat}
    (h0 : (G.ti t).size ≠ 0) (hk : (G.ti t).kind = .sl e) (h1 : (G.ti e).size ≠ 0) (hby : (G.ti e).bytes ≠ 0) (hle : ∀ c ∈ es, c.length = (G.ti e).size) (hlx : ∀ c ∈ xs, c.length = (G.ti e).size)
    (hbound : (es.length + xs.length) * (G.ti e).bytes ≤ 140737488355328)
    (hs : Rep w (Mo M0 β st) (.sl es) sv) (hsp : Spare w β st e src (G.ti e).size es.length sv) (hsrc : src = dst ∨ look st.rows src = none)
    (hx : ∃ ad c g, xv = .slice ad xs.length c ∧ (xs ≠ [] → ∃ b o, ad = some ⟨b, o, none⟩ ∧ CellsAt w (Mo M0 β st) ⟨b, o, none⟩ xs.flatten g)) :
    ∃ v' w' β', (Builtin.append_ #[t, t] ty #[sv, xv]).run G.P w = .ok v' w' ∧ Sim N w0 M0 β' (tokSt st src dst (G.ti e).size (es.length + xs.length)) a w' ∧
      RepA w' (Mo M0 β' (tokSt st src dst (G.ti e).size (es.length + xs.length))) β' (tokSt st src dst (G.ti e).size (es.length + xs.length)).toks (.vec dst e (G.ti e).size (es ++ xs)) v' := by
  have hu := hG.sl h0 hk
  obtain ⟨i, z, hi, hsz, hbt, hz, _, hzs⟩ := hG.info h1
  obtain ⟨xad, xc, gx, rfl, hxc⟩ := hx
  obtain ⟨sad, sc, gs, rfl, hsc, hsc'⟩ := sl_cells h1 hs hle
  have hle2 : ∀ c ∈ es ++ xs, c.length = (G.ti e).size := fun c hc => (List.mem_append.1 hc).elim (hle c) (hlx c)
  have hlen : (es ++ xs).length = es.length + xs.length := List.length_append
  generalize hS : (G.ti e).size = S at *
  have hfe : es.flatten.length = es.length * S := flatten_len hle
  have hfx : xs.flatten.length = xs.length * S := flatten_len hlx
  have hmax : es.length + xs.length ≤ 140737488355328 := Nat.le_trans (Nat.le_mul_of_pos_right _ (Nat.pos_of_ne_zero hby)) hbound
  have hXlt : ∀ b, β src = some b → look st.toks src = some (S, es.length) → ∀ k, k ≠ src → k ≠ dst → ((look st.rows k).isSome ∨ (look st.toks k).isSome) → β k ≠ some b :=
    fun b hb ht k hne _ hd hkb => hne (h.inj k src b hd (.inr (by simp [ht])) hkb hb)
  by_cases hx0 : xs = []
  · -- nothing is appended
    subst hx0
    simp only [List.append_nil, List.length_nil, Nat.add_zero] at *
    have hrun : (Builtin.append_ #[t, t] ty #[.slice sad es.length sc, .slice xad 0 xc]).run G.P w = .ok (.slice sad es.length sc) w := by
      cases xad <;> cases sad <;> simp [Builtin.append_, run_underlying hu, sizeOf, typeInfo, hi, Builtin.lenOf, Builtin.firstCells, loadCells, loadCellsFrom, storeCells, hsc]
    let X : Option Nat := if look st.toks src = some (S, es.length) then β src else none
    have hMo : ∀ b o, Mo M0 (upd β dst X) (tokSt st src dst S es.length) b o → Mo M0 β st b o := by
      rintro b o (hm | ⟨k, s', es', hk', hkb⟩ | ⟨k, s', n', hk', hkb, ho⟩)
      · exact .inl hm
      · by_cases e' : k = dst
        · subst e'; simp [tokSt, look_del_same] at hk'
        · rw [upd_ne _ _ e'] at hkb
          exact .inr (.inl ⟨k, s', es', by simpa [tokSt, look_del_ne _ e'] using hk', hkb⟩)
      · by_cases e' : k = dst
        · subst e'
          rw [upd_same] at hkb
          simp only [tokSt, look, if_true, Option.some.injEq, Prod.mk.injEq] at hk'
          obtain ⟨rfl, rfl⟩ := hk'
          by_cases ht : look st.toks src = some (S, es.length)
          · have : X = β src := if_pos ht
            rw [this] at hkb
            exact .inr (.inr ⟨src, S, es.length, ht, hkb, ho⟩)
          · have : X = none := if_neg ht
            rw [this] at hkb; cases hkb
        · rw [upd_ne _ _ e'] at hkb
          exact .inr (.inr ⟨k, s', n', (tok_other e' hk').2, hkb, ho⟩)
    have hkept : Kept w (Mo M0 β st) w (Mo M0 (upd β dst X) (tokSt st src dst S es.length)) := Kept.less w hMo
    refine ⟨_, w, upd β dst X, hrun, h.newTok hkept h.below (Nat.le_refl _) (fun _ _ _ _ => rfl) (fun b hb => ?_) hsrc, hs.kept hkept, hle, fun _ => ?_⟩
    · by_cases ht : look st.toks src = some (S, es.length)
      · have : X = β src := if_pos ht
        rw [this] at hb
        obtain ⟨h2, h3⟩ := h.toks src _ _ ht b hb
        exact ⟨h2, h3, hXlt b hb ht⟩
      · have : X = none := if_neg ht
        rw [this] at hb; cases hb
    · rcases hsp with ⟨ad, hsp⟩ | ⟨ht, b, cap, cur, hb, hsp, hh, hcap⟩
      · exact .inl ⟨ad, hsp⟩
      · refine .inr ⟨b, cap, cur, ?_, hsp, hh, hcap⟩
        rw [upd_same]
        have : X = β src := if_pos ht
        rw [this]; exact hb
  · have hxpos : 0 < xs.length := List.length_pos_iff.2 hx0
    obtain ⟨xb, xo, rfl, hxcells⟩ := hxc hx0
    have hne2 : es ++ xs ≠ [] := by simp [hx0]
    have hnews : ∀ j u, ((List.range xs.flatten.length).map gx)[j]? = some u → w.cell? ((⟨xb, xo, none⟩ : Addr).add j) = some u := list_cells hxcells
    have hnl : ((List.range xs.flatten.length).map gx).length = xs.length * i.size := by simp [hfx, hsz]
    have hol : ((List.range es.flatten.length).map gs).length = es.length * i.size := by simp [hfe, hsz]
    have h1c : ∀ u ∈ (List.range xs.flatten.length).map gx, u.oneCell' = true := by
      intro u hu'
      obtain ⟨j, hj, rfl⟩ := List.mem_map.1 hu'
      have hjl : j < xs.flatten.length := by simpa using hj
      obtain ⟨h2, _, h3⟩ := hxcells j _ (List.getElem?_eq_getElem hjl)
      exact h3.oneCell h2
    -- the flattened cells and the values of both
    have hval : ∀ (w2 : World) (M2 : Nat → Nat → Prop), Kept w (Mo M0 β st) w2 M2 → ∀ k x, (es ++ xs).flatten[k]? = some x →
        x.one = true ∧ Rep w2 M2 x (if k < es.flatten.length then gs k else gx (k - es.flatten.length)) := by
      intro w2 M2 hkp k x hkx
      rw [List.flatten_append] at hkx
      by_cases hlt : k < es.flatten.length
      · rw [List.getElem?_append_left hlt] at hkx
        have hesne : es ≠ [] := fun e' => by subst e'; simp at hlt
        obtain ⟨b, o, _, hc⟩ := hsc' hesne
        obtain ⟨h2, _, h3⟩ := hc k x hkx
        rw [if_pos hlt]
        exact ⟨h2, h3.kept hkp⟩
      · rw [List.getElem?_append_right (by omega)] at hkx
        obtain ⟨h2, _, h3⟩ := hxcells _ x hkx
        rw [if_neg hlt]
        exact ⟨h2, h3.kept hkp⟩
    have hflen : (es ++ xs).flatten.length = (es.length + xs.length) * S := by rw [flatten_len hle2, hlen]
    have hseq : ∀ (R : List Value) k, k < (es ++ xs).flatten.length → ((List.range es.flatten.length).map gs ++ (List.range xs.flatten.length).map gx ++ R)[k]? = some (if k < es.flatten.length then gs k else gx (k - es.flatten.length)) := by
      intro R k hkl
      rw [List.flatten_append, List.length_append] at hkl
      rw [List.getElem?_append_left (by simp only [List.length_append, List.length_map, List.length_range]; omega)]
      by_cases hlt : k < es.flatten.length
      · rw [List.getElem?_append_left (by simp only [List.length_map, List.length_range]; exact hlt), if_pos hlt, List.getElem?_map, List.getElem?_range hlt]; rfl
      · rw [List.getElem?_append_right (by simp only [List.length_map, List.length_range]; omega), if_neg hlt]
        simp only [List.length_map, List.length_range]
        rw [List.getElem?_map, List.getElem?_range (by omega)]; rfl
    by_cases hroom : es.length + xs.length ≤ sc
    · -- in place
      rcases hsp with ⟨ad, hsp⟩ | ⟨ht, b, cap, cur, hb, hsp, hh, hcap, hcm, hcs⟩
      · exfalso; simp only [Value.slice.injEq] at hsp; omega
      · simp only [Value.slice.injEq, true_and] at hsp
        obtain ⟨rfl, rfl⟩ := hsp
        have hfit : es.length * i.size + ((List.range xs.flatten.length).map gx).length ≤ cur.size := by
          rw [hnl, hcs, ← Nat.add_mul, hsz]; exact Nat.mul_le_mul_right _ hroom
        have hrun := run_append_room (P := G.P) w t ty e i hu hi b es.length sc cur hh ⟨xb, xo, none⟩ xs.length xc _ hnl hnews h1c hroom hfit
        rw [hnl, hsz] at hrun
        generalize hcells : (cur.toList.take (es.length * S) ++ (List.range xs.flatten.length).map gx ++ cur.toList.drop (es.length * S + xs.length * S)).toArray = cells at hrun
        have hbw := h.toks src _ _ ht b hb
        have hother : ∀ k, k ≠ b → (w.setRow b cells).heap[k]? = w.heap[k]? := fun k hk => setRow_other w b k cells hk
        have hb' : (w.setRow b cells).heap[b]? = some (.cells cells e (0, 0)) := heap_setRow w b cells cur e hh
        have hcsz : cells.size = cur.size := by
          rw [← hcells]
          simp only [List.size_toArray, List.length_append, List.length_take, List.length_drop, Array.length_toList, List.length_map, List.length_range, hfx]
          rw [hnl, hsz] at hfit; omega
        have hcell : ∀ k, k < (es.length + xs.length) * S → cells[k]? = if k < es.length * S then cur[k]? else some (gx (k - es.length * S)) := by
          intro k hkl
          rw [Nat.add_mul] at hkl
          rw [← hcells]
          have hfit' : es.length * S + xs.length * S ≤ cur.size := by rw [hnl, hsz] at hfit; exact hfit
          simp only [List.getElem?_toArray]
          rw [List.getElem?_append_left (by simp [hfx]; omega)]
          by_cases hlt : k < es.length * S
          · rw [List.getElem?_append_left (by simp; omega), if_pos hlt, List.getElem?_take, if_pos hlt]; simp
          · rw [List.getElem?_append_right (by simp; omega), if_neg hlt]
            have : (List.take (es.length * S) cur.toList).length = es.length * S := by simp; omega
            rw [this, List.getElem?_map, List.getElem?_range (by rw [hfx]; omega)]; rfl
        have hMo : ∀ b' o, b' ≠ b ∨ o < es.length * S → ¬ Mo M0 β st b' o → ¬ Mo M0 (upd β dst (some b)) (tokSt st src dst S (es.length + xs.length)) b' o := by
          intro b' o hbo hn hm
          rcases hm with hm | ⟨k, s', es', hk', hkb⟩ | ⟨k, s', n', hk', hkb, ho⟩
          · exact hn (.inl hm)
          · by_cases e' : k = dst
            · subst e'; simp [tokSt, look_del_same] at hk'
            · rw [upd_ne _ _ e'] at hkb
              exact hn (.inr (.inl ⟨k, s', es', by simpa [tokSt, look_del_ne _ e'] using hk', hkb⟩))
          · by_cases e' : k = dst
            · subst e'
              rw [upd_same] at hkb
              cases hkb
              simp only [tokSt, look, if_true, Option.some.injEq, Prod.mk.injEq] at hk'
              obtain ⟨rfl, rfl⟩ := hk'
              rw [Nat.add_mul] at ho
              rcases hbo with hbo | hbo
              · exact hbo rfl
              · omega
            · rw [upd_ne _ _ e'] at hkb
              exact hn (.inr (.inr ⟨k, s', n', (tok_other e' hk').2, hkb, ho⟩))
        have hkept : Kept w (Mo M0 β st) (w.setRow b cells) (Mo M0 (upd β dst (some b)) (tokSt st src dst S (es.length + xs.length))) := by
          intro b' o u hc hn
          by_cases e' : b' = b
          · subst e'
            have holt : o < es.length * S := by
              rcases Nat.lt_or_ge o (es.length * S) with h' | h'
              · exact h'
              · exact absurd (.inr (.inr ⟨src, S, es.length, ht, hb, h'⟩)) hn
            refine ⟨?_, hMo _ _ (.inr holt) hn⟩
            rw [cell_of_row _ b' _ cells e _ hb', hcell o (by rw [Nat.add_mul]; omega), if_pos holt]
            rw [cell_of_row _ b' _ cur e _ hh] at hc
            exact hc
          · refine ⟨?_, hMo _ _ (.inl e') hn⟩
            rw [World.cell?_of_block (w := w) (a := ⟨b', o, none⟩) (hother b' e')]; exact hc
        have hsim := h.newTok (w' := w.setRow b cells) (src := src) (dst := dst) (s := S) (n := es.length + xs.length) (X := some b) hkept
          (h.below.trans ⟨rfl, rfl, rfl, by simp, fun k hk => hother k (by omega)⟩) (by simp)
          (fun k b' hkb hd => hother b' (fun e' => by
            subst e'
            rcases hd with hd | ⟨hd, hne⟩
            · have := h.inj k src b' (.inl hd) (.inr (by simp [ht])) hkb hb
              subst this
              rw [h.excl k hd] at ht; cases ht
            · exact hne (h.inj k src b' (.inr hd) (.inr (by simp [ht])) hkb hb)))
          (fun b' hb2 => by cases hb2; exact ⟨hbw.1, by simpa using hbw.2, hXlt _ hb ht⟩) hsrc
        refine ⟨_, _, _, hrun, hsim, ?_, hle2, fun _ => .inr ⟨b, sc, cells, upd_same _ _ _, by rw [hlen], hb', by rw [hlen]; exact hroom, hcm, by rw [hcsz, hcs]⟩⟩
        have hmk := mk_sl (w := w.setRow b cells) (M := Mo M0 (upd β dst (some b)) (tokSt st src dst S (es.length + xs.length))) (b := b) (o := 0) (c := sc)
          (g := fun k => if k < es.flatten.length then gs k else gx (k - es.flatten.length)) hne2 hle2 (by rw [hlen]; exact hroom) (fun k x hkx => ?_)
        · rw [hlen] at hmk; exact hmk
        have hkl := (List.getElem?_eq_some_iff.1 hkx).1
        obtain ⟨h2, h3⟩ := hval _ _ hkept k x hkx
        rw [Nat.zero_add]
        refine ⟨h2, ?_, ?_, h3⟩
        · rw [hflen] at hkl
          rw [cell_of_row _ b _ cells e _ hb', hcell k hkl, hfe]
          by_cases hlt : k < es.length * S
          · rw [if_pos hlt, if_pos hlt]
            have hesne : es ≠ [] := fun e' => by subst e'; simp at hlt
            obtain ⟨b2, o2, e2, hc⟩ := hsc' hesne
            simp only [Option.some.injEq, Addr.mk.injEq, and_true] at e2
            obtain ⟨rfl, rfl⟩ := e2
            obtain ⟨_, h4, _⟩ := hc k _ (List.getElem?_eq_getElem (by rw [hfe]; exact hlt))
            rw [Addr.add_lit, Nat.zero_add, cell_of_row _ b _ cur e _ hh] at h4
            exact h4
          · rw [if_neg hlt, if_neg hlt]
        · by_cases hlt : k < es.length * S
          · have hesne : es ≠ [] := fun e' => by subst e'; simp at hlt
            -- an old cell: it may be read, so it is none of M
            rcases hs.sl_inv with ⟨e', _⟩ | ⟨s', b2, o2, c2, u2, _, hs2, _, h4, _, he2⟩
            · exact absurd e' hesne
            · simp only [Value.slice.injEq, Option.some.injEq, Addr.mk.injEq, and_true, true_and] at he2
              obtain ⟨⟨rfl, rfl⟩, rfl⟩ := he2
              obtain ⟨e3, h5, h6⟩ := flatten_split h1 hle (List.getElem?_eq_getElem (l := es.flatten) (i := k) (by rw [hfe]; exact hlt))
              have hss : s' = S := by rw [← hs2 e3 (List.mem_of_getElem? h5), hle e3 (List.mem_of_getElem? h5)]
              subst hss
              have := (h4 _ e3 _ _ h5 h6).2.2
              have hidx : 0 + k / s' * s' + k % s' = k := by have := Nat.div_add_mod k s'; rw [Nat.mul_comm] at this; omega
              rw [hidx] at this
              exact hMo _ _ (.inr hlt) this
          · rw [hflen] at hkl
            intro hm
            rcases hm with hm | ⟨k2, s', es', hk', hkb⟩ | ⟨k2, s', n', hk', hkb, ho⟩
            · have := h.m0 b k hm; omega
            · by_cases e' : k2 = dst
              · subst e'; simp [tokSt, look_del_same] at hk'
              · rw [upd_ne _ _ e'] at hkb
                have hk2 : look st.rows k2 = some (s', es') := by simpa [tokSt, look_del_ne _ e'] using hk'
                have := h.inj k2 src b (.inl (by simp [hk2])) (.inr (by simp [ht])) hkb hb
                subst this
                rw [h.excl k2 (by simp [hk2])] at ht; cases ht
            · by_cases e' : k2 = dst
              · subst e'
                simp only [tokSt, look, if_true, Option.some.injEq, Prod.mk.injEq] at hk'
                obtain ⟨rfl, rfl⟩ := hk'
                omega
              · rw [upd_ne _ _ e'] at hkb
                have hk2 := tok_other e' hk'
                exact hk2.1 (h.inj k2 src b (.inr (by simp [hk2.2])) (.inr (by simp [ht])) hkb hb)
    · -- a new array
      have hgrow : ∃ cap cells, (Builtin.append_ #[t, t] ty #[.slice sad es.length sc, .slice (some ⟨xb, xo, none⟩) xs.length xc]).run G.P w =
            .ok (.slice (some ⟨w.heap.size, 0, none⟩) (es.length + xs.length) cap) (w.drew.alloc (.cells cells e)) ∧ es.length + xs.length ≤ cap ∧ cap ≤ maxLen ∧ cells.size = cap * S ∧
            ∃ R : List Value, cells.toList = (List.range es.flatten.length).map gs ++ (List.range xs.flatten.length).map gx ++ R := by
        have hm63 : es.length + xs.length ≤ maxLen := by unfold maxLen; omega
        have hcs : ∀ old, ((List.range es.flatten.length).map gs ++ (List.range xs.flatten.length).map gx).length + (Builtin.zeroCells z.cells (grownCap w (es.length + xs.length) old e - (es.length + xs.length))).size = grownCap w (es.length + xs.length) old e * S := by
          intro old
          have hge := grownCap_ge w (es.length + xs.length) old e
          simp only [List.length_append, List.length_map, List.length_range, hfe, hfx, size_zeroCells, hzs, ← Nat.add_mul]
          congr 1; omega
        cases sad with
        | none =>
          have hes0 : es = [] := by
            rcases Classical.em (es = []) with h' | h'
            · exact h'
            · obtain ⟨_, _, e', _⟩ := hsc' h'; cases e'
          subst hes0
          have hc0 : sc = 0 := by
            rcases hsp with ⟨ad, hsp⟩ | ⟨_, b, cap, cur, _, hsp, _⟩
            · simp only [Value.slice.injEq] at hsp; exact hsp.2.2
            · simp at hsp
          subst hc0
          simp only [List.length_nil, Nat.zero_add, List.flatten_nil, List.range_zero, List.map_nil, List.nil_append] at *
          have hr := run_append_nil (P := G.P) w t ty e i z hu hi hz ⟨xb, xo, none⟩ xs.length xc _ hnl hnews hxpos (by omega) (by rw [hbt]; omega)
          refine ⟨_, _, hr, grownCap_ge _ _ _ _, grownCap_le_maxLen _ _ _ _ hm63, ?_, (Builtin.zeroCells z.cells (grownCap w xs.length 0 e - xs.length)).toList, by rw [Array.toList_append]⟩
          rw [Array.size_append, List.size_toArray]
          exact hcs 0
        | some ad =>
          have holds : ∀ j u, ((List.range es.flatten.length).map gs)[j]? = some u → w.cell? (ad.add j) = some u := by
            rcases Classical.em (es = []) with h' | h'
            · subst h'; intro j u hu'; simp at hu'
            · obtain ⟨b, o, e', hc⟩ := hsc' h'
              cases e'
              exact list_cells hc
          have hr := run_append_grow (P := G.P) w t ty e i z hu hi hz ad es.length sc _ hol holds ⟨xb, xo, none⟩ xs.length xc _ hnl hnews (by omega) (by omega) (growslice_fits (by omega) (by rw [hbt]; exact hbound))
          refine ⟨_, _, hr, grownCap_ge _ _ _ _, grownCap_le_maxLen _ _ _ _ hm63, ?_, (Builtin.zeroCells z.cells (grownCap w (es.length + xs.length) sc e - (es.length + xs.length))).toList, by rw [Array.toList_append, Array.toList_append]⟩
          have := hcs sc
          rw [Array.size_append, Array.size_append, List.size_toArray, List.size_toArray, ← this, List.length_append]
      obtain ⟨cap, cells, hrun, hcap, hcm, hcs, R, hR⟩ := hgrow
      have hnb : ∀ b o, Mo M0 (upd β dst (some w.heap.size)) (tokSt st src dst S (es.length + xs.length)) b o → b ≠ w.heap.size → Mo M0 β st b o := by
        rintro b o (hm | ⟨k, s', es', hk', hkb⟩ | ⟨k, s', n', hk', hkb, ho⟩) hne
        · exact .inl hm
        · by_cases e' : k = dst
          · subst e'; simp [tokSt, look_del_same] at hk'
          · rw [upd_ne _ _ e'] at hkb
            exact .inr (.inl ⟨k, s', es', by simpa [tokSt, look_del_ne _ e'] using hk', hkb⟩)
        · by_cases e' : k = dst
          · subst e'; rw [upd_same] at hkb; cases hkb; exact absurd rfl hne
          · rw [upd_ne _ _ e'] at hkb
            exact .inr (.inr ⟨k, s', n', (tok_other e' hk').2, hkb, ho⟩)
      have hold : ∀ b, b < w.heap.size → (w.drew.alloc (.cells cells e)).heap[b]? = w.heap[b]? := fun b hb => Below.heap_alloc w.drew _ b hb
      have hkept : Kept w (Mo M0 β st) (w.drew.alloc (.cells cells e)) (Mo M0 (upd β dst (some w.heap.size)) (tokSt st src dst S (es.length + xs.length))) := by
        intro b o u hc hn
        have hb : b < w.heap.size := World.block_lt_of_cell? (a := ⟨b, o, none⟩) w hc
        exact ⟨by rw [World.cell?_of_block (w := w) (a := ⟨b, o, none⟩) (hold b hb)]; exact hc, fun hm => hn (hnb b o hm (by omega))⟩
      have hdomlt : ∀ k b, ((look st.rows k).isSome ∨ (look st.toks k).isSome) → β k = some b → b < w.heap.size := fun k b hd hkb => by
        rcases hd with hd | hd
        · obtain ⟨⟨s', es'⟩, hl⟩ := Option.isSome_iff_exists.1 hd
          exact h.mlt (o := 0) (.inr (.inl ⟨k, s', es', hl, hkb⟩))
        · obtain ⟨⟨s', n'⟩, hl⟩ := Option.isSome_iff_exists.1 hd
          exact (h.toks k s' n' hl b hkb).2
      have hsim := h.newTok (w' := w.drew.alloc (.cells cells e)) (src := src) (dst := dst) (s := S) (n := es.length + xs.length) (X := some w.heap.size) hkept
        ((h.below.drew).alloc (by simpa using h.below.size) _) (by simp)
        (fun k b hkb hd => hold b (hdomlt k b (hd.imp id (·.1)) hkb))
        (fun b hb2 => by cases hb2; exact ⟨h.below.size, by simp, fun k _ _ hd hkb => absurd (hdomlt k _ hd hkb) (by omega)⟩) hsrc
      have hb' : (w.drew.alloc (.cells cells e)).heap[w.heap.size]? = some (.cells cells e (0, 0)) := heap_alloc_new w.drew _
      refine ⟨_, _, _, hrun, hsim, ?_, hle2, fun _ => .inr ⟨w.heap.size, cap, cells, upd_same _ _ _, by rw [hlen], hb', by rw [hlen]; exact hcap, hcm, hcs⟩⟩
      have hmk := mk_sl (w := w.drew.alloc (.cells cells e)) (M := Mo M0 (upd β dst (some w.heap.size)) (tokSt st src dst S (es.length + xs.length))) (b := w.heap.size) (o := 0) (c := cap)
        (g := fun k => if k < es.flatten.length then gs k else gx (k - es.flatten.length)) hne2 hle2 (by rw [hlen]; exact hcap) (fun k x hkx => ?_)
      · rw [hlen] at hmk; exact hmk
      have hkl := (List.getElem?_eq_some_iff.1 hkx).1
      obtain ⟨h2, h3⟩ := hval _ _ hkept k x hkx
      rw [Nat.zero_add]
      refine ⟨h2, ?_, ?_, h3⟩
      · rw [cell_of_row _ w.heap.size _ cells e _ hb', ← Array.getElem?_toList, hR]
        exact hseq R k hkl
      · rintro (hm | ⟨k2, s', es', hk', hkb⟩ | ⟨k2, s', n', hk', hkb, ho⟩)
        · have := h.m0 _ _ hm; have := h.below.size; omega
        · by_cases e' : k2 = dst
          · subst e'; simp [tokSt, look_del_same] at hk'
          · rw [upd_ne _ _ e'] at hkb
            exact absurd (hdomlt k2 _ (.inl (by have : look st.rows k2 = some (s', es') := by simpa [tokSt, look_del_ne _ e'] using hk'
                                                simp [this])) hkb) (by omega)
        · by_cases e' : k2 = dst
          · subst e'
            simp only [tokSt, look, if_true, Option.some.injEq, Prod.mk.injEq] at hk'
            obtain ⟨rfl, rfl⟩ := hk'
            rw [hflen] at hkl; omega
          · rw [upd_ne _ _ e'] at hkb
            exact absurd (hdomlt k2 _ (.inr (by simp [(tok_other e' hk').2])) hkb) (by omega)
end
end Go.Abs

namespace Go.Abs
set_option linter.all false
open Go.RowKit (Below)

/-- A function with a body of its own. -/
def callable (P : Program) (f : FuncId) : Bool :=
  match P.funcs[f]? with
  | some fn => fn.name != "runtime.NumGoroutine" && fn.body.isSome
  | none => false
structure Ctx.Good (G : Ctx) : Prop where
  ok : G.Ok
  fn : ∀ f, (3 ≤ f ∧ f < G.fns) → callable G.P f = true
  mixed : G.P.follows .mixedOrders = true

def St.newRow (st : St) (d s : Nat) (es : List (List IV)) : St :=
  ⟨(d, .loc d s 0 0) :: (st.fresh d).fr, (d, s, es) :: (st.fresh d).rows, (st.fresh d).toks⟩
def St.newArr (st : St) (d s : Nat) (es : List (List IV)) : St :=
  ⟨(d, .osl d s 0 es.length) :: (st.fresh d).fr, (d, s, es) :: (st.fresh d).rows, (st.fresh d).toks⟩
def undefA : AV := .im (.sc undef)

def elemsOf (st : St) : AV → Option (List (List IV))
  | .osl d s i n => match look st.rows d with
    | some (s', es) => if s' = s ∧ i + n ≤ es.length then some ((es.drop i).take n) else none
    | none => none
  | x => sliceEls x
/-- The token under which a slice may be appended to. -/
def appTok (st : St) (e s dst : Nat) : AV → Option (Nat × List (List IV))
  | .sx es => some (dst, es)
  | .vec d e' s' es => if e' = e ∧ s' = s ∧ look st.toks d = some (s, es.length) ∧ (d = dst ∨ look st.rows d = none) then some (d, es) else none
  | _ => none

def aAppend (G : Ctx) (K : St → Prop) (st : St) (dst : Option Nat) (ts : List TypeId) (args : List Operand) : Prop :=
  match dst, ts, args with
  | some d, [t, t'], [s, x] =>
    match (G.ti t).kind with
    | .sl e =>
      match appTok st e (G.ti e).size d (evO st s), elemsOf st (evO st x) with
      | some (src, es), some xs =>
        t = t' ∧ (G.ti t).size ≠ 0 ∧ (G.ti e).size ≠ 0 ∧ (G.ti e).bytes ≠ 0 ∧ (∀ c ∈ es, c.length = (G.ti e).size) ∧ (∀ c ∈ xs, c.length = (G.ti e).size) ∧
        (es.length + xs.length) * (G.ti e).bytes ≤ 140737488355328 ∧
        K ((tokSt st src d (G.ti e).size (es.length + xs.length)).put (some d) (.vec d e (G.ti e).size (es ++ xs)))
      | _, _ => False
    | _ => False
  | _, _, _ => False

/-- WHAT A FUNCTION DOES that returns a slice whose spare nobody else has: it returns these elements; the capacity is the length, or the spare lies in a block that it made. -/
def CtrV (P : Program) (f : FuncId) (args : List IV) (e : TypeId) (s : Nat) (es : List (List IV)) : Prop :=
  ∀ (w : World) (M : Nat → Nat → Prop) (vs : List Value), (∀ b o, M b o → b < w.heap.size) → RepL w M args vs →
    Calls P f vs.toArray w fun en w' => ∃ v, en = .returned v ∧ Below w.heap.size w w' ∧ (Rep w' M (.sl es) v ∧ (∃ ad, v = .slice ad es.length es.length) ∨
      ∃ b cap cur, w.heap.size ≤ b ∧ b < w'.heap.size ∧ Rep w' (fun b' o => M b' o ∨ (b' = b ∧ es.length * s ≤ o)) (.sl es) v ∧ v = .slice (some ⟨b, 0, none⟩) es.length cap ∧ w'.heap[b]? = some (.cells cur e (0, 0)) ∧ es.length ≤ cap ∧ cap ≤ maxLen ∧ cur.size = cap * s)

def aCall (G : Ctx) (K : St → Prop) (st : St) (dst : Option Nat) (f : Operand) (args : List Operand) : Prop :=
  match evO st f, ivsOf (args.map (evO (st.lendOs args))) with
  | .im (.clo g caps), some xs =>
    (3 ≤ g ∧ g < G.fns) ∧ ((∃ φ : IV → Prop, Ctr G.P g (xs ++ caps) φ ∧ ∀ r, φ r → K ((if flatB r = true then st else st.lendOs args).put dst (.im r))) ∨
      ∃ d e s es, dst = some d ∧ CtrV G.P g (xs ++ caps) e s es ∧ (∀ c ∈ es, c.length = s) ∧ K ((tokSt (st.lendOs args) d d s es.length).put (some d) (.vec d e s es)))
  | _, _ => False

def aStore (G : Ctx) (K : St → Prop) (st : St) (dst : Option Nat) (t : TypeId) (p x : Operand) : Prop :=
  match ivOf (evO st x), evO st p with
  | some y, .loc d s i j => match look st.rows d with
    | some (s', es) => match es[i]? with
      | some c => s' = s ∧ (G.ti t).size ≠ 0 ∧ (cellsOf y).length = (G.ti t).size ∧ (cellsOf y).all IV.one = true ∧ j + (G.ti t).size ≤ c.length ∧
          K (St.put { st with rows := setRow st.rows d s (es.set i (setCells c j (cellsOf y))) } dst undefA)
      | none => False
    | none => False
  | _, _ => False

def aMake (G : Ctx) (K : St → Prop) (st : St) (dst : Option Nat) (t : TypeId) (l c : AV) : Prop :=
  match dst, l, c with
  | some d, .im (.sc (.int _ n)), .im (.sc (.int _ m)) => match (G.ti t).kind with
    | .sl e => match zeroIV G e with
      | some z => (G.ti t).size ≠ 0 ∧ n = m ∧ 0 ≤ n ∧ n * (G.ti e).bytes ≤ 140737488355328 ∧ (G.ti e).bytes ≠ 0 ∧ K (st.newArr d (G.ti e).size (List.replicate n.toNat z))
      | none => False
    | _ => False
  | _, _, _ => False

def aVal (G : Ctx) (K : St → Prop) (st : St) (o : Oper) : Prop :=
  match yv G st o with
  | some av => K (st.put o.dst av)
  | none => False

def isSl : TK → Bool
  | .sl _ => true
  | _ => false
/-- A slice held against nil: an empty one may be nil or not. -/
def aNil (G : Ctx) (K : St → Prop) (st : St) (dst : Option Nat) (op : BinOp) (t : TypeId) (x : Operand) : Prop :=
  match sliceEls (evO st x), op with
  | some es, .eql => (G.ti t).size ≠ 0 ∧ isSl (G.ti t).kind = true ∧ ∀ b : Bool, (b = true → es = []) → K (st.put dst (.im (.sc (.bool b))))
  | some es, .neq => (G.ti t).size ≠ 0 ∧ isSl (G.ti t).kind = true ∧ ∀ b : Bool, (b = true → es = []) → K (st.put dst (.im (.sc (.bool !b))))
  | _, _ => False
def aBin (G : Ctx) (K : St → Prop) (st : St) (o : Oper) (op : BinOp) (t : TypeId) (x y : Operand) : Prop :=
  match y with
  | .const (.slice none 0 0) => aNil G K st o.dst op t x
  | _ => aVal G K st o

def aop (G : Ctx) (o : Oper) (K : St → Prop) (st : St) : Prop :=
  match o.op with
  | .box _ x => match o.dst, ivOf (evO (st.lendO x) x) with
    | some d, some y => (cellsOf y).all IV.one = true ∧ K ((st.lendO x).newRow d (cellsOf y).length [cellsOf y])
    | _, _ => False
  | .alloc t => match o.dst, zeroIV G t with
    | some d, some z => K (st.newRow d z.length [z])
    | _, _ => False
  | .store t p x => aStore G K (st.lendO x) o.dst t p x
  | .makeSlice t l c => aMake G K st o.dst t (evO st l) (evO st c)
  | .makeFunc _ _ caps => aVal G K (st.lendOs caps.toList) o
  | .binOp op t x y _ => aBin G K st o op t x y
  | .call c => match c.callee with
    | .value f => aCall G K st o.dst f c.args.toList
    | .builtin b => match b with
      | .append => aAppend G K st o.dst c.argTypes.toList c.args.toList
      | _ => aVal G K st o
    | _ => False
  | _ => aVal G K st o

section
variable {G : Ctx} {N : Nat} {w0 w w' : World} {M M' M0 : Nat → Nat → Prop} {β β' : Nat → Option Nat} {st : St} {a : Act} {toks toks' : List (Nat × Nat × Nat)} {av : AV} {v : Value}

theorem Sim.newRowPut (h : Sim N w0 M0 β st a w) {d s : Nat} {es : List (List IV)} {cells : Array Value} {T : TypeId} (hd : d < N) (hes : ∀ e ∈ es, e.length = s)
    (hr : ∀ (i : Nat) e (j : Nat) x, es[i]? = some e → e[j]? = some x → x.one = true ∧ ∃ u, cells[i * s + j]? = some u ∧ Rep w (Mo M0 β st) x u) :
    Sim N w0 M0 (upd β d (some w.heap.size)) (st.newRow d s es) (a.put (some d) (.pointer (some ⟨w.heap.size, 0, none⟩))) (w.alloc (.cells cells T)) := by
  have h1 := (h.fresh d).newRow (T := T) (clean_fresh st d) hes (fun i e j x hi hj => by
    obtain ⟨h1, u, h2, h3⟩ := hr i e j x hi hj
    exact ⟨h1, u, h2, h3.less fun b o hm => Mo_fresh hm⟩)
  exact h1.put (dst := some d) (av := .loc d s 0 0) (fun d' e => by cases e; exact hd) ⟨w.heap.size, upd_same _ _ _, by simp⟩
theorem Sim.newArrPut (h : Sim N w0 M0 β st a w) {d s : Nat} {es : List (List IV)} {cells : Array Value} {T : TypeId} (hd : d < N) (hes : ∀ e ∈ es, e.length = s)
    (hr : ∀ (i : Nat) e (j : Nat) x, es[i]? = some e → e[j]? = some x → x.one = true ∧ ∃ u, cells[i * s + j]? = some u ∧ Rep w (Mo M0 β st) x u) :
    Sim N w0 M0 (upd β d (some w.heap.size)) (st.newArr d s es) (a.put (some d) (.slice (some ⟨w.heap.size, 0, none⟩) es.length es.length)) (w.alloc (.cells cells T)) := by
  have h1 := (h.fresh d).newRow (T := T) (clean_fresh st d) hes (fun i e j x hi hj => by
    obtain ⟨h1, u, h2, h3⟩ := hr i e j x hi hj
    exact ⟨h1, u, h2, h3.less fun b o hm => Mo_fresh hm⟩)
  exact h1.put (dst := some d) (av := .osl d s 0 es.length) (fun d' e => by cases e; exact hd) ⟨_, _, Nat.le_refl _, rfl, fun _ => ⟨w.heap.size, upd_same _ _ _, by simp⟩⟩

theorem one_row {w : World} {M} {y : IV} {yv : Value} (hy : Rep w M y yv) (ho : (cellsOf y).all IV.one = true) :
    ∀ (i : Nat) e (j : Nat) x, [cellsOf y][i]? = some e → e[j]? = some x → x.one = true ∧ ∃ u, yv.cells[i * (cellsOf y).length + j]? = some u ∧ Rep w M x u := by
  intro i e j x hi hj
  obtain ⟨hr, _⟩ := cellsOf_rep hy ho
  cases i with
  | succ i => simp at hi
  | zero =>
    simp at hi; subst hi
    have hlt : j < yv.cells.toList.length := by rw [← hr.1]; exact (List.getElem?_eq_some_iff.1 hj).1
    have hu := List.getElem?_eq_getElem hlt
    refine ⟨List.all_eq_true.1 ho x (List.mem_of_getElem? hj), _, ?_, hr.2 j x _ hj hu⟩
    rw [Nat.zero_mul, Nat.zero_add, ← Array.getElem?_toList]; exact hu

theorem callFunc_run {P : Program} {f : FuncId} (hf : callable P f = true) (args : Array Value) (w : World) : (callFunc f args).run P w = .ok (.enter f args) w := by
  unfold callable at hf
  split at hf
  · rename_i fn hfn
    simp only [Bool.and_eq_true, bne_iff_ne, ne_eq, Option.isSome_iff_exists] at hf
    obtain ⟨hn, c, hc⟩ := hf
    simp [callFunc, hfn, hn, hc]
  · cases hf

theorem osl_cells (h : Sim N w0 M0 β st a w) {d s i n : Nat} {es : List (List IV)} (hs : s ≠ 0) (hd : look st.rows d = some (s, es)) (hin : i + n ≤ es.length) (hv : RepA w (Mo M0 β st) β st.toks (.osl d s i n) v) :
    ∃ ad c g, v = .slice ad ((es.drop i).take n).length c ∧ ((es.drop i).take n ≠ [] → ∃ b o, ad = some ⟨b, o, none⟩ ∧ CellsAt w (Mo M0 β st) ⟨b, o, none⟩ ((es.drop i).take n).flatten g) := by
  obtain ⟨ad, c, hc, rfl, had⟩ := hv
  have hlen : ((es.drop i).take n).length = n := by simp; omega
  obtain ⟨b', hb', _, cur, T, hcur, hall, hcell⟩ := h.rows d s es hd
  refine ⟨ad, c, fun k => cur.getD (i * s + k) undef, by rw [hlen], fun hne => ?_⟩
  have hn0 : n ≠ 0 := fun e => hne (by subst e; simp)
  obtain ⟨b, hb, rfl⟩ := had hn0
  rw [hb] at hb'; cases hb'
  refine ⟨_, i * s, rfl, fun k x hk => ?_⟩
  have hall' : ∀ e ∈ (es.drop i).take n, e.length = s := fun e he => hall e (List.mem_of_mem_drop (List.mem_of_mem_take he))
  obtain ⟨e, h1, h2⟩ := flatten_split hs hall' hk
  have h1' : es[i + k / s]? = some e := by
    rw [List.getElem?_take] at h1
    split at h1
    · rwa [List.getElem?_drop] at h1
    · cases h1
  obtain ⟨ho, u, hu, hr⟩ := hcell _ e _ x h1' h2
  have hidx : (i + k / s) * s + k % s = i * s + k := by rw [Nat.add_mul]; have := Nat.div_add_mod k s; rw [Nat.mul_comm] at this; omega
  rw [hidx] at hu
  have hg : cur.getD (i * s + k) undef = u := by simp [hu]
  refine ⟨ho, ?_, by show Rep w _ x (cur.getD (i * s + k) undef); rw [hg]; exact hr⟩
  show _ = some (cur.getD (i * s + k) undef)
  rw [hg, Addr.add_lit, cell_of_row w _ _ cur T _ hcur, hu]

theorem elemsOf_cells (h : Sim N w0 M0 β st a w) {x : AV} {xs : List (List IV)} {s : Nat} (hs : s ≠ 0) (hx : elemsOf st x = some xs) (hl : ∀ c ∈ xs, c.length = s) (hv : RepA w (Mo M0 β st) β st.toks x v) (hos : ∀ d s' i n, x = .osl d s' i n → s' = s ∨ xs = []) :
    ∃ ad c g, v = .slice ad xs.length c ∧ (xs ≠ [] → ∃ b o, ad = some ⟨b, o, none⟩ ∧ CellsAt w (Mo M0 β st) ⟨b, o, none⟩ xs.flatten g) := by
  unfold elemsOf at hx
  split at hx
  · rename_i d s' i n
    split at hx
    · rename_i s2 es hd
      split at hx
      · rename_i hc
        obtain ⟨rfl, hin⟩ := hc
        cases hx
        rcases hos d s2 i n rfl with e | e
        · subst e; exact osl_cells h hs hd hin hv
        · obtain ⟨ad, c, hc, rfl, had⟩ := hv
          have hlen : ((es.drop i).take n).length = n := by simp; omega
          exact ⟨ad, c, fun _ => undef, by rw [hlen], fun hne => absurd e hne⟩
      · cases hx
    · cases hx
  · obtain ⟨ad, c, g, h1, _, h3⟩ := sl_cells hs (sliceEls_rep hv hx) hl
    exact ⟨ad, c, g, h1, h3⟩

theorem aVal_sound (hG : G.Good) (h : Sim N w0 M0 β st a w) {o : Oper} {K : St → Prop} (hd : ∀ d, o.dst = some d → d < N) (hA : aVal G K st o) {K' : Act → World → Prop} {Q' : Exit → Act → World → Prop}
    (hK : ∀ st' β' a' w', K st' → Sim N w0 M0 β' st' a' w' → K' a' w') : o.wp G.P a w K' Q' := by
  unfold aVal at hA
  split at hA
  · rename_i av hy
    obtain ⟨v, w', hr, hb, hv⟩ := yv_run hG.ok h hy
    unfold Oper.wp
    rw [hr]
    exact hK _ β _ _ hA ((h.ext hb).put hd hv)
  · exact hA.elim

theorem aCall_sound (hG : G.Good) (h : Sim N w0 M0 β st a w) {o : Oper} {c : Call} {f : Operand} {K : St → Prop} (ho : o.op = .call c) (hc : c.callee = .value f) (hd : ∀ d, o.dst = some d → d < N)
    (hA : aCall G K st o.dst f c.args.toList) {K' : Act → World → Prop} {Q' : Exit → Act → World → Prop} (hK : ∀ st' β' a' w', K st' → Sim N w0 M0 β' st' a' w' → K' a' w') : o.wp G.P a w K' Q' := by
  unfold aCall at hA
  split at hA
  · rename_i g caps xs hf hxs
    obtain ⟨hg, hA⟩ := hA
    have hl := h.lendOs c.args.toList
    have hargs := ivsOf_rep hl hxs
    have hfv := evO_rep h f
    rw [hf] at hfv
    obtain ⟨vs, hfe, hcaps⟩ := Rep.clo_inv hfv
    have hlM : ∀ b o, Mo M0 β (st.lendOs c.args.toList) b o → Mo M0 β st b o := by
      have : ∀ (xs : List Operand) (s : St), ∀ b o, Mo M0 β (s.lendOs xs) b o → Mo M0 β s b o := by
        intro xs
        induction xs with
        | nil => intro s b o hm; exact hm
        | cons x xs ih =>
          intro s b o hm
          have h1 := ih (s.lendO x) b o hm
          unfold St.lendO at h1
          split at h1
          · unfold St.lend at h1; split at h1
            · exact Mo_del h1
            · exact h1
          · unfold St.lend at h1; split at h1
            · exact Mo_del h1
            · exact h1
          · exact h1
      exact this _ _
    have hcaps' : RepL w (Mo M0 β (st.lendOs c.args.toList)) caps vs.toList := hcaps.kept (Kept.less w hlM)
    have hall : RepL w (Mo M0 β (st.lendOs c.args.toList)) (xs ++ caps) ((c.args.map a.eval) ++ vs).toList := by
      refine ⟨?_, fun k x v hx hv => ?_⟩
      · have h1 := hargs.1; have h2 := hcaps'.1
        simp at h1 h2
        simp [h1, h2]
      · rw [Array.toList_append, Array.toList_map] at hv
        have h1 := hargs.1
        by_cases hk : k < xs.length
        · rw [List.getElem?_append_left hk] at hx
          rw [List.getElem?_append_left (by omega)] at hv
          exact hargs.2 k x v hx hv
        · rw [List.getElem?_append_right (by omega)] at hx
          rw [List.getElem?_append_right (by omega), ← h1] at hv
          exact hcaps'.2 _ x v hx hv
    have hrun : (execOp a.eval o).run G.P w = .ok (.enter g (c.args.map a.eval ++ vs)) w := by
      unfold execOp
      rw [ho]
      simp only [resolve, hc, hfe, Deferred.ofValue, Sem.run_bind, Sem.run_pure, Result.andThen_ok, Array.empty_append, invoke, callFunc_run (hG.fn g hg)]
    rcases hA with ⟨φ, hctr, hKφ⟩ | ⟨d, e, s, es, hdst, hctr, hes, hKv⟩
    · have hcalls := hctr w (Mo M0 β (st.lendOs c.args.toList)) _ (fun b o hm => hl.mlt hm) hall
      unfold Oper.wp
      rw [hrun, Oper.upon_enter]
      rw [Array.toArray_toList] at hcalls
      refine hcalls.mono fun e w' ⟨r, v, hr, he, hv, hb⟩ => ?_
      subst he
      have := hKφ r hr
      by_cases hfl : flatB r = true
      · rw [if_pos hfl] at this
        exact hK _ β _ _ this ((h.ext hb).put hd (Rep.flat hv (flatB_flat hfl)))
      · rw [if_neg hfl] at this
        exact hK _ β _ _ this ((hl.ext hb).put hd hv)
    · have hcalls := hctr w (Mo M0 β (st.lendOs c.args.toList)) _ (fun b o hm => hl.mlt hm) hall
      unfold Oper.wp
      rw [hrun, Oper.upon_enter]
      rw [Array.toArray_toList] at hcalls
      refine hcalls.mono fun en w' ⟨v, he, hb, hv⟩ => ?_
      subst he
      have key : ∃ X : Option Nat, (∀ b, X = some b → w.heap.size ≤ b ∧ b < w'.heap.size) ∧ RepA w' (Mo M0 (upd β d X) (tokSt (st.lendOs c.args.toList) d d s es.length)) (upd β d X) ((d, s, es.length) :: del (del (st.lendOs c.args.toList).toks d) d) (.vec d e s es) v := by
        have hmo : ∀ X b o, Mo M0 (upd β d X) (tokSt (st.lendOs c.args.toList) d d s es.length) b o → Mo M0 β (st.lendOs c.args.toList) b o ∨ (X = some b ∧ es.length * s ≤ o) := by
          rintro X b o (hm | ⟨d', s', es', hd', hb'⟩ | ⟨d', s', n', hd', hb', ho'⟩)
          · exact .inl (.inl hm)
          · have hne : d' ≠ d := fun e => by subst e; simp [tokSt, look_del_same] at hd'
            rw [upd_ne _ _ hne] at hb'
            simp only [tokSt, look_del_ne _ hne] at hd'
            exact .inl (.inr (.inl ⟨d', s', es', hd', hb'⟩))
          · by_cases hne : d' = d
            · subst hne
              rw [upd_same] at hb'
              simp only [tokSt, look_cons_same, Option.some.injEq, Prod.mk.injEq] at hd'
              obtain ⟨rfl, rfl⟩ := hd'
              exact .inr ⟨hb', ho'⟩
            · rw [upd_ne _ _ hne] at hb'
              have := (tok_other hne hd').2
              exact .inl (.inr (.inr ⟨d', s', n', this, hb', ho'⟩))
        rcases hv with ⟨hr, hc⟩ | ⟨b, cap, cur, h1, h2, h3, h4, h5, h6, h7, h8⟩
        · refine ⟨none, (by simp), hr.less fun b o hm => ?_, hes, fun _ => .inl hc⟩
          rcases hmo none b o hm with hm | ⟨e, _⟩
          · exact hm
          · cases e
        · refine ⟨some b, (fun b' e => by cases e; exact ⟨h1, h2⟩), h3.less fun b' o hm => ?_, hes, fun _ => .inr ⟨b, cap, cur, upd_same _ _ _, h4, h5, h6, h7, h8⟩⟩
          rcases hmo _ b' o hm with hm | ⟨e, ho⟩
          · exact .inl hm
          · cases e; exact .inr ⟨rfl, ho⟩
      obtain ⟨X, hX, hrep⟩ := key
      have hsim := hl.newTok (w' := w') (src := d) (dst := d) (s := s) (n := es.length) (X := X) ?_ (hl.below.trans (hb.mono hl.below.size)) hb.size ?_ ?_ (.inl rfl)
      · rw [hdst]
        exact hK _ _ _ _ hKv (hsim.put (fun d' e' => by cases e'; exact hd d hdst) hrep)
      · intro b o u hc hm
        have hbl : b < w.heap.size := World.block_lt_of_cell? (a := ⟨b, o, none⟩) w hc
        refine ⟨by rw [← hc]; exact hb.cell hbl, ?_⟩
        rintro (hm' | ⟨d', s', es', hd', hb'⟩ | ⟨d', s', n', hd', hb', ho'⟩)
        · exact hm (.inl hm')
        · have hne : d' ≠ d := fun e => by subst e; simp [tokSt, look_del_same] at hd'
          rw [upd_ne _ _ hne] at hb'
          simp only [tokSt, look_del_ne _ hne] at hd'
          exact hm (.inr (.inl ⟨d', s', es', hd', hb'⟩))
        · by_cases hne : d' = d
          · subst hne
            rw [upd_same] at hb'
            have := (hX b hb').1
            omega
          · rw [upd_ne _ _ hne] at hb'
            exact hm (.inr (.inr ⟨d', s', n', (tok_other hne hd').2, hb', ho'⟩))
      · intro k b hk hlk
        have hbl : b < w.heap.size := by
          rcases hlk with h1 | ⟨h1, _⟩
          · obtain ⟨⟨s', es'⟩, hx⟩ := Option.isSome_iff_exists.1 h1
            obtain ⟨b', hb', _, cur, T, hcur, _⟩ := hl.rows k s' es' hx
            rw [hk] at hb'; cases hb'
            exact (Array.getElem?_eq_some_iff.1 hcur).1
          · obtain ⟨⟨s', n'⟩, hx⟩ := Option.isSome_iff_exists.1 h1
            exact (hl.toks k s' n' hx b hk).2
        exact hb.block b hbl
      · intro b hXb
        obtain ⟨h1, h2⟩ := hX b hXb
        refine ⟨by have := hl.below.size; omega, h2, fun k _ _ hlk hk => ?_⟩
        rcases hlk with h3 | h3
        · obtain ⟨⟨s', es'⟩, hx⟩ := Option.isSome_iff_exists.1 h3
          obtain ⟨b', hb', _, cur, T, hcur, _⟩ := hl.rows k s' es' hx
          rw [hk] at hb'; cases hb'
          have := (Array.getElem?_eq_some_iff.1 hcur).1
          omega
        · obtain ⟨⟨s', n'⟩, hx⟩ := Option.isSome_iff_exists.1 h3
          have := (hl.toks k s' n' hx b hk).2
          omega
  · exact hA.elim

theorem aop_sound (hG : G.Good) (h : Sim N w0 M0 β st a w) {o : Oper} {K : St → Prop} (hd : ∀ d, o.dst = some d → d < N) (hA : aop G o K st) {K' : Act → World → Prop} {Q' : Exit → Act → World → Prop}
    (hK : ∀ st' β' a' w', K st' → Sim N w0 M0 β' st' a' w' → K' a' w') : o.wp G.P a w K' Q' := by
  unfold aop at hA
  split at hA
  · -- box
    rename_i t x ho
    split at hA
    · rename_i d y hdst hy
      obtain ⟨hone, hA⟩ := hA
      have hl := h.lendO x
      have hr := ivOf_rep (evO_rep hl x) hy
      have hrow := one_row hr hone
      have := hl.newRowPut (T := t) (hd d hdst) (es := [cellsOf y]) (fun e he => by simp at he; rw [he]) hrow
      unfold Oper.wp execOp
      rw [ho]
      simp only [Instr.box, newVar, newRow, Sem.run_bind, run_newObj, Result.andThen_ok, Sem.run_pure, World.alloc_eq, Oper.upon_value, hdst]
      exact hK _ _ _ _ hA this
    · exact hA.elim
  · -- alloc
    rename_i t ho
    split at hA
    · rename_i d z hdst hz
      obtain ⟨zv, hzr, hz1, hz2, _, hzs⟩ := zeroIV_run hG.ok hz w (Mo M0 β st)
      have hrow : ∀ (i : Nat) e (j : Nat) x, [z][i]? = some e → e[j]? = some x → x.one = true ∧ ∃ u, zv.cells[i * z.length + j]? = some u ∧ Rep w (Mo M0 β st) x u := by
        intro i e j x hi hj
        cases i with
        | succ i => simp at hi
        | zero =>
          simp at hi; subst hi
          have hlt : j < zv.cells.toList.length := by rw [← hz1.1]; exact (List.getElem?_eq_some_iff.1 hj).1
          have hu := List.getElem?_eq_getElem hlt
          refine ⟨hz2 x (List.mem_of_getElem? hj), _, ?_, hz1.2 j x _ hj hu⟩
          rw [Nat.zero_mul, Nat.zero_add, ← Array.getElem?_toList]; exact hu
      have := h.newRowPut (T := t) (hd d hdst) (es := [z]) (fun e he => by simp at he; rw [he]) hrow
      unfold Oper.wp execOp
      rw [ho]
      simp only [Instr.alloc, Sem.run_bind, hzr, Result.andThen_ok, newVar, newRow, run_newObj, Sem.run_pure, World.alloc_eq, Oper.upon_value, hdst]
      exact hK _ _ _ _ hA this
    · exact hA.elim
  · -- store
    rename_i t p x ho
    unfold aStore at hA
    split at hA
    · rename_i y d s i j hy hp
      split at hA
      · rename_i s' es hrow
        split at hA
        · rename_i c hi
          obtain ⟨rfl, h0, hl, hone, hj, hA⟩ := hA
          have hls := h.lendO x
          have hr := ivOf_rep (evO_rep hls x) hy
          have hpv := evO_rep hls p
          rw [hp] at hpv
          obtain ⟨w', hrun, hsim⟩ := store_run hG.ok hls h0 hrow hi hl hone hj hpv hr
          unfold Oper.wp execOp
          rw [ho]
          simp only [Sem.run_bind, hrun, Result.andThen_ok, Sem.run_pure, Oper.upon_skip]
          exact hK _ _ _ _ hA (hsim.put hd (Rep.sc _ rfl))
        · exact hA.elim
      · exact hA.elim
    · exact hA.elim
  · -- makeSlice
    rename_i t l c ho
    unfold aMake at hA
    split at hA
    · rename_i d k n k' m hdst hl hc
      split at hA
      · rename_i e hk
        split at hA
        · rename_i z hz
          obtain ⟨h0, rfl, hn, hb, hb0, hA⟩ := hA
          obtain ⟨zv, hzr, hz1, hz2, h1, hzs⟩ := zeroIV_run hG.ok hz w (Mo M0 β st)
          obtain ⟨i, z', hi, hsz, hbt, hz', _⟩ := hG.ok.info h1
          have hzz : zv = z' := by
            simp [zeroValue, typeInfo, hi, hz'] at hzr
            exact hzr.symm
          subst hzz
          have hu := hG.ok.sl h0 hk
          have hlv := evO_rep h l; rw [hl] at hlv
          have hcv := evO_rep h c; rw [hc] at hcv
          have hb1 : n ≤ 140737488355328 := by
            have h2 : n * 1 ≤ n * ((G.ti e).bytes : Int) := Int.mul_le_mul_of_nonneg_left (by omega) hn
            omega
          have hmk := run_make (P := G.P) w t e i zv hu hi hz' k k' n n hn (Int.le_refl _) (by rw [hbt, Int.mul_comm]; omega) (by omega)
          have hzlen : z.length = (G.ti e).size := by have := hz1.1; simp at this; omega
          have hrow : ∀ (i' : Nat) e' (j : Nat) x, (List.replicate n.toNat z)[i']? = some e' → e'[j]? = some x → x.one = true ∧ ∃ u, (madeCells zv.cells (n.toNat * i.size))[i' * (G.ti e).size + j]? = some u ∧ Rep w (Mo M0 β st) x u := by
            intro i' e' j x hi' hj
            rw [List.getElem?_replicate] at hi'
            split at hi'
            · rename_i hlt
              cases hi'
              have hjl : j < zv.cells.toList.length := by rw [← hz1.1]; exact (List.getElem?_eq_some_iff.1 hj).1
              have hu := List.getElem?_eq_getElem hjl
              have hjs : j < (G.ti e).size := by simp at hjl; omega
              refine ⟨hz2 x (List.mem_of_getElem? hj), _, ?_, hz1.2 j x _ hj hu⟩
              have hin : i' * (G.ti e).size + j < n.toNat * (G.ti e).size := by
                have : (i' + 1) * (G.ti e).size ≤ n.toNat * (G.ti e).size := Nat.mul_le_mul_right _ hlt
                rw [Nat.add_mul] at this; omega
              have hmod : (i' * (G.ti e).size + j) % zv.cells.size = j := by
                rw [hzs, Nat.mul_comm, Nat.mul_add_mod]; exact Nat.mod_eq_of_lt hjs
              have hjz : j < zv.cells.size := by simpa using hjl
              simp [madeCells, hsz, hin, hmod, hjz]
            · cases hi'
          have := h.newArrPut (T := e) (hd d hdst) (es := List.replicate n.toNat z) (fun e' he => by rw [List.eq_of_mem_replicate he]; exact hzlen) hrow
          rw [List.length_replicate] at this
          unfold Oper.wp execOp
          rw [ho]
          simp only [Rep.sc_inv hlv, Rep.sc_inv hcv, Sem.run_bind, hmk, Result.andThen_ok, Sem.run_pure, Oper.upon_value, hdst]
          exact hK _ _ _ _ hA this
        · exact hA.elim
      · exact hA.elim
    · exact hA.elim
  · -- makeFunc
    exact aVal_sound hG (h.lendOs _) hd hA hK
  · -- binOp
    rename_i op t x y u ho
    unfold aBin at hA
    split at hA
    · have key : ∀ es, sliceEls (evO st x) = some es → (G.ti t).size ≠ 0 → isSl (G.ti t).kind = true → ∃ b : Bool, (b = true → es = []) ∧
          (op = .eql → (execOp a.eval o).run G.P w = .ok (.value (.bool b)) w) ∧ (op = .neq → (execOp a.eval o).run G.P w = .ok (.value (.bool !b)) w) := by
        intro es hes h0 hk
        obtain ⟨ad, c, hv, _⟩ := (sliceEls_rep (evO_rep h x) hes).sl_len
        unfold isSl at hk
        split at hk
        · rename_i e' hk'
          have hu := hG.ok.sl h0 hk'
          refine ⟨ad.isNone, fun hn => ?_, ?_⟩
          · have hr := sliceEls_rep (evO_rep h x) hes
            rw [hv] at hr
            rcases hr.sl_inv with ⟨rfl, _⟩ | ⟨s', b, o', cap, u', hne, hs', hcap, h4, h5, he⟩
            · rfl
            · simp only [Value.slice.injEq] at he
              rw [he.1] at hn; simp at hn
          · have heq : ∀ d, (Op.equalIn (d + 1) t (.slice ad es.length c) (.slice none 0 0)).run G.P w = .ok ad.isNone w := by
              intro d
              cases ad <;> simp [Op.equalIn, run_underlying hu]
            have heq' : (Op.equal t (.slice ad es.length c) (.slice none 0 0)).run G.P w = .ok ad.isNone w := heq _
            constructor
            · intro e; subst e
              unfold execOp; rw [ho]; dsimp only
              have : a.eval (.const (.slice none 0 0)) = .slice none 0 0 := rfl
              rw [this, hv]
              simp [eqGuard, binOp, heq']
            · intro e; subst e
              unfold execOp; rw [ho]; dsimp only
              have : a.eval (.const (.slice none 0 0)) = .slice none 0 0 := rfl
              rw [this, hv]
              simp [eqGuard, binOp, heq']
        · cases hk
      unfold aNil at hA
      split at hA
      · rename_i es hes
        obtain ⟨h0, h1, hA⟩ := hA
        obtain ⟨b, hb, hrun, _⟩ := key es hes h0 h1
        unfold Oper.wp
        rw [hrun rfl]
        exact hK _ β _ _ (hA b hb) (h.put hd (Rep.sc _ rfl))
      · rename_i es hes
        obtain ⟨h0, h1, hA⟩ := hA
        obtain ⟨b, hb, _, hrun⟩ := key es hes h0 h1
        unfold Oper.wp
        rw [hrun rfl]
        exact hK _ β _ _ (hA b hb) (h.put hd (Rep.sc _ rfl))
      · exact hA.elim
    · exact aVal_sound hG h hd hA hK
  · -- call
    rename_i c ho
    split at hA
    · rename_i f hc
      exact aCall_sound hG h ho hc hd hA hK
    · rename_i b hc
      split at hA
      · -- append
        unfold aAppend at hA
        split at hA
        · rename_i d t t' s x hdst hts has
          split at hA
          · rename_i e hk
            split at hA
            · rename_i src es xs hsrc hxs
              obtain ⟨rfl, h0, h1, hby, hle, hlx, hbound, hA⟩ := hA
              have hsv := evO_rep h s
              have hxv := evO_rep h x
              have hkey : Rep w (Mo M0 β st) (.sl es) (a.eval s) ∧ Spare w β st e src (G.ti e).size es.length (a.eval s) ∧ (src = d ∨ look st.rows src = none) := by
                unfold appTok at hsrc
                split at hsrc
                · rename_i es' hes
                  cases hsrc
                  rw [hes] at hsv
                  exact ⟨hsv.1, .inl hsv.2, .inl rfl⟩
                · rename_i d' e' s' es' hes
                  split at hsrc
                  · rename_i hcc
                    obtain ⟨rfl, rfl, htok, hdd⟩ := hcc
                    cases hsrc
                    rw [hes] at hsv
                    refine ⟨hsv.1, ?_, hdd⟩
                    rcases hsv.2.2 htok with hh | hh
                    · exact .inl hh
                    · exact .inr ⟨htok, hh⟩
                  · cases hsrc
                · cases hsrc
              have hos : ∀ d' s' i n, evO st x = .osl d' s' i n → s' = (G.ti e).size ∨ xs = [] := by
                intro d' s' i n hx
                rw [hx] at hxs
                simp only [elemsOf] at hxs
                split at hxs
                · rename_i s2 es2 hrow
                  split at hxs
                  · rename_i hcc
                    obtain ⟨rfl, hin⟩ := hcc
                    cases hxs
                    by_cases hnil : (es2.drop i).take n = []
                    · exact .inr hnil
                    · left
                      obtain ⟨c0, hc0⟩ := List.exists_mem_of_ne_nil _ hnil
                      obtain ⟨_, _, _, _, _, _, hall, _⟩ := h.rows d' s2 es2 hrow
                      rw [← hlx c0 hc0, hall c0 (List.mem_of_mem_drop (List.mem_of_mem_take hc0))]
                  · cases hxs
                · cases hxs
              have hxc := elemsOf_cells h h1 hxs hlx hxv hos
              obtain ⟨v', w', β', hrun, hsim, hrep⟩ := append_run (ty := o.type) hG.ok h h0 hk h1 hby hle hlx hbound hkey.1 hkey.2.1 hkey.2.2 hxc
              have hat : c.argTypes = #[t, t] := by apply Array.ext'; simpa using hts
              have haa : c.args = #[s, x] := by apply Array.ext'; simpa using has
              unfold Oper.wp execOp
              rw [ho]
              simp only [resolve, hc, hat, haa, invoke, builtin, Sem.run_bind, Sem.run_pure, Result.andThen_ok, List.map_toArray, List.map_cons, List.map_nil, hrun, Oper.upon_value, hdst]
              exact hK _ _ _ _ hA (hsim.put (fun d' e' => by cases e'; exact hd d hdst) hrep)
            · exact hA.elim
          · exact hA.elim
        · exact hA.elim
      · exact aVal_sound hG h hd hA hK
    · exact hA.elim
  · exact aVal_sound hG h hd hA hK
end
end Go.Abs

namespace Go.Abs
set_option linter.all false
open Go.RowKit (Below)

/-- What a guard's operation has yielded: some (some b): b; some none: no bool. -/
def yieldA (st : St) (ops : List Oper) (j : Nat) : Option (Option Bool) :=
  match ops[j]? with
  | some o => match o.dst with
    | some t => match st.get t with
      | .im (.sc (.bool b)) => some (some b)
      | .im (.sc _) => some none
      | _ => none
    | none => none
  | none => none

def alist (G : Ctx) (ops : List Oper) (K : St → Prop) : List Oper → St → Prop
  | [], st => K st
  | o :: r, st => match o.guard with
    | none => aop G o (alist G ops K r) st
    | some (j, want) => match yieldA st ops j with
      | some (some b) => (b = want → aop G o (alist G ops K r) st) ∧ (b ≠ want → alist G ops K r (st.put o.dst undefA))
      | some none => alist G ops K r (st.put o.dst undefA)
      | none => False

def aq (G : Ctx) (st : St) (o : Oper) (K : AV → Prop) : Prop :=
  match o.op with
  | .call c => match c.callee with
    | .value f => match evO st f, ivsOf (c.args.toList.map (evO st)) with
      | .im (.clo g caps), some xs => (3 ≤ g ∧ g < G.fns) ∧ ∃ r, Ctr G.P g (xs ++ caps) (· = r) ∧ K (.im r)
      | _, _ => False
    | _ => match yv G st o with
      | some av => K av
      | none => False
  | _ => match yv G st o with
    | some av => K av
    | none => False

def ahead (G : Ctx) (ops : List Oper) (K : St → Prop) : List Oper → St → Prop
  | [], st => K st
  | o :: r, st => match o.guard with
    | none => aq G st o fun av => ahead G ops K r (st.put o.dst av)
    | some (j, want) => match yieldA st ops j with
      | some (some b) => (b = want → aq G st o fun av => ahead G ops K r (st.put o.dst av)) ∧ (b ≠ want → ahead G ops K r (st.put o.dst undefA))
      | some none => ahead G ops K r (st.put o.dst undefA)
      | none => False

section
variable {G : Ctx} {N : Nat} {w0 w w' : World} {M0 : Nat → Nat → Prop} {β : Nat → Option Nat} {st st' : St} {a : Act} {ops : List Oper}

theorem yieldA_some (h : Sim N w0 M0 β st a w) {j : Nat} {b : Bool} (hy : yieldA st ops j = some (some b)) : yielded ops.toArray a.tmps j = some b := by
  unfold yieldA at hy
  split at hy
  · rename_i o ho
    split at hy
    · rename_i t ht
      split at hy
      · rename_i b' hb
        cases hy
        have hr := h.fr t
        rw [hb] at hr
        have hv := Rep.sc_inv hr
        have hlt : t < a.tmps.size := by
          rcases Nat.lt_or_ge t a.tmps.size with h' | h'
          · exact h'
          · simp [Array.getElem?_eq_none h', undef] at hv
        have : a.tmps[t]? = some (.bool b) := by
          rw [Array.getElem?_eq_getElem hlt]; simp [hlt] at hv; rw [hv]
        have ho' : ops.toArray[j]? = some o := by simpa using ho
        simp [yielded, ho', ht, this]
      · cases hy
      · cases hy
    · cases hy
  · cases hy
theorem yieldA_none (h : Sim N w0 M0 β st a w) {j : Nat} (hy : yieldA st ops j = some none) : ∀ b, yielded ops.toArray a.tmps j ≠ some b := by
  unfold yieldA at hy
  split at hy
  · rename_i o ho
    split at hy
    · rename_i t ht
      split at hy
      · cases hy
      · rename_i v hb hv
        have hr := h.fr t
        rw [hv] at hr
        have hv' := Rep.sc_inv hr
        intro b hyb
        have ho' : ops.toArray[j]? = some o := by simpa using ho
        unfold yielded at hyb
        simp only [ho', Option.bind_some, ht] at hyb
        split at hyb
        · rename_i b' hb'
          have : a.tmps.getD t undef = .bool b' := by simp [hb']
          rw [this] at hv'
          exact hb b' (by rw [← hv'])
        · cases hyb
      · cases hy
    · cases hy
  · cases hy

theorem alist_sound (hG : G.Good) {K : St → Prop} {Q' : Exit → Act → World → Prop} (hK : ∀ st' β' a' w', K st' → Sim N w0 M0 β' st' a' w' → Q' .normal a' w') :
    ∀ (l : List Oper) (st : St) (β : Nat → Option Nat) (a : Act) (w : World), (∀ o ∈ l, ∀ d, o.dst = some d → d < N) → alist G ops K l st → Sim N w0 M0 β st a w → wpList G.P ops.toArray Q' l a w
  | [], st, β, a, w, _, hA, h => hK st β a w hA h
  | o :: l, st, β, a, w, hd, hA, h => by
    have ih := alist_sound hG hK l
    have hd0 := hd o (by simp)
    have hd' : ∀ o ∈ l, ∀ d, o.dst = some d → d < N := fun o ho => hd o (by simp [ho])
    unfold alist at hA
    unfold wpList
    split at hA
    · rename_i hg
      have hw : Region.wanted o (yielded ops.toArray a.tmps) = true := by simp [Region.wanted, hg]
      rw [if_pos hw]
      exact .inl (aop_sound hG h hd0 hA fun st' β' a' w' hk hs => ih st' β' a' w' hd' hk hs)
    · rename_i j want hg
      have skip : Region.wanted o (yielded ops.toArray a.tmps) = false → alist G ops K l (st.put o.dst undefA) →
          (if Region.wanted o (yielded ops.toArray a.tmps) = true then o.wp G.P a w (wpList G.P ops.toArray Q' l) Q' ∨ (o.asks G.P a w ∧ LetsOut Q') else wpList G.P ops.toArray Q' l (a.put o.dst undef) w) := fun hw hA' => by
        rw [if_neg (by simp [hw])]
        exact ih _ β _ _ hd' hA' (h.put hd0 (Rep.sc _ rfl))
      split at hA
      · rename_i b hy
        have hyc := yieldA_some h hy
        by_cases hb : b = want
        · have hw : Region.wanted o (yielded ops.toArray a.tmps) = true := by simp [Region.wanted, hg, hyc, hb]
          rw [if_pos hw]
          exact .inl (aop_sound hG h hd0 (hA.1 hb) fun st' β' a' w' hk hs => ih st' β' a' w' hd' hk hs)
        · exact skip (by simp [Region.wanted, hg, hyc, hb]) (hA.2 hb)
      · rename_i hy
        have hyc := yieldA_none h hy
        exact skip (by simp [Region.wanted, hg, hyc]) hA
      · exact hA.elim

/-! ### What an operation of the head yields -/
def qVal (G : Ctx) (st : St) (o : Oper) (av : AV) : Prop :=
  yv G st o = some av ∨ ∃ c f g caps xs r, o.op = .call c ∧ c.callee = .value f ∧ evO st f = .im (.clo g caps) ∧ ivsOf (c.args.toList.map (evO st)) = some xs ∧ (3 ≤ g ∧ g < G.fns) ∧ Ctr G.P g (xs ++ caps) (· = r) ∧ av = .im r
def qStep (G : Ctx) (ops : List Oper) (st : St) (o : Oper) (av : AV) : Prop :=
  match o.guard with
  | none => qVal G st o av
  | some (j, want) => match yieldA st ops j with
    | some (some b) => if b = want then qVal G st o av else av = undefA
    | some none => av = undefA
    | none => False

theorem aq_qVal {o : Oper} {K : AV → Prop} (h : aq G st o K) : ∃ av, qVal G st o av ∧ K av := by
  unfold aq at h
  have plain : (match yv G st o with | some av => K av | none => False) → ∃ av, qVal G st o av ∧ K av := fun h => by
    split at h
    · rename_i av hy; exact ⟨av, .inl hy, h⟩
    · exact h.elim
  split at h
  · rename_i c ho
    split at h
    · rename_i f hf
      split at h
      · rename_i g caps xs h1 h2
        obtain ⟨hg, r, hr, hk⟩ := h
        exact ⟨_, .inr ⟨c, f, g, caps, xs, r, ho, hf, h1, h2, hg, hr, rfl⟩, hk⟩
      · exact h.elim
    · exact plain h
  · exact plain h

/-- The states: the values of the operations that have come up, in the order of the text. -/
def stUp (res : Nat → AV) (L : Nat → Bool) : List Oper → St → St
  | [], st => st
  | o :: r, st => stUp (fun i => res (i + 1)) (fun i => L (i + 1)) r (if L 0 = true then st.put o.dst (res 0) else st)

theorem ahead_res {K : St → Prop} : ∀ (l : List Oper) (st : St), ahead G ops K l st →
    ∃ res : Nat → AV, (∀ i o, l[i]? = some o → qStep G ops (stUp res (fun _ => true) (l.take i) st) o (res i)) ∧ K (stUp res (fun _ => true) l st)
  | [], st, h => ⟨fun _ => .und, fun i o hi => by simp at hi, h⟩
  | o :: l, st, h => by
    have key : ∃ av, qStep G ops st o av ∧ ahead G ops K l (st.put o.dst av) := by
      unfold ahead at h
      unfold qStep
      split at h
      · obtain ⟨av, h1, h2⟩ := aq_qVal h
        exact ⟨av, h1, h2⟩
      · rename_i j want hg
        split at h
        · rename_i b hy
          by_cases hb : b = want
          · obtain ⟨av, h1, h2⟩ := aq_qVal (h.1 hb)
            exact ⟨av, by rw [if_pos hb]; exact h1, h2⟩
          · exact ⟨undefA, by rw [if_neg hb], h.2 hb⟩
        · exact ⟨undefA, rfl, h⟩
        · exact h.elim
    obtain ⟨av, h1, h2⟩ := key
    obtain ⟨res, h3, h4⟩ := ahead_res l _ h2
    refine ⟨fun i => match i with | 0 => av | i + 1 => res i, fun i o' hi => ?_, ?_⟩
    · cases i with
      | zero => simp at hi; subst hi; exact h1
      | succ i =>
        have := h3 i o' (by simpa using hi)
        simpa [stUp] using this
    · simpa [stUp] using h4

theorem stUp_rows (res : Nat → AV) (L : Nat → Bool) (l : List Oper) (st : St) : (stUp res L l st).rows = st.rows ∧ (stUp res L l st).toks = st.toks := by
  induction l generalizing res L st with
  | nil => exact ⟨rfl, rfl⟩
  | cons o l ih =>
    simp only [stUp]
    have := ih (fun i => res (i + 1)) (fun i => L (i + 1)) (if L 0 = true then st.put o.dst (res 0) else st)
    have e : (if L 0 = true then st.put o.dst (res 0) else st).rows = st.rows ∧ (if L 0 = true then st.put o.dst (res 0) else st).toks = st.toks := by
      split
      · unfold St.put; split <;> exact ⟨rfl, rfl⟩
      · exact ⟨rfl, rfl⟩
    exact ⟨this.1.trans e.1, this.2.trans e.2⟩
theorem get_put_ne {dst : Option Nat} {av : AV} {t : Nat} (h : dst ≠ some t) : (st.put dst av).get t = st.get t := by
  cases dst with
  | none => rfl
  | some d =>
    have : t ≠ d := fun e => h (by rw [e])
    simp [St.put, St.get, look, this]
theorem get_put_same {av : AV} {t : Nat} : (st.put (some t) av).get t = av := by simp [St.put, St.get, look]

theorem stUp_get {t : Nat} : ∀ (l : List Oper) (res : Nat → AV) (L L' : Nat → Bool) (st st' : St), st.get t = st'.get t → (∀ i o, l[i]? = some o → o.dst = some t → L i = L' i) →
    (stUp res L l st).get t = (stUp res L' l st').get t
  | [], _, _, _, _, _, h, _ => h
  | o :: l, res, L, L', st, st', h, hL => by
    simp only [stUp]
    refine stUp_get l _ _ _ _ _ ?_ (fun i o' hi ho => hL (i + 1) o' (by simpa using hi) ho)
    by_cases hd : o.dst = some t
    · have := hL 0 o rfl hd
      rw [← this]
      split
      · rw [hd, get_put_same, get_put_same]
      · exact h
    · have : ∀ (s : St) (b : Bool), (if b = true then s.put o.dst (res 0) else s).get t = s.get t := fun s b => by
        split
        · exact get_put_ne hd
        · rfl
      rw [this, this]; exact h
theorem stUp_take : ∀ (l : List Oper) (res : Nat → AV) (j : Nat) (st : St), stUp res (fun _ => true) (l.take j) st = stUp res (fun i => decide (i < j)) l st
  | [], _, j, st => by simp [stUp]
  | o :: l, res, 0, st => by
    have : ∀ (l : List Oper) (res : Nat → AV) (st : St), stUp res (fun i => decide (i < 0)) l st = st := by
      intro l
      induction l with
      | nil => intros; rfl
      | cons o l ih => intro res st; simp only [stUp]; exact ih _ _
    rw [this]; rfl
  | o :: l, res, j + 1, st => by
    simp only [List.take_succ_cons, stUp]
    rw [stUp_take l]
    simp
theorem stUp_last {t : Nat} : ∀ (l : List Oper) (res : Nat → AV) (L : Nat → Bool) (st : St) (i : Nat) (o : Oper), l[i]? = some o → o.dst = some t → L i = true →
    (∀ k o', i < k → l[k]? = some o' → L k = true → o'.dst ≠ some t) → (stUp res L l st).get t = res i
  | [], _, _, _, i, o, hi, _, _, _ => by simp at hi
  | o' :: l, res, L, st, 0, o, hi, hd, hL, hk => by
    simp at hi; subst hi
    simp only [stUp, hL, if_true]
    have : (stUp (fun i => res (i + 1)) (fun i => L (i + 1)) l (st.put o'.dst (res 0))).get t = (stUp (fun i => res (i + 1)) (fun _ => false) l (st.put o'.dst (res 0))).get t :=
      stUp_get l _ _ _ _ _ rfl fun i o2 hi ho => by
        cases hc : L (i + 1) with
        | false => rfl
        | true => exact absurd ho (hk (i + 1) o2 (by omega) (by simpa using hi) hc)
    rw [this]
    have hf : ∀ (l : List Oper) (res : Nat → AV) (st : St), stUp res (fun _ => false) l st = st := by
      intro l
      induction l with
      | nil => intros; rfl
      | cons o l ih => intro res st; simp only [stUp]; exact ih _ _
    rw [hf, hd, get_put_same]
  | o' :: l, res, L, st, i + 1, o, hi, hd, hL, hk => by
    simp only [stUp]
    exact stUp_last l (fun i => res (i + 1)) (fun i => L (i + 1)) _ i o (by simpa using hi) hd hL (fun k o2 hlt hk' hLk => hk (k + 1) o2 (by omega) (by simpa using hk') hLk)

/-! ### An operation looks at its operands alone -/
theorem evO_congr {x : Operand} (h : ∀ t, x = .tmp t → st.get t = st'.get t) : evO st x = evO st' x := by
  cases x <;> simp only [evO]
  exact h _ rfl
theorem ivParts_congr : ∀ {ps : List (Nat × Operand)}, (∀ p ∈ ps, evO st p.2 = evO st' p.2) → ivParts st ps = ivParts st' ps
  | [], _ => rfl
  | (i, x) :: r, h => by
    unfold ivParts
    rw [h (i, x) (by simp), ivParts_congr (fun p hp => h p (by simp [hp]))]
theorem yLoad_congr {t : TypeId} {p : AV} (hr : st.rows = st'.rows) : yLoad G st t p = yLoad G st' t p := by
  unfold yLoad; rw [hr]

theorem yv_congr {o : Oper} (h : ∀ x ∈ o.op.operands, evO st x = evO st' x) (hr : st.rows = st'.rows) : yv G st o = yv G st' o := by
  unfold yv
  generalize o.op = op at h
  cases op <;> simp only [Op.operands] at h <;> (try rfl) <;> dsimp only
  case move x => rw [h x (by simp)]
  case assign x => rw [h x (by simp)]
  case pick c x y => rw [h c (by simp), h x (by simp), h y (by simp)]
  case build t ps => rw [ivParts_congr (st := st) (st' := st') fun p hp => h p.2 (by simp; exact ⟨p.1, by simpa using hp⟩)]
  case buildSlice t n ps => rw [ivParts_congr (st := st) (st' := st') fun p hp => h p.2 (by simp; exact ⟨p.1, by simpa using hp⟩)]
  case load t p => rw [h p (by simp)]; exact yLoad_congr hr
  case nilCheck x => rw [h x (by simp)]
  case binOp op t x y u => rw [h x (by simp), h y (by simp)]
  case unOp op t x => rw [h x (by simp)]
  case convert s d x => rw [h x (by simp)]
  case makeFunc fn first caps =>
    have : caps.toList.map (evO st) = caps.toList.map (evO st') := List.map_congr_left fun x hx => h x (by simp [Array.mem_toList_iff.1 hx])
    simp only [this]
  case slice t x lo hi mx =>
    have e1 : lo.map (evO st) = lo.map (evO st') := by cases lo with | none => rfl | some y => simp [h y (by simp)]
    have e2 : hi.map (evO st) = hi.map (evO st') := by cases hi with | none => rfl | some y => simp [h y (by simp)]
    rw [h x (by simp), e1, e2]
  case fieldAddr t x f => simp only [h x (by simp)]
  case field t x f => simp only [h x (by simp)]
  case indexAddr t x i => rw [h x (by simp), h i (by simp)]
  case index t x i => rw [h x (by simp), h i (by simp)]
  case extract x k => rw [h x (by simp)]
  case call c =>
    have e1 : c.args.toList.map (evO st) = c.args.toList.map (evO st') := List.map_congr_left fun x hx => h x (by simp [Call.operands, Array.mem_toList_iff.1 hx])
    have e2 : ∀ x, c.args.toList = [x] → evO st x = evO st' x := fun x hx => h x (by
      have : x ∈ c.args := Array.mem_toList_iff.1 (by rw [hx]; simp)
      simp [Call.operands, this])
    simp only [e1]
    cases hc : c.callee <;> dsimp only
    rename_i b
    cases b <;> dsimp only
    split
    · rename_i t x ht hx
      rw [e2 x hx]
    · rfl
end
end Go.Abs

namespace Go.Abs
set_option linter.all false
open Go.RowKit (Below)

def canonL (n size : Nat) : Array Bool := ((List.range size).map fun i => decide (i < n)).toArray
/-- The first n operations may come up in any order that the edges allow; what follows comes up behind them, in the text's order. -/
def drawB (ops : Array Oper) (n : Nat) : Bool :=
  decide (n ≤ ops.size) &&
  (List.range ops.size).all (fun j => match ops[j]? with
    | some o => o.after.all fun e => !Region.binds .any e || decide (e.on < j)
    | none => true) &&
  (List.range n).all (fun j => (List.range j).all fun i => Region.waitsFor .any ops j i || (match ops[i]?, ops[j]? with
    | some oi, some oj => oi.apart ops oj
    | _, _ => false)) &&
  (n == ops.size || (Region.sinkB .any ops n && Region.chainB .any ops n)) &&
  Region.seqB .any ops (ops.size - n) n (canonL n ops.size)

section
variable {G : Ctx} {N : Nat} {w0 w w' : World} {M0 : Nat → Nat → Prop} {β : Nat → Option Nat} {st st' : St} {a : Act} {ops : List Oper}

theorem Sim.congr (h : Sim N w0 M0 β st a w) (hg : ∀ t, st.get t = st'.get t) (hr : st.rows = st'.rows) (ht : st.toks = st'.toks) : Sim N w0 M0 β st' a w := by
  have hM : Mo M0 β st' = Mo M0 β st := by unfold Mo; rw [hr, ht]
  refine ⟨h.size, h.defers, h.below, h.m0, fun t => ?_, ?_, ?_, ?_, ?_⟩
  · rw [hM, ← hg, ← ht]; exact h.fr t
  · rw [hM, ← hr]; exact h.rows
  · rw [← ht]; exact h.toks
  · rw [← hr, ← ht]; exact h.inj
  · rw [← hr, ← ht]; exact h.excl

theorem qVal_sound (hG : G.Good) (h : Sim N w0 M0 β st a w) {o : Oper} {av : AV} (hq : qVal G st o av) {K' : Act → World → Prop} {Q' : Exit → Act → World → Prop}
    (hK : ∀ v w', Below w.heap.size w w' → RepA w' (Mo M0 β st) β st.toks av v → K' (a.put o.dst v) w') : o.wp G.P a w K' Q' := by
  rcases hq with hy | ⟨c, f, g, caps, xs, r, ho, hc, hf, hxs, hg, hctr, rfl⟩
  · obtain ⟨v, w', hr, hb, hv⟩ := yv_run hG.ok h hy
    unfold Oper.wp
    rw [hr]
    exact hK v w' hb hv
  · have hargs := ivsOf_rep h hxs
    have hfv := evO_rep h f
    rw [hf] at hfv
    obtain ⟨vs, hfe, hcaps⟩ := Rep.clo_inv hfv
    have hall : RepL w (Mo M0 β st) (xs ++ caps) ((c.args.map a.eval) ++ vs).toList := by
      refine ⟨?_, fun k x v hx hv => ?_⟩
      · have h1 := hargs.1; have h2 := hcaps.1
        simp at h1 h2
        simp [h1, h2]
      · rw [Array.toList_append, Array.toList_map] at hv
        have h1 := hargs.1
        by_cases hk : k < xs.length
        · rw [List.getElem?_append_left hk] at hx
          rw [List.getElem?_append_left (by omega)] at hv
          exact hargs.2 k x v hx hv
        · rw [List.getElem?_append_right (by omega)] at hx
          rw [List.getElem?_append_right (by omega), ← h1] at hv
          exact hcaps.2 _ x v hx hv
    have hcalls := hctr w (Mo M0 β st) _ (fun b o hm => h.mlt hm) hall
    have hrun : (execOp a.eval o).run G.P w = .ok (.enter g (c.args.map a.eval ++ vs)) w := by
      unfold execOp
      rw [ho]
      simp only [resolve, hc, hfe, Deferred.ofValue, Sem.run_bind, Sem.run_pure, Result.andThen_ok, Array.empty_append, invoke, callFunc_run (hG.fn g hg)]
    unfold Oper.wp
    rw [hrun, Oper.upon_enter]
    rw [Array.toArray_toList] at hcalls
    refine hcalls.mono fun e w' ⟨r', v, hr, he, hv, hb⟩ => ?_
    subst he; subst hr
    exact hK v w' hb hv

theorem mem_looksAt_op {o : Oper} {x : Operand} {t : Nat} (hx : x ∈ o.op.operands) (ht : x = .tmp t) : t ∈ o.looksAt ops.toArray := by
  subst ht
  exact List.mem_append_left _ (List.mem_filterMap.2 ⟨.tmp t, by simpa using hx, rfl⟩)
theorem qVal_congr {o : Oper} {av : AV} (h : ∀ t ∈ o.looksAt ops.toArray, st.get t = st'.get t) (hr : st.rows = st'.rows) (hq : qVal G st o av) : qVal G st' o av := by
  have hx : ∀ x ∈ o.op.operands, evO st x = evO st' x := fun x hx => evO_congr fun t ht => h t (mem_looksAt_op hx ht)
  rcases hq with hy | ⟨c, f, g, caps, xs, r, ho, hc, hf, hxs, rest⟩
  · exact .inl (by rw [← yv_congr hx hr]; exact hy)
  · refine .inr ⟨c, f, g, caps, xs, r, ho, hc, ?_, ?_, rest⟩
    · rw [← hx f (by rw [ho]; simp [Op.operands, Call.operands, hc])]; exact hf
    · rw [← hxs]
      congr 1
      exact (List.map_congr_left fun x hx' => (hx x (by rw [ho]; simp [Op.operands, Call.operands, Array.mem_toList_iff.1 hx'])).symm)
theorem qStep_congr {o : Oper} {av : AV} (h : ∀ t ∈ o.looksAt ops.toArray, st.get t = st'.get t) (hr : st.rows = st'.rows) (hq : qStep G ops st o av) : qStep G ops st' o av := by
  unfold qStep at hq ⊢
  cases hg : o.guard with
  | none => rw [hg] at hq; exact qVal_congr h hr hq
  | some p =>
    obtain ⟨j, want⟩ := p
    rw [hg] at hq
    have hy : yieldA st ops j = yieldA st' ops j := by
      unfold yieldA
      cases ho : ops[j]? with
      | none => rfl
      | some oj =>
        cases hd : oj.dst with
        | none => simp only [hd]
        | some t =>
          have : t ∈ o.looksAt ops.toArray := by
            have ho' : ops.toArray[j]? = some oj := by simpa using ho
            simp [Oper.looksAt, hg, ho', ho, hd]
          simp only [hd, h t this]
    simp only [← hy]
    dsimp only at hq
    cases hyy : yieldA st ops j with
    | none => rw [hyy] at hq; exact hq
    | some x =>
      cases x with
      | none => rw [hyy] at hq; exact hq
      | some b =>
        rw [hyy] at hq
        dsimp only at hq ⊢
        by_cases hb : b = want
        · rw [if_pos hb] at hq ⊢; exact qVal_congr h hr hq
        · rw [if_neg hb] at hq ⊢; exact hq

/-- How many of the first n are still to come. -/
def cntB (listed : Array Bool) : Nat → Nat
  | 0 => 0
  | n + 1 => cntB listed n + (if listed.getD n false = true then 0 else 1)
theorem cntB_set {listed : Array Bool} {i : Nat} (hi : i < listed.size) (h0 : listed.getD i false = false) : ∀ n, cntB (listed.setIfInBounds i true) n + (if i < n then 1 else 0) = cntB listed n
  | 0 => by simp [cntB]
  | n + 1 => by
    have ih := cntB_set hi h0 n
    simp only [cntB]
    by_cases hin : i = n
    · subst hin
      have : (listed.setIfInBounds i true).getD i false = true := by simp [hi]
      rw [if_pos this, h0]
      simp only [Nat.lt_irrefl, if_false, Nat.add_zero] at ih
      simp [ih]
    · have : (listed.setIfInBounds i true).getD n false = listed.getD n false := getD_set_ne false hin
      rw [this]
      generalize (if listed.getD n false = true then 0 else 1) = x
      by_cases h : i < n
      · rw [if_pos h] at ih; rw [if_pos (by omega : i < n + 1)]; omega
      · rw [if_neg h] at ih; rw [if_neg (by omega : ¬ i < n + 1)]; omega
theorem cntB_zero {listed : Array Bool} : ∀ {n}, cntB listed n = 0 → ∀ i, i < n → listed.getD i false = true
  | 0, _, i, hi => by omega
  | n + 1, h, i, hi => by
    simp only [cntB] at h
    by_cases hin : i = n
    · subst hin
      by_cases hl : listed.getD i false = true
      · exact hl
      · rw [if_neg hl] at h; omega
    · exact cntB_zero (n := n) (by omega) i (by omega)
theorem cntB_pos {listed : Array Bool} : ∀ {n}, cntB listed n ≠ 0 → ∃ i, i < n ∧ listed.getD i false = false ∧ ∀ j, j < i → listed.getD j false = true
  | 0, h => absurd rfl h
  | n + 1, h => by
    by_cases h0 : cntB listed n = 0
    · refine ⟨n, by omega, ?_, fun j hj => cntB_zero h0 j hj⟩
      simp only [cntB, h0] at h
      cases hl : listed.getD n false with
      | false => rfl
      | true => rw [hl] at h; simp at h
    · obtain ⟨i, h1, h2⟩ := cntB_pos h0
      exact ⟨i, by omega, h2⟩

theorem draw_sound (hG : G.Good) (id n : Nat) (hB : drawB ops.toArray n = true) (hd : ∀ o ∈ ops, ∀ d, o.dst = some d → d < N) {K : St → Prop} {Q' : Exit → Act → World → Prop}
    (hK : ∀ st' β' a' w', K st' → Sim N w0 M0 β' st' a' w' → Q' .normal a' w') (h : Sim N w0 M0 β st a w)
    (hA : ahead G ops (fun s => alist G ops K (ops.drop n) s) (ops.take n) st) : (Code.region id ops.toArray true).wp G.P Q' a w := by
  simp only [drawB, Bool.and_eq_true, decide_eq_true_eq, Bool.or_eq_true, beq_iff_eq] at hB
  obtain ⟨⟨⟨⟨hn, hafter⟩, hpair⟩, htail⟩, hseq⟩ := hB
  obtain ⟨res, hres, hfin⟩ := ahead_res _ _ hA
  have hsz : ops.toArray.size = ops.length := by simp
  have htake : ∀ i, i < n → (ops.take n)[i]? = ops[i]? := fun i hi => by rw [List.getElem?_take, if_pos hi]
  have hlt : ∀ i o, (ops.take n)[i]? = some o → i < n ∧ ops[i]? = some o := fun i o hi => by
    rw [List.getElem?_take] at hi
    split at hi
    · exact ⟨‹_›, hi⟩
    · cases hi
  have arr : ∀ (i : Nat) (o : Oper), ops[i]? = some o → ops.toArray[i]? = some o := fun i o h => by simpa using h
  have hpair' : ∀ i j oi oj, i < j → j < n → ops[i]? = some oi → ops[j]? = some oj → Region.waitsFor .any ops.toArray j i = true ∨ oi.apart ops.toArray oj = true := by
    intro i j oi oj hij hj h1 h2
    have := List.all_eq_true.1 (List.all_eq_true.1 hpair j (List.mem_range.2 hj)) i (List.mem_range.2 hij)
    rw [arr i oi h1, arr j oj h2] at this
    simpa using this
  have hafter' : ∀ (j : Nat) oj, ops[j]? = some oj → ∀ e ∈ oj.after, Region.binds .any e = true → e.on < j := by
    intro j oj hj e he hb
    have hjl : j < ops.toArray.size := by rw [hsz]; exact (List.getElem?_eq_some_iff.1 hj).1
    have := List.all_eq_true.1 hafter j (List.mem_range.2 hjl)
    rw [arr j oj hj] at this
    have := Array.all_eq_true'.1 this e he
    simpa [hb] using this
  have main : ∀ c (listed : Array Bool) (a : Act) (w : World), cntB listed n = c → HeadInv .any ops.toArray n listed →
      Sim N w0 M0 β (stUp res (fun i => listed.getD i false) (ops.take n) st) a w → wpAny G.P .any ops.toArray Q' (c + (ops.toArray.size - n)) listed a w := by
    intro c
    induction c with
    | zero =>
      intro listed a w hc inv hs
      rw [Nat.zero_add]
      have hall := cntB_zero hc
      have hcan : listed = canonL n ops.toArray.size := by
        apply Array.ext
        · rw [inv.size]; simp [canonL]
        · intro i h1 h2
          have hil : i < ops.length := by rw [inv.size] at h1; simpa using h1
          by_cases hin : i < n
          · have := hall i hin
            have e1 : listed[i] = true := by simpa [h1] using this
            rw [e1]; simp [canonL, hin]
          · have := inv.tail i (by omega) (by rw [inv.size] at h1; exact h1)
            have e1 : listed[i] = false := by simpa [h1] using this
            rw [e1]; simp [canonL, hin]
      have hs' : Sim N w0 M0 β (stUp res (fun _ => true) (ops.take n) st) a w := by
        refine hs.congr (fun t => stUp_get _ _ _ _ _ _ rfl fun i o hi _ => hall i (hlt i o hi).1) ?_ ?_
        · rw [(stUp_rows _ _ _ _).1, (stUp_rows _ _ _ _).1]
        · rw [(stUp_rows _ _ _ _).2, (stUp_rows _ _ _ _).2]
      have hlist := alist_sound hG hK (ops.drop n) _ β a w (fun o ho => hd o (List.mem_of_mem_drop ho)) hfin hs'
      have hdl : (ops.drop n).length = ops.toArray.size - n := by simp
      have := wpAny_of_seq (P := G.P) (md := .any) (Q' := Q') (ops.drop n) n listed a w (fun j => by simp [List.getElem?_drop]) (by rw [hcan, hdl]; exact hseq) hlist
      rwa [hdl] at this
    | succ c ih =>
      intro listed a w hc inv hs
      obtain ⟨i0, hi0, hun0, hmin⟩ := cntB_pos (by omega : cntB listed n ≠ 0)
      have hL : ∀ i, i < n → (listed.getD i true = false ↔ listed.getD i false = false) := fun i hi => by
        have : i < listed.size := by rw [inv.size]; omega
        simp [this]
      have hready0 : i0 ∈ Region.ready .any ops.toArray listed := by
        have hil : i0 < ops.length := by rw [← hsz]; omega
        refine mem_ready.2 ⟨(hL i0 hi0).2 hun0, ops[i0], arr i0 _ (List.getElem?_eq_getElem hil), fun e he hb => hmin _ (hafter' i0 _ (List.getElem?_eq_getElem hil) e he hb)⟩
      have hgoal : (Region.ready .any ops.toArray listed = [] → Q' .normal a w) ∧ ∀ i ∈ Region.ready .any ops.toArray listed, wpOp G.P ops.toArray Q' i (wpAny G.P .any ops.toArray Q' (c + (ops.toArray.size - n)) (listed.setIfInBounds i true)) a w := by
        refine ⟨fun hr => (by rw [hr] at hready0; cases hready0), fun i hi => ?_⟩
        obtain ⟨hun, oi, hoi, hall⟩ := mem_ready.1 hi
        have hoi' : ops[i]? = some oi := by simpa using hoi
        have hisz : i < ops.toArray.size := (Array.getElem?_eq_some_iff.1 hoi).1
        have hin : i < n := by
          rcases Nat.lt_or_ge i n with h' | h'
          · exact h'
          · rcases htail with e | ⟨hsink, hchain⟩
            · omega
            · exact absurd hi (tail_waits hsink hchain (by omega) inv _ i0 rfl hi0 ((hL i0 hi0).2 hun0) i h')
        have hunf : listed.getD i false = false := (hL i hin).1 hun
        have hwait : ∀ k, Region.waitsFor .any ops.toArray i k = true → listed.getD k false = true := fun k hk => by
          obtain ⟨oj, hoj, e, he, hb, hon⟩ := Region.waitsFor_spec hk
          rw [hoi] at hoj; cases hoj
          rw [← hon]; exact hall e he hb
        have hlate : ∀ k, Region.waitsFor .any ops.toArray k i = true → listed.getD k false = false := fun k hk => by
          obtain ⟨ok, hok, e, he, hb, hon⟩ := Region.waitsFor_spec hk
          cases hl : listed.getD k false with
          | false => rfl
          | true =>
            have := inv.closed k ok hok hl e he hb
            rw [hon, hunf] at this; cases this
        -- the state in which it comes up agrees, where it looks, with the state of the text's order
        have hagree : ∀ t ∈ oi.looksAt ops.toArray, (stUp res (fun _ => true) ((ops.take n).take i) st).get t = (stUp res (fun k => listed.getD k false) (ops.take n) st).get t := by
          intro t ht
          rw [stUp_take]
          refine stUp_get _ _ _ _ _ _ rfl fun k ok hk hdk => ?_
          obtain ⟨hkn, hok⟩ := hlt k ok hk
          rcases Nat.lt_trichotomy k i with hki | hki | hki
          · rcases hpair' k i ok oi hki hin hok hoi' with hw | hap
            · rw [hwait k hw]; simp [hki]
            · exact absurd ht ((Oper.apart_spec hap).1 t hdk)
          · subst hki; rw [hunf]; simp
          · rcases hpair' i k oi ok hki hkn hoi' hok with hw | hap
            · rw [hlate k hw]; simp; omega
            · exact absurd ht ((Oper.apart_spec hap).2.2 t hdk)
        have hq : qStep G ops (stUp res (fun k => listed.getD k false) (ops.take n) st) oi (res i) :=
          qStep_congr hagree (by rw [(stUp_rows _ _ _ _).1, (stUp_rows _ _ _ _).1]) (hres i oi (by rw [htake i hin]; exact hoi'))
        have hisL : i < listed.size := by rw [inv.size]; exact hisz
        have hcnt : cntB (listed.setIfInBounds i true) n = c := by
          have := cntB_set hisL hunf n
          rw [if_pos hin] at this; omega
        have next : ∀ v w2, Below w.heap.size w w2 → RepA w2 (Mo M0 β (stUp res (fun k => listed.getD k false) (ops.take n) st)) β (stUp res (fun k => listed.getD k false) (ops.take n) st).toks (res i) v →
            wpAny G.P .any ops.toArray Q' (c + (ops.toArray.size - n)) (listed.setIfInBounds i true) (a.put oi.dst v) w2 := by
          intro v w2 hb hv
          have hs2 := (hs.ext hb).put (dst := oi.dst) (hd oi (List.mem_of_getElem? hoi')) hv
          refine ih _ _ _ hcnt (inv.set hi hin) (hs2.congr (fun t => ?_) ?_ ?_)
          · have hset : ∀ k, k ≠ i → (listed.setIfInBounds i true).getD k false = listed.getD k false := fun k hk => getD_set_ne false (Ne.symm hk)
            by_cases hdt : oi.dst = some t
            · rw [hdt, get_put_same]
              refine (stUp_last (ops.take n) res _ st i oi (by rw [htake i hin]; exact hoi') hdt (by simp [hisL]) fun k ok hik hk hLk hdk => ?_).symm
              obtain ⟨hkn, hok⟩ := hlt k ok hk
              rw [hset k (by omega)] at hLk
              rcases hpair' i k oi ok hik hkn hoi' hok with hw | hap
              · rw [hlate k hw] at hLk; cases hLk
              · exact (Oper.apart_spec hap).2.1 t hdt hdk
            · rw [get_put_ne hdt]
              refine stUp_get _ _ _ _ _ _ rfl fun k ok hk hdk => ?_
              have : k ≠ i := fun e => by
                subst e
                obtain ⟨_, hok⟩ := hlt k ok hk
                rw [hoi'] at hok; cases hok
                exact hdt hdk
              exact (hset k this).symm
          · rw [show ((stUp res (fun k => listed.getD k false) (ops.take n) st).put oi.dst (res i)).rows = (stUp res (fun k => listed.getD k false) (ops.take n) st).rows by unfold St.put; split <;> rfl, (stUp_rows _ _ _ _).1, (stUp_rows _ _ _ _).1]
          · rw [show ((stUp res (fun k => listed.getD k false) (ops.take n) st).put oi.dst (res i)).toks = (stUp res (fun k => listed.getD k false) (ops.take n) st).toks by unfold St.put; split <;> rfl, (stUp_rows _ _ _ _).2, (stUp_rows _ _ _ _).2]
        unfold wpOp
        rw [hoi]
        dsimp only
        unfold qStep at hq
        cases hg : oi.guard with
        | none =>
          rw [hg] at hq
          rw [if_pos (by simp [Region.wanted, hg])]
          exact .inl (qVal_sound hG hs hq next)
        | some p =>
          obtain ⟨j, want⟩ := p
          rw [hg] at hq
          dsimp only at hq
          split at hq
          · rename_i b hy
            have hyc := yieldA_some hs hy
            by_cases hb : b = want
            · rw [if_pos hb] at hq
              rw [if_pos (by simp [Region.wanted, hg, hyc, hb])]
              exact .inl (qVal_sound hG hs hq next)
            · rw [if_neg hb] at hq
              rw [if_neg (by simp [Region.wanted, hg, hyc, hb])]
              exact next _ w (Below.refl _ _) (by rw [hq]; exact Rep.sc _ rfl)
          · rename_i hy
            have hyc := yieldA_none hs hy
            rw [if_neg (by simp [Region.wanted, hg, hyc])]
            exact next _ w (Below.refl _ _) (by rw [hq]; exact Rep.sc _ rfl)
          · exact hq.elim
      have : c + 1 + (ops.toArray.size - n) = (c + (ops.toArray.size - n)) + 1 := by omega
      rw [this]
      exact hgoal
  refine wp_region_any hG.mixed ?_
  have inv0 : HeadInv .any ops.toArray n (Array.replicate ops.toArray.size false) :=
    ⟨by simp, fun j oj _ hl => (by rw [getD_replicate_false] at hl; cases hl), fun t _ ht => getD_in (by simpa using ht) (getD_replicate_false _ _)⟩
  have hc0 : ∀ k, cntB (Array.replicate ops.toArray.size false) k = k := fun k => by
    induction k with
    | zero => rfl
    | succ k ihk => simp only [cntB, ihk, getD_replicate_false]; simp
  have := main n (Array.replicate ops.toArray.size false) a _ (hc0 n) inv0 (h.drew.congr (fun t => by
    have hf : ∀ (l : List Oper) (res : Nat → AV) (L : Nat → Bool) (st : St), (∀ i, L i = false) → stUp res L l st = st := by
      intro l
      induction l with
      | nil => intros; rfl
      | cons o l ih =>
        intro res L st hL
        simp only [stUp, hL 0]
        exact ih _ _ _ fun i => hL (i + 1)
    rw [hf _ _ _ _ fun i => getD_replicate_false _ _]) (stUp_rows _ _ _ _).1.symm (stUp_rows _ _ _ _).2.symm)
  rwa [show n + (ops.toArray.size - n) = ops.toArray.size by omega] at this
end
end Go.Abs

namespace Go.Abs
set_option linter.all false
open Go.RowKit (Below)

def isStore (o : Oper) : Bool :=
  match o.op with
  | .store _ _ _ => o.guard.isNone && o.dst.isNone
  | _ => false
def isLoad (o : Oper) : Bool :=
  match o.op with
  | .load _ _ => true
  | _ => false
/-- Those below k that always come behind i. -/
def afters (ops : Array Oper) (i : Nat) : Nat → List Nat
  | 0 => []
  | k + 1 => if (Region.waitsFor .any ops k i || (afters ops i k).any fun m => Region.waitsFor .any ops k m) = true then k :: afters ops i k else afters ops i k
def isAlloc (o : Oper) : Bool :=
  match o.op with
  | .alloc _ => o.guard.isNone && o.dst.isSome
  | _ => false
/-- The number and the cells of the variable that an operation makes. -/
def allocOf (G : Ctx) (o : Oper) : Option (Nat × List IV) :=
  match o.op, o.dst, o.guard with
  | .alloc t, some d, none => match zeroIV G t with
    | some z => some (d, z)
    | none => none
  | _, _, _ => none
theorem allocOf_spec {G : Ctx} {o : Oper} {d : Nat} {z : List IV} (h : allocOf G o = some (d, z)) : ∃ t, o.op = .alloc t ∧ o.dst = some d ∧ o.guard = none ∧ zeroIV G t = some z ∧ isAlloc o = true ∧ isStore o = false ∧ isLoad o = false := by
  obtain ⟨dst, op, ty, pos, af, gd⟩ := o
  unfold allocOf at h
  dsimp only at h
  split at h
  · split at h
    · cases h
      refine ⟨_, rfl, rfl, rfl, ‹_›, rfl, rfl, rfl⟩
    · cases h
  · cases h
def allocAt (ops : Array Oper) (i : Nat) : Option Nat :=
  match ops[i]? with
  | some o => if isAlloc o = true then o.dst else none
  | none => none
def storeAt (ops : Array Oper) (i : Nat) : Bool :=
  match ops[i]? with
  | some o => isStore o
  | none => false
def loadAt (ops : Array Oper) (i : Nat) : Bool :=
  match ops[i]? with
  | some o => isLoad o
  | none => false
def writesFor (ops : Array Oper) (h s : Nat) : Bool :=
  match ops[h]?, ops[s]? with
  | some oh, some os => match oh.dst with
    | some t => (os.looksAt ops).contains t
    | none => false
  | _, _ => false
def drawS (ops : Array Oper) : Bool :=
  (List.range ops.size).all (fun j => match ops[j]? with
    | some o => o.after.all fun e => !Region.binds .any e || decide (e.on < j)
    | none => true) &&
  (List.range ops.size).all (fun j => storeAt ops j || (List.range j).all fun i => storeAt ops i || Region.waitsFor .any ops j i || (match ops[i]?, ops[j]? with
    | some oi, some oj => oi.apart ops oj
    | _, _ => false)) &&
  (List.range ops.size).all (fun i => (List.range ops.size).all fun s => !storeAt ops s || !((storeAt ops i && decide (i < s)) || loadAt ops i || (!storeAt ops i && writesFor ops i s)) || (afters ops i ops.size).contains s) &&
  (List.range ops.size).all (fun i => (List.range ops.size).all fun j => i == j || (allocAt ops i).isNone || allocAt ops i != allocAt ops j)

theorem drawS_spec {ops : Array Oper} (h : drawS ops = true) :
    (∀ (j : Nat) oj, ops[j]? = some oj → ∀ e ∈ oj.after, Region.binds .any e = true → e.on < j) ∧
    (∀ i j oi oj, i < j → ops[i]? = some oi → ops[j]? = some oj → isStore oi = false → isStore oj = false → Region.waitsFor .any ops j i = true ∨ oi.apart ops oj = true) ∧
    (∀ i s oi os, ops[i]? = some oi → ops[s]? = some os → isStore os = true → ((isStore oi = true ∧ i < s) ∨ isLoad oi = true ∨ (isStore oi = false ∧ ∃ t, oi.dst = some t ∧ t ∈ os.looksAt ops)) → s ∈ afters ops i ops.size) ∧
    (∀ (i j : Nat) oi oj d, ops[i]? = some oi → ops[j]? = some oj → isAlloc oi = true → isAlloc oj = true → oi.dst = some d → oj.dst = some d → i = j) := by
  simp only [drawS, Bool.and_eq_true] at h
  obtain ⟨⟨⟨h1, h2⟩, h3⟩, h4⟩ := h
  have sz : ∀ (j : Nat) o, ops[j]? = some o → j < ops.size := fun j o h => (Array.getElem?_eq_some_iff.1 h).1
  refine ⟨fun j oj hj e he hb => ?_, fun i j oi oj hij hi hj si sj => ?_, fun i s oi os hi hs hst hc => ?_, fun i j oi oj d hi hj ai aj di dj => ?_⟩
  case refine_4 =>
    have := List.all_eq_true.1 (List.all_eq_true.1 h4 i (List.mem_range.2 (sz i oi hi))) j (List.mem_range.2 (sz j oj hj))
    simp only [allocAt, hi, hj, ai, aj, if_true, di, dj] at this
    simpa using this
  · have := List.all_eq_true.1 h1 j (List.mem_range.2 (sz j oj hj))
    rw [hj] at this
    have := Array.all_eq_true'.1 this e he
    simpa [hb] using this
  · have := List.all_eq_true.1 h2 j (List.mem_range.2 (sz j oj hj))
    simp only [storeAt, hj, sj, Bool.false_or] at this
    have := List.all_eq_true.1 this i (List.mem_range.2 hij)
    simp only [hi, si, Bool.false_or, Bool.or_eq_true] at this
    exact this
  · have := List.all_eq_true.1 (List.all_eq_true.1 h3 i (List.mem_range.2 (sz i oi hi))) s (List.mem_range.2 (sz s os hs))
    have hcc : ((storeAt ops i && decide (i < s)) || loadAt ops i || (!storeAt ops i && writesFor ops i s)) = true := by
      simp only [storeAt, loadAt, writesFor, hi, hs]
      rcases hc with ⟨h4, h5⟩ | h4 | ⟨h4, t, h5, h6⟩
      · simp [h4, h5]
      · simp [h4]
      · simp [h4, h5, h6]
    rw [hcc] at this
    simp only [storeAt, hs, hst, Bool.not_true, Bool.false_or] at this
    simpa using this

section
variable {G : Ctx} {N : Nat} {w0 w : World} {M0 : Nat → Nat → Prop} {β : Nat → Option Nat} {st st' : St} {a : Act} {ops : List Oper}

theorem afters_listed {ops : Array Oper} {listed : Array Bool} {i : Nat} (hcl : ∀ j oj, ops[j]? = some oj → listed.getD j false = true → ∀ e ∈ oj.after, Region.binds .any e = true → listed.getD e.on false = true) :
    ∀ k j, j ∈ afters ops i k → listed.getD j false = true → listed.getD i false = true
  | 0, j, hj, _ => by cases hj
  | k + 1, j, hj, hl => by
    unfold afters at hj
    split at hj
    · rename_i hc
      rcases List.mem_cons.1 hj with rfl | hj
      · rw [Bool.or_eq_true] at hc
        rcases hc with hc | hc
        · obtain ⟨oj, hoj, e, he, hb, hon⟩ := Region.waitsFor_spec hc
          rw [← hon]; exact hcl _ oj hoj hl e he hb
        · obtain ⟨m, hm, hc⟩ := List.any_eq_true.1 hc
          obtain ⟨oj, hoj, e, he, hb, hon⟩ := Region.waitsFor_spec hc
          exact afters_listed hcl _ m hm (by rw [← hon]; exact hcl _ oj hoj hl e he hb)
      · exact afters_listed hcl k j hj hl
    · exact afters_listed hcl k j hj hl
theorem afters_ready {ops : Array Oper} {listed : Array Bool} {i : Nat} (hcl : ∀ j oj, ops[j]? = some oj → listed.getD j false = true → ∀ e ∈ oj.after, Region.binds .any e = true → listed.getD e.on false = true)
    {j : Nat} {oj : Oper} (hoj : ops[j]? = some oj) (hall : ∀ e ∈ oj.after, Region.binds .any e = true → listed.getD e.on false = true) : ∀ k, j ∈ afters ops i k → listed.getD i false = true
  | 0, hj => by cases hj
  | k + 1, hj => by
    unfold afters at hj
    split at hj
    · rename_i hc
      rcases List.mem_cons.1 hj with rfl | hj
      · rw [Bool.or_eq_true] at hc
        rcases hc with hc | hc
        · obtain ⟨oj', hoj', e, he, hb, hon⟩ := Region.waitsFor_spec hc
          rw [hoj] at hoj'; cases hoj'
          rw [← hon]; exact hall e he hb
        · obtain ⟨m, hm, hc⟩ := List.any_eq_true.1 hc
          obtain ⟨oj', hoj', e, he, hb, hon⟩ := Region.waitsFor_spec hc
          rw [hoj] at hoj'; cases hoj'
          exact afters_listed hcl _ m hm (by rw [← hon]; exact hall e he hb)
      · exact afters_ready hcl hoj hall k hj
    · exact afters_ready hcl hoj hall k hj

def aheadS (G : Ctx) (ops : List Oper) (K : St → Prop) : List Oper → St → Prop
  | [], st => K st
  | o :: r, st => if isStore o = true then aheadS G ops K r st else match allocOf G o with
    | some (d, z) => aheadS G ops K r (st.put o.dst (.loc d z.length 0 0))
    | none => match o.guard with
      | none => aq G st o fun av => aheadS G ops K r (st.put o.dst av)
      | some (j, want) => match yieldA st ops j with
        | some (some b) => (b = want → aq G st o fun av => aheadS G ops K r (st.put o.dst av)) ∧ (b ≠ want → aheadS G ops K r (st.put o.dst undefA))
        | some none => aheadS G ops K r (st.put o.dst undefA)
        | none => False
/-- What an operation yields that is no store. -/
def hStep (G : Ctx) (ops : List Oper) (st : St) (o : Oper) (av : AV) : Prop :=
  match allocOf G o with
  | some (d, z) => av = .loc d z.length 0 0
  | none => qStep G ops st o av
/-- The variables that the operations make, each with its first cells. -/
def mkRows (G : Ctx) : List Oper → List (Nat × Nat × List (List IV))
  | [] => []
  | o :: r => match allocOf G o with
    | some (d, z) => (d, z.length, [z]) :: mkRows G r
    | none => mkRows G r
/-- Nothing is known any more under the numbers of these variables. -/
def freshAll (G : Ctx) : List Oper → St → St
  | [], st => st
  | o :: r, st => match allocOf G o with
    | some (d, _) => freshAll G r (st.fresh d)
    | none => freshAll G r st
/-- What a store makes of the rows. -/
def aStQ (G : Ctx) (K : List (Nat × Nat × List (List IV)) → Prop) (st : St) (t : TypeId) (p x : Operand) : Prop :=
  match ivOf (evO st x), evO st p with
  | some y, .loc d s i j => match look st.rows d with
    | some (s', es) => match es[i]? with
      | some c => s' = s ∧ (G.ti t).size ≠ 0 ∧ (cellsOf y).length = (G.ti t).size ∧ (cellsOf y).all IV.one = true ∧ j + (G.ti t).size ≤ c.length ∧
          K (setRow st.rows d s (es.set i (setCells c j (cellsOf y))))
      | none => False
    | none => False
  | _, _ => False
def aStores (G : Ctx) (K : St → Prop) : List Oper → St → Prop
  | [], st => K st
  | o :: r, st => if isStore o = true then (match o.op with
      | .store t p x => aStQ G (fun rows => aStores G K r { st with rows := rows }) st t p x
      | _ => False) else aStores G K r st
def StepR (G : Ctx) (st : St) (o : Oper) (rows : List (Nat × Nat × List (List IV))) : Prop :=
  ∃ t p x, o.op = .store t p x ∧ aStQ G (· = rows) st t p x
theorem aStQ_of {K : List (Nat × Nat × List (List IV)) → Prop} {t : TypeId} {p x : Operand} (h : aStQ G K st t p x) : ∃ rows, K rows ∧ aStQ G (· = rows) st t p x := by
  unfold aStQ at h ⊢
  split at h
  · split at h
    · split at h
      · obtain ⟨h1, h2, h3, h4, h5, h6⟩ := h
        exact ⟨_, h6, h1, h2, h3, h4, h5, rfl⟩
      · exact h.elim
    · exact h.elim
  · exact h.elim

def headL (l : List Oper) (k : Nat) : Bool :=
  match l[k]? with
  | some o => !isStore o
  | none => true
theorem aheadS_res {K : St → Prop} : ∀ (l : List Oper) (st : St), aheadS G ops K l st →
    ∃ res : Nat → AV, (∀ i o, l[i]? = some o → isStore o = false → hStep G ops (stUp res (headL l) (l.take i) st) o (res i)) ∧ K (stUp res (headL l) l st)
  | [], st, h => ⟨fun _ => .und, fun i o hi => by simp at hi, h⟩
  | o :: l, st, h => by
    have hsh : (fun i => headL (o :: l) (i + 1)) = headL l := by funext i; simp [headL]
    unfold aheadS at h
    split at h
    · rename_i hs
      obtain ⟨res, h3, h4⟩ := aheadS_res l _ h
      have h0 : headL (o :: l) 0 = false := by simp [headL, hs]
      refine ⟨fun i => match i with | 0 => .und | i + 1 => res i, fun i o' hi ho' => ?_, ?_⟩
      · cases i with
        | zero => simp at hi; subst hi; rw [hs] at ho'; cases ho'
        | succ i =>
          have := h3 i o' (by simpa using hi) ho'
          simpa [stUp, h0, hsh] using this
      · simpa [stUp, h0, hsh] using h4
    · rename_i hs
      have hs' : isStore o = false := by simpa using hs
      have h0 : headL (o :: l) 0 = true := by simp [headL, hs']
      have key : ∃ av, hStep G ops st o av ∧ aheadS G ops K l (st.put o.dst av) := by
        unfold hStep
        cases hal : allocOf G o with
        | some p =>
          obtain ⟨d, z⟩ := p
          rw [hal] at h
          exact ⟨_, rfl, h⟩
        | none =>
        rw [hal] at h
        dsimp only at h ⊢
        unfold qStep
        cases hg : o.guard with
        | none =>
          rw [hg] at h
          obtain ⟨av, h1, h2⟩ := aq_qVal h
          exact ⟨av, h1, h2⟩
        | some p =>
          obtain ⟨j, want⟩ := p
          rw [hg] at h
          dsimp only at h ⊢
          revert h
          generalize yieldA st ops j = y
          intro h
          cases y with
          | none => exact h.elim
          | some y => cases y with
            | none => exact ⟨undefA, rfl, h⟩
            | some b =>
              dsimp only at h ⊢
              by_cases hb : b = want
              · obtain ⟨av, h1, h2⟩ := aq_qVal (h.1 hb)
                exact ⟨av, by rw [if_pos hb]; exact h1, h2⟩
              · exact ⟨undefA, by rw [if_neg hb], h.2 hb⟩
      obtain ⟨av, h1, h2⟩ := key
      obtain ⟨res, h3, h4⟩ := aheadS_res l _ h2
      refine ⟨fun i => match i with | 0 => av | i + 1 => res i, fun i o' hi ho' => ?_, ?_⟩
      · cases i with
        | zero => simp at hi; subst hi; exact h1
        | succ i =>
          have := h3 i o' (by simpa using hi) ho'
          simpa [stUp, h0, hsh] using this
      · simpa [stUp, h0, hsh] using h4

def cntS (l : List Oper) : Nat → Nat
  | 0 => 0
  | n + 1 => cntS l n + (match l[n]? with | some o => if isStore o = true then 1 else 0 | none => 0)
theorem cntS_mono {l : List Oper} : ∀ {n m : Nat}, n ≤ m → cntS l n ≤ cntS l m
  | n, 0, h => by rw [show n = 0 by omega]; exact Nat.le_refl _
  | n, m + 1, h => by
    by_cases e : n = m + 1
    · subst e; exact Nat.le_refl _
    · exact Nat.le_trans (cntS_mono (by omega : n ≤ m)) (by simp only [cntS]; omega)
theorem cntS_lt {l : List Oper} {i s : Nat} {o : Oper} (h : l[i]? = some o) (ho : isStore o = true) (his : i < s) : cntS l i < cntS l s := by
  have h1 : cntS l (i + 1) = cntS l i + 1 := by simp [cntS, h, ho]
  have h2 := cntS_mono (l := l) (by omega : i + 1 ≤ s)
  omega
theorem cntS_ex {l : List Oper} {m : Nat} : ∀ {i : Nat}, m < cntS l i → ∃ s o, s < i ∧ l[s]? = some o ∧ isStore o = true ∧ cntS l s = m
  | 0, h => by simp [cntS] at h
  | i + 1, h => by
    by_cases h1 : m < cntS l i
    · obtain ⟨s, o, h2, h3⟩ := cntS_ex h1
      exact ⟨s, o, by omega, h3⟩
    · simp only [cntS] at h
      split at h
      · rename_i o ho
        split at h
        · rename_i hs
          exact ⟨i, o, by omega, ho, hs, by omega⟩
        · omega
      · omega
theorem cntS_cons (o : Oper) (l : List Oper) : ∀ n, cntS (o :: l) (n + 1) = (if isStore o = true then 1 else 0) + cntS l n
  | 0 => by simp [cntS]
  | n + 1 => by
    have := cntS_cons o l n
    simp only [cntS] at this ⊢
    rw [List.getElem?_cons_succ]
    omega
theorem aStores_res {K : St → Prop} : ∀ (l : List Oper) (st : St), aStores G K l st → ∃ rk : Nat → List (Nat × Nat × List (List IV)), rk 0 = st.rows ∧
    (∀ i o, l[i]? = some o → isStore o = true → StepR G { st with rows := rk (cntS l i) } o (rk (cntS l i + 1))) ∧ K { st with rows := rk (cntS l l.length) }
  | [], st, h => ⟨fun _ => st.rows, rfl, fun i o hi => by simp at hi, h⟩
  | o :: l, st, h => by
    unfold aStores at h
    split at h
    · rename_i hs
      split at h
      · rename_i t p x ho
        obtain ⟨rows, h1, h2⟩ := aStQ_of h
        obtain ⟨rk, h3, h4, h5⟩ := aStores_res l _ h1
        refine ⟨fun k => match k with | 0 => st.rows | k + 1 => rk k, rfl, fun i o' hi ho' => ?_, ?_⟩
        · cases i with
          | zero =>
            simp at hi; subst hi
            refine ⟨t, p, x, ho, ?_⟩
            show aStQ G (· = rk 0) _ t p x
            rw [h3]; exact h2
          | succ i =>
            have h6 := h4 i o' (by simpa using hi) ho'
            rw [cntS_cons, if_pos hs, Nat.add_comm 1]
            exact h6
        · rw [List.length_cons, cntS_cons, if_pos hs, Nat.add_comm 1]
          exact h5
      · exact h.elim
    · rename_i hs
      obtain ⟨rk, h3, h4, h5⟩ := aStores_res l _ h
      refine ⟨rk, h3, fun i o' hi ho' => ?_, ?_⟩
      · cases i with
        | zero => simp at hi; subst hi; exact absurd ho' hs
        | succ i =>
          have h6 := h4 i o' (by simpa using hi) ho'
          rw [cntS_cons, if_neg hs, Nat.zero_add]
          exact h6
      · rw [List.length_cons, cntS_cons, if_neg hs, Nat.zero_add]
        exact h5

theorem stUp_takeL : ∀ (l : List Oper) (res : Nat → AV) (L : Nat → Bool) (j : Nat) (st : St), stUp res L (l.take j) st = stUp res (fun i => decide (i < j) && L i) l st
  | [], _, _, j, st => by simp [stUp]
  | o :: l, res, L, 0, st => by
    have : ∀ (l : List Oper) (res : Nat → AV) (L : Nat → Bool) (st : St), stUp res (fun i => decide (i < 0) && L i) l st = st := by
      intro l
      induction l with
      | nil => intros; rfl
      | cons o l ih => intro res L st; simp only [stUp, Nat.not_lt_zero, decide_false, Bool.false_and, Bool.false_eq_true, if_false]; simpa using ih (fun i => res (i + 1)) (fun i => L (i + 1)) st
    rw [this]; rfl
  | o :: l, res, L, j + 1, st => by
    simp only [List.take_succ_cons, stUp]
    rw [stUp_takeL l]
    simp
theorem evO_rows (r : List (Nat × Nat × List (List IV))) (x : Operand) : evO { st with rows := r } x = evO st x := by cases x <;> rfl
theorem ivParts_rows (r : List (Nat × Nat × List (List IV))) : ∀ ps : List (Nat × Operand), ivParts { st with rows := r } ps = ivParts st ps
  | [] => rfl
  | (i, x) :: ps => by simp only [ivParts, evO_rows, ivParts_rows r ps]
theorem evO_rows' (r : List (Nat × Nat × List (List IV))) : evO { st with rows := r } = evO st := funext (evO_rows r)
theorem yv_rows (r : List (Nat × Nat × List (List IV))) {o : Oper} (h : isLoad o = false) : yv G { st with rows := r } o = yv G st o := by
  unfold yv
  unfold isLoad at h
  split at h
  · cases h
  · rename_i hno
    cases ho : o.op <;> first | (exact absurd ho (hno _ _)) | simp only [evO_rows, evO_rows', ivParts_rows]
theorem yLoad_mono {r : List (Nat × Nat × List (List IV))} (hr : ∀ d x, look st.rows d = some x → look r d = some x) {t : TypeId} {p av : AV} (h : yLoad G st t p = some av) : yLoad G { st with rows := r } t p = some av := by
  unfold yLoad at h ⊢
  split at h
  · cases h
  · rename_i h0
    rw [if_neg h0]
    split at h
    · exact h
    · split at h
      · rename_i hl
        dsimp only
        rw [hr _ _ hl]
        exact h
      · cases h
    · cases h
theorem yv_mono {r : List (Nat × Nat × List (List IV))} (hr : ∀ d x, look st.rows d = some x → look r d = some x) {o : Oper} {av : AV} (h : yv G st o = some av) : yv G { st with rows := r } o = some av := by
  cases hl : isLoad o with
  | false => rw [yv_rows r hl]; exact h
  | true =>
    unfold isLoad at hl
    split at hl
    · rename_i t p ho
      unfold yv at h ⊢
      rw [ho] at h ⊢
      dsimp only at h ⊢
      rw [evO_rows]
      exact yLoad_mono hr h
    · cases hl
theorem qStep_mono {r : List (Nat × Nat × List (List IV))} {o : Oper} {av : AV} (h : isLoad o = false ∨ ∀ d x, look st.rows d = some x → look r d = some x) (hq : qStep G ops st o av) : qStep G ops { st with rows := r } o av := by
  have hv : ∀ {av}, qVal G st o av → qVal G { st with rows := r } o av := fun hq => by
    rcases hq with hy | ⟨c, f, g, caps, xs, r', ho, hc, hf, hxs, hg⟩
    · rcases h with h | h
      · exact .inl (by rw [yv_rows r h]; exact hy)
      · exact .inl (yv_mono h hy)
    · exact .inr ⟨c, f, g, caps, xs, r', ho, hc, by rw [evO_rows]; exact hf, by rw [evO_rows']; exact hxs, hg⟩
  unfold qStep at hq ⊢
  split
  · rename_i hg; rw [hg] at hq; exact hv hq
  · rename_i j want hg
    rw [hg] at hq
    dsimp only at hq
    have hy : yieldA { st with rows := r } ops j = yieldA st ops j := rfl
    rw [hy]
    revert hq
    generalize yieldA st ops j = y
    intro hq
    cases y with
    | none => exact hq
    | some y => cases y with
      | none => exact hq
      | some b =>
        dsimp only at hq ⊢
        by_cases hb : b = want
        · rw [if_pos hb] at hq ⊢; exact hv hq
        · rw [if_neg hb] at hq ⊢; exact hq

/-- A state is known by what is looked up in it. -/
theorem Sim.congrL (h : Sim N w0 M0 β st a w) (hg : ∀ t, st.get t = st'.get t) (hr : ∀ d, look st.rows d = look st'.rows d) (ht : ∀ d, look st.toks d = look st'.toks d) : Sim N w0 M0 β st' a w := by
  have hM : Mo M0 β st' = Mo M0 β st := by
    funext b o
    simp only [Mo, hr, ht]
  refine ⟨h.size, h.defers, h.below, h.m0, fun t => ?_, fun d s es hd => ?_, fun d s n hd => ?_, fun d d' b h1 h2 => ?_, fun d hd => ?_⟩
  · rw [hM, ← hg]
    exact (h.fr t).move (Kept.refl w _) (fun _ _ => rfl) (fun d s n _ hl => by rw [ht]; exact hl) (fun _ _ _ _ _ => rfl)
  · rw [hM]; exact h.rows d s es (by rw [hr]; exact hd)
  · exact h.toks d s n (by rw [ht]; exact hd)
  · rw [← hr, ← ht] at h1 h2; exact h.inj d d' b h1 h2
  · rw [← ht]; rw [← hr] at hd; exact h.excl d hd

def aStores0 (G : Ctx) (K : St → Prop) (ops : List Oper) (st : St) : Prop := aStores G K ops { st with rows := mkRows G ops ++ st.rows }
theorem look_filterP {α : Type} (l : List (Nat × α)) (q : Nat → Bool) (d : Nat) : look (l.filter fun p => q p.1) d = if q d = true then look l d else none := by
  induction l with
  | nil => simp [look]
  | cons p l ih =>
    obtain ⟨j, v⟩ := p
    by_cases hj : q j = true
    · rw [List.filter_cons_of_pos (by simpa using hj)]
      by_cases hd : d = j
      · subst hd; simp only [look, if_true]; rw [if_pos hj]
      · simp only [look, hd, if_false, ih]
    · rw [List.filter_cons_of_neg (by simpa using hj), ih]
      by_cases hd : d = j
      · subst hd; rw [if_neg hj, if_neg hj]
      · simp only [look, hd, if_false]
theorem look_app {α : Type} (l l' : List (Nat × α)) (d : Nat) : look (l ++ l') d = match look l d with | some x => some x | none => look l' d := by
  induction l with
  | nil => rfl
  | cons p l ih =>
    obtain ⟨j, v⟩ := p
    by_cases hd : d = j
    · subst hd; simp [look]
    · simp only [List.cons_append, look, hd, if_false, ih]
/-- All variables of this number have come up. -/
def upB (G : Ctx) (ops : List Oper) (listed : Array Bool) (d : Nat) : Bool := (List.range ops.length).all fun i => match ops[i]? with
  | some o => (match allocOf G o with
    | some (k, _) => k != d || listed.getD i false
    | none => true)
  | none => true
theorem upB_iff {listed : Array Bool} {d : Nat} : upB G ops listed d = true ↔ ∀ (i : Nat) o z, ops[i]? = some o → allocOf G o = some (d, z) → listed.getD i false = true := by
  unfold upB
  rw [List.all_eq_true]
  constructor
  · intro h i o z hi ho
    have := h i (List.mem_range.2 (List.getElem?_eq_some_iff.1 hi).1)
    rw [hi] at this
    simp only [ho] at this
    simpa using this
  · intro h i hi
    rw [List.mem_range] at hi
    rw [List.getElem?_eq_getElem hi]
    dsimp only
    cases ho : allocOf G ops[i] with
    | none => rfl
    | some p =>
      obtain ⟨k, z⟩ := p
      dsimp only
      by_cases hk : k = d
      · subst hk; rw [h i _ z (List.getElem?_eq_getElem hi) ho]; simp
      · simp [hk]
theorem mkRows_none {d : Nat} : ∀ {l : List Oper}, (∀ o ∈ l, ∀ z, allocOf G o ≠ some (d, z)) → look (mkRows G l) d = none
  | [], _ => rfl
  | o :: l, h => by
    have ih := mkRows_none (l := l) fun o' ho' => h o' (List.mem_cons_of_mem _ ho')
    unfold mkRows
    split
    · rename_i k z ho
      have : d ≠ k := fun e => h o (List.mem_cons_self ..) z (by rw [ho, e])
      simp only [look, this, if_false]; exact ih
    · exact ih
theorem mkRows_some {d : Nat} {z : List IV} : ∀ {l : List Oper} {i : Nat} {o : Oper}, (∀ (i j : Nat) oi oj zi zj, l[i]? = some oi → l[j]? = some oj → allocOf G oi = some (d, zi) → allocOf G oj = some (d, zj) → i = j) →
    l[i]? = some o → allocOf G o = some (d, z) → look (mkRows G l) d = some (z.length, [z])
  | [], _, _, _, hi, _ => by simp at hi
  | o' :: l, 0, o, hu, hi, ho => by
    simp at hi; subst hi
    unfold mkRows
    rw [ho]
    simp [look]
  | o' :: l, i + 1, o, hu, hi, ho => by
    have ih := mkRows_some (l := l) (i := i) (o := o) (z := z) (fun i j oi oj zi zj h1 h2 h3 h4 => by
      have := hu (i + 1) (j + 1) oi oj zi zj (by simpa using h1) (by simpa using h2) h3 h4
      omega) (by simpa using hi) ho
    unfold mkRows
    split
    · rename_i k z' ho'
      have : d ≠ k := fun e => by
        subst e
        have := hu 0 (i + 1) o' o z' z rfl hi ho' ho
        omega
      simp only [look, this, if_false]; exact ih
    · exact ih
theorem St.Clean.fresh {d k : Nat} (h : st.Clean d) : (st.fresh k).Clean d := by
  refine ⟨fun t hr => ?_, ?_, ?_⟩
  · rw [get_fresh] at hr
    exact h.refs t (purge_refs_ne hr).1
  · by_cases e : d = k
    · subst e; simp [St.fresh, look_del_same]
    · simp only [St.fresh, look_del_ne _ e]; exact h.rows
  · by_cases e : d = k
    · subst e; simp [St.fresh, look_del_same]
    · simp only [St.fresh, look_del_ne _ e]; exact h.toks
theorem freshAll_clean {G : Ctx} {d : Nat} : ∀ (l : List Oper) (st : St), (st.Clean d ∨ ∃ o ∈ l, ∃ z, allocOf G o = some (d, z)) → (freshAll G l st).Clean d
  | [], st, h => by
    rcases h with h | ⟨o, ho, _⟩
    · exact h
    · cases ho
  | o :: l, st, h => by
    unfold freshAll
    split
    · rename_i k z ho
      refine freshAll_clean l _ ?_
      rcases h with h | ⟨o', ho', z', hz'⟩
      · exact .inl h.fresh
      · rcases List.mem_cons.1 ho' with rfl | ho'
        · rw [ho] at hz'; cases hz'
          exact .inl (clean_fresh _ _)
        · exact .inr ⟨o', ho', z', hz'⟩
    · rename_i ho
      refine freshAll_clean l _ ?_
      rcases h with h | ⟨o', ho', z', hz'⟩
      · exact .inl h
      · rcases List.mem_cons.1 ho' with rfl | ho'
        · rw [ho] at hz'; cases hz'
        · exact .inr ⟨o', ho', z', hz'⟩
theorem Sim.unref (h : Sim N w0 M0 β st a w) {d : Nat} (hc : st.Clean d) : Sim N w0 M0 (upd β d none) st a w := by
  have hM : ∀ b o, Mo M0 (upd β d none) st b o → Mo M0 β st b o := by
    rintro b o (hm | ⟨k, s, es, hk, hb⟩ | ⟨k, s, n, hk, hb⟩)
    · exact .inl hm
    · by_cases e : k = d
      · subst e; rw [upd_same] at hb; cases hb
      · rw [upd_ne _ _ e] at hb; exact .inr (.inl ⟨k, s, es, hk, hb⟩)
    · by_cases e : k = d
      · subst e; rw [upd_same] at hb; cases hb.1
      · rw [upd_ne _ _ e] at hb; exact .inr (.inr ⟨k, s, n, hk, hb⟩)
  refine ⟨h.size, h.defers, h.below, h.m0, fun t => ?_, fun k s es hk => ?_, fun k s n hk b hb => ?_, fun k k' b h1 h2 hb hb' => ?_, h.excl⟩
  · exact (h.fr t).move (Kept.less w hM) (fun k hr => upd_ne _ _ fun e => hc.refs t (e ▸ hr)) (fun _ _ _ _ hl => hl) (fun _ _ _ _ _ => rfl)
  · have e : k ≠ d := fun e => by subst e; rw [hc.rows] at hk; cases hk
    obtain ⟨b, h1, h2, h3⟩ := h.rows k s es hk
    exact ⟨b, by rw [upd_ne _ _ e]; exact h1, h2, h3.move (Kept.less w hM) rfl⟩
  · have e : k ≠ d := fun e => by subst e; rw [hc.toks] at hk; cases hk
    rw [upd_ne _ _ e] at hb
    exact h.toks k s n hk b hb
  · have dom : ∀ k, ((look st.rows k).isSome ∨ (look st.toks k).isSome) → k ≠ d := fun k hk e => by
      subst e; rw [hc.rows, hc.toks] at hk; simp at hk
    rw [upd_ne _ _ (dom k h1)] at hb
    rw [upd_ne _ _ (dom k' h2)] at hb'
    exact h.inj k k' b h1 h2 hb hb'
theorem Sim.freshAll : ∀ (l : List Oper) {st : St} {β : Nat → Option Nat}, Sim N w0 M0 β st a w → ∃ β', Sim N w0 M0 β' (freshAll G l st) a w ∧ (∀ d, β d = none → β' d = none) ∧ ∀ o ∈ l, ∀ d z, allocOf G o = some (d, z) → β' d = none
  | [], st, β, h => ⟨β, h, fun _ h => h, fun o ho => by cases ho⟩
  | o :: l, st, β, h => by
    unfold Abs.freshAll
    split
    · rename_i k z ho
      obtain ⟨β', h1, h2, h3⟩ := Sim.freshAll l ((h.fresh k).unref (clean_fresh st k))
      refine ⟨β', h1, fun d hd => h2 d ?_, fun o' ho' d z' hz' => ?_⟩
      · by_cases e : d = k
        · subst e; exact upd_same _ _ _
        · rw [upd_ne _ _ e]; exact hd
      · rcases List.mem_cons.1 ho' with rfl | ho'
        · rw [ho] at hz'; cases hz'
          exact h2 _ (upd_same _ _ _)
        · exact h3 o' ho' d z' hz'
    · rename_i ho
      obtain ⟨β', h1, h2, h3⟩ := Sim.freshAll l h
      refine ⟨β', h1, h2, fun o' ho' d z' hz' => ?_⟩
      rcases List.mem_cons.1 ho' with rfl | ho'
      · rw [ho] at hz'; cases hz'
      · exact h3 o' ho' d z' hz'
theorem RepA.moveB {w' : World} {M M' : Nat → Nat → Prop} {β' : Nat → Option Nat} {toks : List (Nat × Nat × Nat)} {av : AV} {v : Value} (h : RepA w M β toks av v) (hk : Kept w M w' M') (hβ : ∀ d b, β d = some b → β' d = some b)
    (hh : ∀ d b, (look toks d).isSome → β d = some b → w'.heap[b]? = w.heap[b]?) : RepA w' M' β' toks av v := by
  cases av with
  | im x => exact Rep.kept (w := w) h hk
  | und => trivial
  | sx es => exact ⟨Rep.kept h.1 hk, h.2⟩
  | vec d e s es =>
    refine ⟨Rep.kept h.1 hk, h.2.1, fun hl => ?_⟩
    rcases h.2.2 hl with hc | ⟨b, cap, cur, h1, h2, h3, h4⟩
    · exact .inl hc
    · exact .inr ⟨b, cap, cur, hβ d b h1, h2, by rw [hh d b (by simp [hl]) h1]; exact h3, h4⟩
  | osl d s i n =>
    obtain ⟨ad, c, h1, h2, h3⟩ := h
    exact ⟨ad, c, h1, h2, fun hn => let ⟨b, h4, h5⟩ := h3 hn; ⟨b, hβ d b h4, h5⟩⟩
  | loc d s i j =>
    obtain ⟨b, h1, h2⟩ := h
    exact ⟨b, hβ d b h1, h2⟩
/-- A new row under a number that stands for no block yet. -/
theorem Sim.newRowB (h : Sim N w0 M0 β st a w) {d s : Nat} {es : List (List IV)} {cells : Array Value} {T : TypeId} (hb0 : β d = none) (hr0 : look st.rows d = none) (ht0 : look st.toks d = none) (hes : ∀ e ∈ es, e.length = s)
    (hr : ∀ (i : Nat) e (j : Nat) x, es[i]? = some e → e[j]? = some x → x.one = true ∧ ∃ u, cells[i * s + j]? = some u ∧ Rep w (Mo M0 β st) x u) :
    Sim N w0 M0 (upd β d (some w.heap.size)) { st with rows := (d, s, es) :: st.rows } a (w.alloc (.cells cells T)) := by
  have hM : ∀ b o, Mo M0 (upd β d (some w.heap.size)) { st with rows := (d, s, es) :: st.rows } b o → b ≠ w.heap.size → Mo M0 β st b o := by
    intro b o hm hb
    rcases hm with hm | ⟨k, s', es', hk, hkb⟩ | ⟨k, s', n, hk, hkb⟩
    · exact .inl hm
    · by_cases e : k = d
      · subst e; rw [upd_same] at hkb; cases hkb; exact absurd rfl hb
      · rw [upd_ne _ _ e] at hkb
        exact .inr (.inl ⟨k, s', es', by simpa [look, e] using hk, hkb⟩)
    · by_cases e : k = d
      · subst e; exact absurd hk (by simp [ht0])
      · rw [upd_ne _ _ e] at hkb
        exact .inr (.inr ⟨k, s', n, hk, hkb⟩)
  have hk : Kept w (Mo M0 β st) (w.alloc (.cells cells T)) (Mo M0 (upd β d (some w.heap.size)) { st with rows := (d, s, es) :: st.rows }) := by
    intro b o u hcell hn
    have hb : b < w.heap.size := World.block_lt_of_cell? (a := ⟨b, o, none⟩) w hcell
    exact ⟨by rw [World.cell?_alloc_lt w _ _ hb]; exact hcell, fun hm => hn (hM b o hm (by omega))⟩
  have hold : ∀ b, b < w.heap.size → (w.alloc (.cells cells T)).heap[b]? = w.heap[b]? := fun b hb => heap_alloc_old w _ hb
  have hrowlt : ∀ k s es b, look st.rows k = some (s, es) → β k = some b → b < w.heap.size := fun k s es b hk hb => by
    obtain ⟨b', hb', _, cur, T', h1, _⟩ := h.rows k s es hk
    rw [hb] at hb'; cases hb'
    exact (Array.getElem?_eq_some_iff.1 h1).1
  refine ⟨h.size, h.defers, h.below.alloc h.below.size _, h.m0, fun t => ?_, fun k s' es' hk' => ?_, fun k s' n hk' b hb => ?_, fun k k' b h1 h2 hb hb' => ?_, fun k hk' => ?_⟩
  · refine (h.fr t).moveB hk (fun k b hb => ?_) (fun k b hl hb => ?_)
    · have e : k ≠ d := fun e => by subst e; rw [hb0] at hb; cases hb
      rw [upd_ne _ _ e]; exact hb
    · obtain ⟨⟨s', n⟩, hl'⟩ := Option.isSome_iff_exists.1 hl
      exact hold b (h.toks k s' n hl' b hb).2
  · by_cases e : k = d
    · subst e
      simp only [look, if_true, Option.some.injEq, Prod.mk.injEq] at hk'
      obtain ⟨rfl, rfl⟩ := hk'
      refine ⟨w.heap.size, upd_same _ _ _, h.below.size, cells, T, heap_alloc_new w _, hes, fun i e j x hi hj => ?_⟩
      obtain ⟨h1, u, h2, h3⟩ := hr i e j x hi hj
      exact ⟨h1, u, h2, h3.kept hk⟩
    · have hk2 : look st.rows k = some (s', es') := by simpa [look, e] using hk'
      obtain ⟨b, h1, h2, h3⟩ := h.rows k s' es' hk2
      exact ⟨b, by rw [upd_ne _ _ e]; exact h1, h2, h3.move hk (hold b (hrowlt k s' es' b hk2 h1))⟩
  · have e : k ≠ d := fun e => by subst e; rw [ht0] at hk'; cases hk'
    rw [upd_ne _ _ e] at hb
    obtain ⟨h1, h2⟩ := h.toks k s' n hk' b hb
    exact ⟨h1, by simp; omega⟩
  · have dom : ∀ k, ((look ((d, s, es) :: st.rows) k).isSome ∨ (look st.toks k).isSome) → k ≠ d → ((look st.rows k).isSome ∨ (look st.toks k).isSome) := fun k hk hne => by
      simpa [look, hne] using hk
    have lt : ∀ k b, ((look st.rows k).isSome ∨ (look st.toks k).isSome) → β k = some b → b < w.heap.size := fun k b hk hb => by
      rcases hk with hk | hk
      · obtain ⟨⟨s', es'⟩, hl⟩ := Option.isSome_iff_exists.1 hk
        exact hrowlt k s' es' b hl hb
      · obtain ⟨⟨s', n⟩, hl⟩ := Option.isSome_iff_exists.1 hk
        exact (h.toks k s' n hl b hb).2
    by_cases e : k = d <;> by_cases e' : k' = d
    · omega
    · subst e
      rw [upd_same] at hb; rw [upd_ne _ _ e'] at hb'
      cases hb
      exact absurd (lt k' _ (dom k' h2 e') hb') (by omega)
    · subst e'
      rw [upd_same] at hb'; rw [upd_ne _ _ e] at hb
      cases hb'
      exact absurd (lt k _ (dom k h1 e) hb) (by omega)
    · rw [upd_ne _ _ e] at hb; rw [upd_ne _ _ e'] at hb'
      exact h.inj k k' b (dom k h1 e) (dom k' h2 e') hb hb'
  · by_cases e : k = d
    · subst e; exact ht0
    · exact h.excl k (by simpa [look, e] using hk')

theorem drawS_sound (hG : G.Good) (id : Nat) (hB : drawS ops.toArray = true) (hd : ∀ o ∈ ops, ∀ d, o.dst = some d → d < N) {K : St → Prop} {Q' : Exit → Act → World → Prop}
    (hK : ∀ st' β' a' w', K st' → Sim N w0 M0 β' st' a' w' → Q' .normal a' w') (h : Sim N w0 M0 β st a w)
    (hA : aheadS G ops (aStores0 G K ops) ops (freshAll G ops st)) : (Code.region id ops.toArray true).wp G.P Q' a w := by
  obtain ⟨hafter, hpair, hstore, hone⟩ := drawS_spec hB
  obtain ⟨β0, h, hβ0⟩ : ∃ β0, Sim N w0 M0 β0 (freshAll G ops st) a w ∧ ∀ o ∈ ops, ∀ d z, allocOf G o = some (d, z) → β0 d = none := by
    obtain ⟨β', h1, _, h3⟩ := Sim.freshAll (G := G) ops h
    exact ⟨β', h1, h3⟩
  have hclean : ∀ o ∈ ops, ∀ d z, allocOf G o = some (d, z) → (freshAll G ops st).Clean d := fun o ho d z hz => freshAll_clean ops st (.inr ⟨o, ho, z, hz⟩)
  generalize freshAll G ops st = st at hA h hclean
  obtain ⟨res, hres, hst⟩ := aheadS_res _ _ hA
  unfold aStores0 at hst
  obtain ⟨rk, hrk0, hrk, hfin⟩ := aStores_res _ _ hst
  have hsz : ops.toArray.size = ops.length := by simp
  have arr : ∀ (i : Nat) (o : Oper), ops[i]? = some o → ops.toArray[i]? = some o := fun i o h => by simpa using h
  have rra : ∀ (i : Nat) (o : Oper), ops.toArray[i]? = some o → ops[i]? = some o := fun i o h => by simpa using h
  have sdst : ∀ o, isStore o = true → o.dst = none ∧ o.guard = none := fun o ho => by
    unfold isStore at ho
    split at ho
    · simp only [Bool.and_eq_true, Option.isNone_iff_eq_none] at ho; exact ⟨ho.2, ho.1⟩
    · cases ho
  have huni : ∀ (d i j : Nat) oi oj zi zj, ops[i]? = some oi → ops[j]? = some oj → allocOf G oi = some (d, zi) → allocOf G oj = some (d, zj) → i = j := fun d i j oi oj zi zj h1 h2 h3 h4 => by
    obtain ⟨_, _, d1, _, _, a1, _⟩ := allocOf_spec h3
    obtain ⟨_, _, d2, _, _, a2, _⟩ := allocOf_spec h4
    exact hone i j oi oj d (arr i oi h1) (arr j oj h2) a1 a2 d1 d2
  -- the state when the operations of 'listed' have come up, m stores among them
  have main : ∀ c (listed : Array Bool) (m : Nat) (a : Act) (w : World) (β : Nat → Option Nat), cntB listed ops.toArray.size = c → HeadInv .any ops.toArray ops.toArray.size listed → m ≤ cntS ops ops.length →
      (∀ s o, ops[s]? = some o → isStore o = true → (listed.getD s false = true ↔ cntS ops s < m)) →
      (∀ i o d z, ops[i]? = some o → allocOf G o = some (d, z) → listed.getD i false = false → β d = none ∧ look (rk m) d = some (z.length, [z])) →
      Sim N w0 M0 β { stUp res (fun i => listed.getD i false && headL ops i) ops st with rows := (rk m).filter fun p => upB G ops listed p.1 } a w → wpAny G.P .any ops.toArray Q' c listed a w := by
    intro c
    induction c with
    | zero =>
      intro listed m a w β hc inv hm hls hal hs
      have hall := cntB_zero hc
      have hmm : m = cntS ops ops.length := by
        rcases Nat.lt_or_ge m (cntS ops ops.length) with hlt | hge
        · obtain ⟨s, o, h1, h2, h3, h4⟩ := cntS_ex hlt
          have := (hls s o h2 h3).1 (hall s (by rw [hsz]; exact h1))
          omega
        · omega
      subst hmm
      refine ⟨?_, ?_⟩
      · cases hr : Region.ready .any ops.toArray listed with
        | nil => rfl
        | cons i r =>
          have hi : i ∈ Region.ready .any ops.toArray listed := by rw [hr]; exact List.mem_cons_self ..
          obtain ⟨hun, oi, hoi, _⟩ := mem_ready.1 hi
          have hisz : i < ops.toArray.size := (Array.getElem?_eq_some_iff.1 hoi).1
          have := hall i hisz
          rw [getD_both hun] at this; cases this
      · refine hK _ _ _ _ hfin (hs.congrL (fun t => ?_) (fun d => ?_) (fun d => ?_))
        · exact stUp_get _ _ _ _ _ _ rfl fun i o hi _ => by
            have := hall i (by rw [hsz]; exact (List.getElem?_eq_some_iff.1 hi).1)
            rw [this, Bool.true_and]
        · show look (List.filter (fun p => upB G ops listed p.1) _) d = look _ d
          rw [look_filterP, if_pos (upB_iff.2 fun i o z hi _ => hall i (by rw [hsz]; exact (List.getElem?_eq_some_iff.1 hi).1))]
        · show look (stUp _ _ _ _).toks d = look (stUp _ _ _ _).toks d
          rw [(stUp_rows _ _ _ _).2, (stUp_rows _ _ _ _).2]
    | succ c ih =>
      intro listed m a w β hc inv hm hls hal hs
      obtain ⟨i0, hi0, hun0, hmin⟩ := cntB_pos (by omega : cntB listed ops.toArray.size ≠ 0)
      have hready0 : i0 ∈ Region.ready .any ops.toArray listed := by
        have hil : i0 < ops.length := by rw [← hsz]; omega
        exact mem_ready.2 ⟨getD_in (by rw [inv.size]; exact hi0) hun0, ops[i0], arr i0 _ (List.getElem?_eq_getElem hil), fun e he hb => hmin _ (hafter i0 _ (arr _ _ (List.getElem?_eq_getElem hil)) e he hb)⟩
      refine ⟨fun hr => (by rw [hr] at hready0; cases hready0), fun i hi => ?_⟩
      obtain ⟨hun, oi, hoi, hall⟩ := mem_ready.1 hi
      have hoi' := rra i oi hoi
      have hisz : i < ops.toArray.size := (Array.getElem?_eq_some_iff.1 hoi).1
      have hunf : listed.getD i false = false := getD_both hun
      have hisL : i < listed.size := by rw [inv.size]; exact hisz
      have hcnt : cntB (listed.setIfInBounds i true) ops.toArray.size = c := by
        have := cntB_set hisL hunf ops.toArray.size
        rw [if_pos hisz] at this; omega
      have hset : ∀ k, k ≠ i → (listed.setIfInBounds i true).getD k false = listed.getD k false := fun k hk => getD_set_ne false (Ne.symm hk)
      have hseti : (listed.setIfInBounds i true).getD i false = true := by simp [hisL]
      have hupn : allocOf G oi = none → ∀ d, upB G ops (listed.setIfInBounds i true) d = upB G ops listed d := fun hno d => by
        rw [Bool.eq_iff_iff, upB_iff, upB_iff]
        have : ∀ (k : Nat) o z, ops[k]? = some o → allocOf G o = some (d, z) → k ≠ i := fun k o z hk ho e => by
          subst e; rw [hoi'] at hk; cases hk; rw [hno] at ho; cases ho
        constructor
        · intro h k o z hk ho; rw [← hset k (this k o z hk ho)]; exact h k o z hk ho
        · intro h k o z hk ho; rw [hset k (this k o z hk ho)]; exact h k o z hk ho
      cases hsi : isStore oi with
      | true =>
        have hno : allocOf G oi = none := by
          cases hc' : allocOf G oi with
          | none => rfl
          | some p => obtain ⟨_, _, _, _, _, _, hst', _⟩ := allocOf_spec (d := p.1) (z := p.2) hc'; rw [hsi] at hst'; cases hst'
        obtain ⟨hdn, hgn⟩ := sdst oi hsi
        have hmi : m = cntS ops i := by
          rcases Nat.lt_or_ge m (cntS ops i) with hlt | hge
          · obtain ⟨s, o, h1, h2, h3, h4⟩ := cntS_ex hlt
            have hl := afters_ready inv.closed hoi hall _ (hstore s i o oi (arr s o h2) hoi hsi (.inl ⟨h3, h1⟩))
            have := (hls s o h2 h3).1 hl
            omega
          · have := mt (hls i oi hoi' hsi).2 (by rw [hunf]; simp)
            omega
        obtain ⟨t, p, x, hop, hq⟩ := hrk i oi hoi' hsi
        -- the operands stand as in the text's order
        have hev : ∀ z : Operand, z ∈ oi.op.operands → evO { stUp res (fun i => listed.getD i false && headL ops i) ops st with rows := (rk m).filter fun p => upB G ops listed p.1 } z = evO { stUp res (headL ops) ops st with rows := rk (cntS ops i) } z := by
          intro z hz
          rw [evO_rows, evO_rows]
          refine evO_congr fun t' hzt => stUp_get _ _ _ _ _ _ rfl fun k ok hk hdk => ?_
          have hsk : isStore ok = false := by
            cases hb : isStore ok with
            | false => rfl
            | true => rw [(sdst ok hb).1] at hdk; cases hdk
          have hlk := afters_ready inv.closed hoi hall _ (hstore k i ok oi (arr k ok hk) hoi hsi (.inr (.inr ⟨hsk, t', hdk, mem_looksAt_op hz hzt⟩)))
          rw [hlk, Bool.true_and]
        have hx : x ∈ oi.op.operands := by rw [hop]; simp [Op.operands]
        have hp : p ∈ oi.op.operands := by rw [hop]; simp [Op.operands]
        unfold aStQ at hq
        rw [← hev x hx, ← hev p hp] at hq
        split at hq
        · rename_i y d s i1 j hy hpl
          split at hq
          · rename_i s' es hrow
            split at hq
            · rename_i cc hic
              obtain ⟨rfl, h0, hl, hones, hj, hrows⟩ := hq
              have hr := ivOf_rep (evO_rep hs x) hy
              have hpv := evO_rep hs p
              rw [hpl] at hpv
              have hbd : β d ≠ none := by
                obtain ⟨b, hb, _⟩ := hpv
                rw [hb]; simp
              have hupd : upB G ops listed d = true := upB_iff.2 fun k o z hk ho => by
                cases hlk : listed.getD k false with
                | true => rfl
                | false => exact absurd (hal k o d z hk ho hlk).1 hbd
              have hrowm : look (rk m) d = some (s', es) := by rw [hmi]; exact hrow
              have hrow' : look ({ stUp res (fun i => listed.getD i false && headL ops i) ops st with rows := (rk m).filter fun p => upB G ops listed p.1 } : St).rows d = some (s', es) := by
                show look (List.filter (fun p => upB G ops listed p.1) _) d = _
                rw [look_filterP, if_pos hupd]; exact hrowm
              obtain ⟨w', hrun, hsim⟩ := store_run hG.ok hs h0 hrow' hic hl hones hj hpv hr
              have hrows' : rk (m + 1) = setRow (rk m) d s' (es.set i1 (setCells cc j (cellsOf y))) := by rw [hmi]; exact hrows.symm
              have hm1 : m + 1 ≤ cntS ops ops.length := by
                have := cntS_lt hoi' hsi (by rw [← hsz]; exact hisz : i < ops.length)
                omega
              have next : wpAny G.P .any ops.toArray Q' c (listed.setIfInBounds i true) a w' := by
                refine ih _ (m + 1) _ _ β hcnt (inv.set hi hisz) hm1 (fun s o hs' ho' => ?_) (fun k o d' z hk ho hlk => ?_) ?_
                · by_cases hsi' : s = i
                  · subst hsi'
                    rw [hseti]; simp; omega
                  · rw [hset s hsi', hls s o hs' ho']
                    have : cntS ops s ≠ m := fun e => by
                      rcases Nat.lt_or_gt_of_ne hsi' with hlt | hgt
                      · have := cntS_lt hs' ho' hlt; omega
                      · have := cntS_lt hoi' hsi hgt; omega
                    omega
                · have hki : k ≠ i := fun e => by subst e; rw [hseti] at hlk; cases hlk
                  rw [hset k hki] at hlk
                  obtain ⟨h1, h2⟩ := hal k o d' z hk ho hlk
                  have hne : d' ≠ d := fun e => by subst e; exact hbd h1
                  refine ⟨h1, ?_⟩
                  rw [hrows', look_setRow_ne hne]; exact h2
                · refine hsim.congrL (fun t' => ?_) (fun k => ?_) (fun k => ?_)
                  · refine stUp_get (st := st) (st' := st) ops _ _ _ rfl fun k ok hk hdk => ?_
                    have hki : k ≠ i := fun e => by
                      subst e; rw [hoi'] at hk; cases hk
                      rw [hdn] at hdk; cases hdk
                    rw [hset k hki]
                  · show look (setRow (List.filter (fun p => upB G ops listed p.1) (rk m)) d s' _) k = look (List.filter (fun p => upB G ops (listed.setIfInBounds i true) p.1) (rk (m + 1))) k
                    rw [look_filterP, hupn hno, hrows']
                    by_cases hk : k = d
                    · subst hk
                      rw [if_pos hupd, look_setRow_same (by rw [look_filterP, if_pos hupd, hrowm]; rfl), look_setRow_same (by rw [hrowm]; rfl)]
                    · rw [look_setRow_ne hk, look_setRow_ne hk, look_filterP]
                  · show look (stUp _ _ _ _).toks k = look (stUp _ _ _ _).toks k
                    rw [(stUp_rows _ _ _ _).2, (stUp_rows _ _ _ _).2]
              unfold wpOp
              rw [hoi]
              dsimp only
              rw [if_pos (by simp [Region.wanted, hgn])]
              refine .inl ?_
              unfold Oper.wp execOp
              rw [hop]
              simp only [Sem.run_bind, hrun, Result.andThen_ok, Sem.run_pure, Oper.upon_skip]
              rw [hdn]
              exact next
            · exact hq.elim
          · exact hq.elim
        · exact hq.elim
      | false =>
        have hhead : headL ops i = true := by simp [headL, hoi', hsi]
        have hwait : ∀ k, Region.waitsFor .any ops.toArray i k = true → listed.getD k false = true := fun k hk => by
          obtain ⟨oj, hoj, e, he, hb, hon⟩ := Region.waitsFor_spec hk
          rw [hoi] at hoj; cases hoj
          rw [← hon]; exact hall e he hb
        have hlate : ∀ k, Region.waitsFor .any ops.toArray k i = true → listed.getD k false = false := fun k hk => by
          obtain ⟨ok, hok, e, he, hb, hon⟩ := Region.waitsFor_spec hk
          cases hl : listed.getD k false with
          | false => rfl
          | true =>
            have := inv.closed k ok hok hl e he hb
            rw [hon, hunf] at this; cases this
        have hnst : ∀ (k : Nat) (ok : Oper) (t : Nat), ops[k]? = some ok → ok.dst = some t → isStore ok = false := fun k ok t hk hdk => by
          cases hb : isStore ok with
          | false => rfl
          | true => rw [(sdst ok hb).1] at hdk; cases hdk
        have hagree : ∀ t ∈ oi.looksAt ops.toArray, (stUp res (headL ops) (ops.take i) st).get t = (stUp res (fun k => listed.getD k false && headL ops k) ops st).get t := by
          intro t ht
          rw [stUp_takeL]
          refine stUp_get _ _ _ _ _ _ rfl fun k ok hok hdk => ?_
          have hsk := hnst k ok t hok hdk
          have hhk : headL ops k = true := by simp [headL, hok, hsk]
          rw [hhk, Bool.and_true, Bool.and_true]
          rcases Nat.lt_trichotomy k i with hki | hki | hki
          · rcases hpair k i ok oi hki (arr k ok hok) hoi hsk hsi with hw | hap
            · rw [hwait k hw]; simp [hki]
            · exact absurd ht ((Oper.apart_spec hap).1 t hdk)
          · subst hki; rw [hunf]; simp
          · rcases hpair i k oi ok hki hoi (arr k ok hok) hsi hsk with hw | hap
            · rw [hlate k hw]; simp; omega
            · exact absurd ht ((Oper.apart_spec hap).2.2 t hdk)
        have hstUp : ∀ v, (St.put (stUp res (fun k => listed.getD k false && headL ops k) ops st) oi.dst (res i)) = v → ∀ t, v.get t = (stUp res (fun k => (listed.setIfInBounds i true).getD k false && headL ops k) ops st).get t := fun v hv t => by
          subst hv
          by_cases hdt : oi.dst = some t
          · rw [hdt, get_put_same]
            refine (stUp_last ops res _ st i oi hoi' hdt (by rw [hseti, hhead]; rfl) fun k ok hik hok hLk hdk => ?_).symm
            have hsk := hnst k ok t hok hdk
            rw [Bool.and_eq_true] at hLk
            rw [hset k (by omega)] at hLk
            rcases hpair i k oi ok hik hoi (arr k ok hok) hsi hsk with hw | hap
            · rw [hlate k hw] at hLk; cases hLk.1
            · exact (Oper.apart_spec hap).2.1 t hdt hdk
          · rw [get_put_ne hdt]
            refine stUp_get (st := st) (st' := st) ops _ _ _ rfl fun k ok hk hdk => ?_
            have : k ≠ i := fun e => by
              subst e
              rw [hoi'] at hk; cases hk
              exact hdt hdk
            rw [hset k this]
        have hls' : ∀ s o, ops[s]? = some o → isStore o = true → ((listed.setIfInBounds i true).getD s false = true ↔ cntS ops s < m) := fun s o hs' ho' => by
          have : s ≠ i := fun e => by subst e; rw [hoi'] at hs'; cases hs'; rw [hsi] at ho'; cases ho'
          rw [hset s this]; exact hls s o hs' ho'
        have hresi := hres i oi hoi' hsi
        unfold hStep at hresi
        cases hno : allocOf G oi with
        | some p =>
          obtain ⟨d, z⟩ := p
          rw [hno] at hresi
          dsimp only at hresi
          obtain ⟨t, hop, hdst, hgu, hz, _⟩ := allocOf_spec hno
          obtain ⟨hbd, hrkd⟩ := hal i oi d z hoi' hno hunf
          have hcl := hclean oi (List.mem_of_getElem? hoi') d z hno
          have hupd : upB G ops listed d = false := by
            cases hu : upB G ops listed d with
            | false => rfl
            | true => rw [upB_iff.1 hu i oi z hoi' hno] at hunf; cases hunf
          have hupd' : upB G ops (listed.setIfInBounds i true) d = true := upB_iff.2 fun k o z' hk ho => by
            rw [huni d k i o oi z' z hk hoi' ho hno]; exact hseti
          have hupk : ∀ k, k ≠ d → upB G ops (listed.setIfInBounds i true) k = upB G ops listed k := fun k hkd => by
            rw [Bool.eq_iff_iff, upB_iff, upB_iff]
            have : ∀ (j : Nat) o z', ops[j]? = some o → allocOf G o = some (k, z') → j ≠ i := fun j o z' hj ho e => by
              subst e; rw [hoi'] at hj; cases hj; rw [hno] at ho; cases ho; exact hkd rfl
            constructor
            · intro h j o z' hj ho; rw [← hset j (this j o z' hj ho)]; exact h j o z' hj ho
            · intro h j o z' hj ho; rw [hset j (this j o z' hj ho)]; exact h j o z' hj ho
          obtain ⟨zv, hzr, hz1, hz2, _, hzs⟩ := zeroIV_run hG.ok hz w (Mo M0 β { stUp res (fun k => listed.getD k false && headL ops k) ops st with rows := (rk m).filter fun p => upB G ops listed p.1 })
          have hrow : ∀ (i' : Nat) e (j : Nat) x, [z][i']? = some e → e[j]? = some x → x.one = true ∧ ∃ u, zv.cells[i' * z.length + j]? = some u ∧ Rep w (Mo M0 β { stUp res (fun k => listed.getD k false && headL ops k) ops st with rows := (rk m).filter fun p => upB G ops listed p.1 }) x u := by
            intro i' e j x hi' hj
            cases i' with
            | succ i' => simp at hi'
            | zero =>
              simp at hi'; subst hi'
              have hlt : j < zv.cells.toList.length := by rw [← hz1.1]; exact (List.getElem?_eq_some_iff.1 hj).1
              have hu := List.getElem?_eq_getElem hlt
              refine ⟨hz2 x (List.mem_of_getElem? hj), _, ?_, hz1.2 j x _ hj hu⟩
              rw [Nat.zero_mul, Nat.zero_add, ← Array.getElem?_toList]; exact hu
          have hnew := hs.newRowB (T := t) (d := d) (s := z.length) (es := [z]) hbd (by
            show look (List.filter (fun p => upB G ops listed p.1) _) d = none
            rw [look_filterP, hupd]; rfl) (by
            show look (stUp _ _ _ _).toks d = none
            rw [(stUp_rows _ _ _ _).2]; exact hcl.toks) (fun e he => by simp at he; rw [he]) hrow
          have hput := hnew.put (dst := some d) (av := .loc d z.length 0 0) (v := .pointer (some ⟨w.heap.size, 0, none⟩)) (fun d' e => by cases e; exact hd oi (List.mem_of_getElem? hoi') d hdst) ⟨w.heap.size, upd_same _ _ _, by simp⟩
          have next : wpAny G.P .any ops.toArray Q' c (listed.setIfInBounds i true) (a.put (some d) (.pointer (some ⟨w.heap.size, 0, none⟩))) (w.alloc (.cells zv.cells t)) := by
            refine ih _ m _ _ _ hcnt (inv.set hi hisz) hm hls' (fun k o d' z' hk ho hlk => ?_) (hput.congrL (fun t' => ?_) (fun k => ?_) (fun k => ?_))
            · have hki : k ≠ i := fun e => by subst e; rw [hseti] at hlk; cases hlk
              rw [hset k hki] at hlk
              have hne : d' ≠ d := fun e => by subst e; exact hki (huni d' k i o oi z' z hk hoi' ho hno)
              obtain ⟨h1, h2⟩ := hal k o d' z' hk ho hlk
              exact ⟨by rw [upd_ne _ _ hne]; exact h1, h2⟩
            · have := hstUp _ rfl t'
              rw [hdst, hresi] at this
              exact this
            · show look ((d, z.length, [z]) :: List.filter (fun p => upB G ops listed p.1) (rk m)) k = look (List.filter (fun p => upB G ops (listed.setIfInBounds i true) p.1) (rk m)) k
              rw [look_filterP]
              by_cases hk : k = d
              · subst hk
                rw [if_pos hupd', hrkd]; simp [look]
              · rw [hupk k hk]
                simp only [look, hk, if_false]
                rw [look_filterP]
            · show look (stUp _ _ _ _).toks k = look (stUp _ _ _ _).toks k
              rw [(stUp_rows _ _ _ _).2, (stUp_rows _ _ _ _).2]
          unfold wpOp
          rw [hoi]
          dsimp only
          rw [if_pos (by simp [Region.wanted, hgu])]
          refine .inl ?_
          unfold Oper.wp execOp
          rw [hop]
          simp only [Instr.alloc, Sem.run_bind, hzr, Result.andThen_ok, newVar, newRow, run_newObj, Sem.run_pure, World.alloc_eq, Oper.upon_value, hdst]
          exact next
        | none =>
        rw [hno] at hresi
        dsimp only at hresi
        have hq0 : qStep G ops (stUp res (fun k => listed.getD k false && headL ops k) ops st) oi (res i) :=
          qStep_congr hagree (by rw [(stUp_rows _ _ _ _).1, (stUp_rows _ _ _ _).1]) hresi
        have hq : qStep G ops { stUp res (fun k => listed.getD k false && headL ops k) ops st with rows := (rk m).filter fun p => upB G ops listed p.1 } oi (res i) := by
          refine qStep_mono ?_ hq0
          cases hld : isLoad oi with
          | false => exact .inl rfl
          | true =>
            refine .inr fun d x hx => ?_
            rw [(stUp_rows _ _ _ _).1] at hx
            have hm0 : m = 0 := by
              rcases Nat.eq_zero_or_pos m with e | hpos
              · exact e
              · have hlt : 0 < cntS ops ops.length := by omega
                obtain ⟨s, o, h1, h2, h3, h4⟩ := cntS_ex hlt
                have hl := (hls s o h2 h3).2 (by omega)
                have := afters_listed inv.closed _ _ (hstore i s oi o hoi (arr s o h2) h3 (.inr (.inl hld))) hl
                rw [hunf] at this; cases this
            have hnk : ∀ o ∈ ops, ∀ z, allocOf G o ≠ some (d, z) := fun o ho z hz => by
              rw [(hclean o ho d z hz).rows] at hx; cases hx
            rw [look_filterP, if_pos (upB_iff.2 fun k o z hk ho => absurd ho (hnk o (List.mem_of_getElem? hk) z)), hm0, hrk0]
            show look (mkRows G ops ++ (stUp _ _ _ _).rows) d = _
            rw [look_app, mkRows_none hnk, (stUp_rows _ _ _ _).1]
            exact hx
        have next : ∀ v w2, Below w.heap.size w w2 → RepA w2 (Mo M0 β { stUp res (fun k => listed.getD k false && headL ops k) ops st with rows := (rk m).filter fun p => upB G ops listed p.1 }) β (stUp res (fun k => listed.getD k false && headL ops k) ops st).toks (res i) v →
            wpAny G.P .any ops.toArray Q' c (listed.setIfInBounds i true) (a.put oi.dst v) w2 := by
          intro v w2 hb hv
          have hs2 := (hs.ext hb).put (dst := oi.dst) (hd oi (List.mem_of_getElem? hoi')) hv
          have hpr : ∀ (s : St) d v, (s.put d v).rows = s.rows ∧ (s.put d v).toks = s.toks := fun s d v => by unfold St.put; split <;> exact ⟨rfl, rfl⟩
          refine ih _ m _ _ β hcnt (inv.set hi hisz) hm hls' (fun k o d z hk ho hlk => ?_) (hs2.congrL (fun t => ?_) (fun k => ?_) (fun k => ?_))
          · have hki : k ≠ i := fun e => by subst e; rw [hseti] at hlk; cases hlk
            rw [hset k hki] at hlk
            exact hal k o d z hk ho hlk
          · refine Eq.trans ?_ (hstUp _ rfl t)
            cases oi.dst <;> rfl
          · rw [(hpr _ _ _).1]
            show look (List.filter (fun p => upB G ops listed p.1) (rk m)) k = look (List.filter (fun p => upB G ops (listed.setIfInBounds i true) p.1) (rk m)) k
            rw [look_filterP, look_filterP, hupn hno]
          · rw [(hpr _ _ _).2]
            show look (stUp _ _ _ _).toks k = look (stUp _ _ _ _).toks k
            rw [(stUp_rows _ _ _ _).2, (stUp_rows _ _ _ _).2]
        unfold wpOp
        rw [hoi]
        dsimp only
        unfold qStep at hq
        cases hg : oi.guard with
        | none =>
          rw [hg] at hq
          rw [if_pos (by simp [Region.wanted, hg])]
          exact .inl (qVal_sound hG hs hq next)
        | some p =>
          obtain ⟨j, want⟩ := p
          rw [hg] at hq
          dsimp only at hq
          split at hq
          · rename_i b hy
            have hyc := yieldA_some hs hy
            by_cases hb : b = want
            · rw [if_pos hb] at hq
              rw [if_pos (by simp [Region.wanted, hg, hyc, hb])]
              exact .inl (qVal_sound hG hs hq next)
            · rw [if_neg hb] at hq
              rw [if_neg (by simp [Region.wanted, hg, hyc, hb])]
              exact next _ w (Below.refl _ _) (by rw [hq]; exact Rep.sc _ rfl)
          · rename_i hy
            have hyc := yieldA_none hs hy
            rw [if_neg (by simp [Region.wanted, hg, hyc])]
            exact next _ w (Below.refl _ _) (by rw [hq]; exact Rep.sc _ rfl)
          · exact hq.elim
  refine wp_region_any hG.mixed ?_
  have inv0 : HeadInv .any ops.toArray ops.toArray.size (Array.replicate ops.toArray.size false) :=
    ⟨by simp, fun j oj _ hl => (by rw [getD_replicate_false] at hl; cases hl), fun t h1 h2 => by omega⟩
  have hc0 : ∀ k, cntB (Array.replicate ops.toArray.size false) k = k := fun k => by
    induction k with
    | zero => rfl
    | succ k ihk => simp only [cntB, ihk, getD_replicate_false]; simp
  have hf : ∀ (l : List Oper) (res : Nat → AV) (L : Nat → Bool) (st : St), (∀ i, L i = false) → stUp res L l st = st := by
    intro l
    induction l with
    | nil => intros; rfl
    | cons o l ih =>
      intro res L st hL
      simp only [stUp, hL 0]
      exact ih _ _ _ fun i => hL (i + 1)
  have hnone : ∀ i : Nat, (Array.replicate ops.toArray.size false).getD i false = false := fun i => getD_replicate_false _ _
  have hrk0' : rk 0 = mkRows G ops ++ st.rows := by rw [hrk0]; show mkRows G ops ++ (stUp _ _ _ _).rows = _; rw [(stUp_rows _ _ _ _).1]
  refine main ops.toArray.size (Array.replicate ops.toArray.size false) 0 a _ β0 (hc0 _) inv0 (Nat.zero_le _) (fun s o _ _ => by rw [getD_replicate_false]; simp) (fun i o d z hi ho _ => ⟨hβ0 o (List.mem_of_getElem? hi) d z ho, ?_⟩) ?_
  · rw [hrk0', look_app, mkRows_some (fun i j oi oj zi zj => huni d i j oi oj zi zj) hi ho]
  rw [hf _ _ _ _ fun i => by rw [getD_replicate_false]; rfl]
  refine (h.drew).congrL (fun t => rfl) (fun d => ?_) (fun d => rfl)
  show look st.rows d = look (List.filter (fun p => upB G ops _ p.1) (rk 0)) d
  rw [look_filterP, hrk0']
  by_cases hk : ∃ o ∈ ops, ∃ z, allocOf G o = some (d, z)
  · obtain ⟨o, ho, z, hz⟩ := hk
    obtain ⟨i, hi⟩ := List.getElem?_of_mem ho
    rw [(hclean o ho d z hz).rows]
    split
    · rename_i hu
      have := upB_iff.1 hu i o z hi hz
      rw [hnone] at this; cases this
    · rfl
  · have hnk : ∀ o ∈ ops, ∀ z, allocOf G o ≠ some (d, z) := fun o ho z hz => hk ⟨o, ho, z, hz⟩
    rw [if_pos (upB_iff.2 fun k o z hk ho => absurd ho (hnk o (List.mem_of_getElem? hk) z)), look_app, mkRows_none hnk]
end
end Go.Abs
