/-
  A store into a row of the call's own; append. Program-independent. The generic layer under all claims of this repo: 11 of several.
-/
import Derived.Test.YtpnlfkaijdjhlaaAbs10
namespace Go.Abs
set_option linter.all false
open Go.RowKit (Below)

def setRow (l : List (Nat × Nat × List (List IV))) (d s : Nat) (es : List (List IV)) : List (Nat × Nat × List (List IV)) :=
  l.map fun p => if p.1 = d then (p.1, s, es) else p
theorem look_setRow_same {l : List (Nat × Nat × List (List IV))} {d s : Nat} {es : List (List IV)} (h : (look l d).isSome) : look (setRow l d s es) d = some (s, es) := by
  induction l with
  | nil => simp [look] at h
  | cons p l ih =>
    obtain ⟨j, v⟩ := p
    by_cases e : d = j
    · subst e; simp [setRow, look]
    · have hl : (look l d).isSome := by simpa [look, e] using h
      simp only [setRow, List.map_cons, Ne.symm e, if_false, look, e]
      exact ih hl
theorem look_setRow_ne {l : List (Nat × Nat × List (List IV))} {d s k : Nat} {es : List (List IV)} (h : k ≠ d) : look (setRow l d s es) k = look l k := by
  induction l with
  | nil => rfl
  | cons p l ih =>
    obtain ⟨j, v⟩ := p
    by_cases e : j = d
    · subst e
      simp only [setRow, List.map_cons, if_true, look, h, if_false]
      exact ih
    · simp only [setRow, List.map_cons, e, if_false, look]
      split
      · rfl
      · exact ih
theorem look_setRow_some {l : List (Nat × Nat × List (List IV))} {d s k : Nat} {es : List (List IV)} : (look (setRow l d s es) k).isSome = (look l k).isSome := by
  by_cases e : k = d
  · subst e
    by_cases h : (look l k).isSome
    · rw [look_setRow_same h, h]; rfl
    · have hn : look l k = none := by simpa using h
      have : look (setRow l k s es) k = none := by
        clear h
        induction l with
        | nil => rfl
        | cons p l ih =>
          obtain ⟨j, v⟩ := p
          by_cases e : k = j
          · subst e; simp [look] at hn
          · have hl : look l k = none := by simpa [look, e] using hn
            simp only [setRow, List.map_cons, Ne.symm e, if_false, look, e]
            exact ih hl
      rw [this, hn]
  · rw [look_setRow_ne e]

section
variable {G : Ctx} {N : Nat} {w0 w w' : World} {M M' M0 : Nat → Nat → Prop} {β β' : Nat → Option Nat} {st : St} {a : Act} {toks toks' : List (Nat × Nat × Nat)} {av : AV} {v : Value}

theorem heap_setRow (w : World) (g : Nat) (cs cur : Array Value) (T : TypeId) (hg : w.heap[g]? = some (.cells cur T (0, 0))) : (w.setRow g cs).heap[g]? = some (.cells cs T (0, 0)) :=
  setRow_heap w g cur cs T _ hg

/-- Block b, known as row d, gets new cells. -/
theorem Sim.setRow (h : Sim N w0 M0 β st a w) {d s b : Nat} {es es' : List (List IV)} {cur cells : Array Value} {T : TypeId} (hd : look st.rows d = some (s, es)) (hb : β d = some b)
    (hcur : w.heap[b]? = some (.cells cur T (0, 0))) (hes : ∀ e ∈ es', e.length = s)
    (hr : ∀ (i : Nat) e (j : Nat) x, es'[i]? = some e → e[j]? = some x → x.one = true ∧ ∃ u, cells[i * s + j]? = some u ∧ Rep w (Mo M0 β st) x u) :
    Sim N w0 M0 β { st with rows := Abs.setRow st.rows d s es' } a (w.setRow b cells) := by
  have hds : (look st.rows d).isSome := by simp [hd]
  have hM : ∀ b o, Mo M0 β { st with rows := Abs.setRow st.rows d s es' } b o ↔ Mo M0 β st b o := by
    intro b o
    unfold Mo
    have : (∃ k s' es2, look (Abs.setRow st.rows d s es') k = some (s', es2) ∧ β k = some b) ↔ ∃ k s' es2, look st.rows k = some (s', es2) ∧ β k = some b := by
      constructor
      · rintro ⟨k, s', es2, hk, hkb⟩
        have : (look st.rows k).isSome := by rw [← look_setRow_some (d := d) (s := s) (es := es'), hk]; rfl
        obtain ⟨⟨x, y⟩, hxy⟩ := Option.isSome_iff_exists.1 this
        exact ⟨k, x, y, hxy, hkb⟩
      · rintro ⟨k, s', es2, hk, hkb⟩
        have : (look (Abs.setRow st.rows d s es') k).isSome := by rw [look_setRow_some, hk]; rfl
        obtain ⟨⟨x, y⟩, hxy⟩ := Option.isSome_iff_exists.1 this
        exact ⟨k, x, y, hxy, hkb⟩
    simp only [this]
  have hother : ∀ k, k ≠ b → (w.setRow b cells).heap[k]? = w.heap[k]? := fun k hk => setRow_other w b k cells hk
  have hk : Kept w (Mo M0 β st) (w.setRow b cells) (Mo M0 β { st with rows := Abs.setRow st.rows d s es' }) := by
    intro b' o u hc hn
    refine ⟨?_, fun hm => hn ((hM b' o).1 hm)⟩
    by_cases e : b' = b
    · subst e; exact absurd (.inr (.inl ⟨d, s, es, hd, hb⟩)) hn
    · rw [World.cell?_of_block (w := w) (a := ⟨b', o, none⟩) (hother b' e)]; exact hc
  have hbw0 : w0.heap.size ≤ b := by obtain ⟨b', h1, h2, _⟩ := h.rows d s es hd; rw [hb] at h1; cases h1; exact h2
  refine ⟨h.size, h.defers, ?_, h.m0, fun t => ?_, fun k s' es2 hk' => ?_, fun k s' n hk' b' hb' => ?_, fun k k' b' h1 h2 => ?_, fun k hk' => ?_⟩
  · exact h.below.trans ⟨rfl, rfl, rfl, by simp, fun k hk => hother k (by omega)⟩
  · refine (h.fr t).move hk (fun _ _ => rfl) (fun _ _ _ _ h => h) (fun k b' hl _ hb' => hother b' (fun e => ?_))
    subst e
    have := h.inj k d b' (.inr hl) (.inl hds) hb' hb
    subst this
    rw [h.excl k hds] at hl; cases hl
  · by_cases e : k = d
    · subst e
      rw [look_setRow_same hds] at hk'
      simp only [Option.some.injEq, Prod.mk.injEq] at hk'
      obtain ⟨rfl, rfl⟩ := hk'
      refine ⟨b, hb, hbw0, cells, T, heap_setRow w b cells cur T hcur, hes, fun i e j x hi hj => ?_⟩
      obtain ⟨h1, u, h2, h3⟩ := hr i e j x hi hj
      exact ⟨h1, u, h2, h3.kept hk⟩
    · rw [look_setRow_ne e] at hk'
      obtain ⟨b', h1, h2, h3⟩ := h.rows k s' es2 hk'
      refine ⟨b', h1, h2, h3.move hk (hother b' (fun eb => ?_))⟩
      subst eb
      exact e (h.inj k d b' (.inl (by simp [hk'])) (.inl hds) h1 hb)
  · obtain ⟨h1, h2⟩ := h.toks k s' n hk' b' hb'
    exact ⟨h1, by simpa using h2⟩
  · simp only [look_setRow_some] at h1 h2
    exact h.inj k k' b' h1 h2
  · simp only [look_setRow_some] at hk'
    exact h.excl k hk'

/-- The store of one operation. -/
theorem store_run (hG : G.Ok) (h : Sim N w0 M0 β st a w) {t d s i j : Nat} {es : List (List IV)} {c : List IV} {x : IV} {p xv : Value} (h0 : (G.ti t).size ≠ 0)
    (hd : look st.rows d = some (s, es)) (hi : es[i]? = some c) (hl : (cellsOf x).length = (G.ti t).size) (ho : (cellsOf x).all IV.one = true) (hj : j + (G.ti t).size ≤ c.length)
    (hp : RepA w (Mo M0 β st) β st.toks (.loc d s i j) p) (hx : Rep w (Mo M0 β st) x xv) :
    ∃ w', (Instr.storeAt t p xv).run G.P w = .ok () w' ∧ Sim N w0 M0 β { st with rows := setRow st.rows d s (es.set i (setCells c j (cellsOf x))) } a w' := by
  obtain ⟨b, hb, rfl⟩ := hp
  obtain ⟨b', hb', hbw, cur, T, hcur, hes, hcell⟩ := h.rows d s es hd
  rw [hb] at hb'; cases hb'
  obtain ⟨hr, hone⟩ := cellsOf_rep hx ho
  have hcs : c.length = s := hes c (List.mem_of_getElem? hi)
  have hvl : xv.cells.toList.length = (G.ti t).size := by rw [← hr.1]; exact hl
  have hvl' : xv.cells.size = (G.ti t).size := by simpa using hvl
  -- the row is long enough
  have hfit : i * s + j + (G.ti t).size ≤ cur.size := by
    have hpos : 0 < (G.ti t).size := Nat.pos_of_ne_zero h0
    have hlt : j + (G.ti t).size - 1 < c.length := by omega
    obtain ⟨_, u, hu, _⟩ := hcell i c (j + (G.ti t).size - 1) _ hi (List.getElem?_eq_getElem hlt)
    have := (Array.getElem?_eq_some_iff.1 hu).1
    omega
  have hst := run_storeCells_at G.P b (i * s + j) T xv.cells.toList 0 cur w hcur (by simpa [hvl'] using hfit) hone
  simp only [Nat.add_zero] at hst
  refine ⟨w.setRow b (cur.toList.take (i * s + j) ++ xv.cells.toList ++ cur.toList.drop (i * s + j + xv.cells.toList.length)).toArray, ?_,
    h.setRow hd hb hcur (es' := es.set i (setCells c j (cellsOf x))) (cells := (cur.toList.take (i * s + j) ++ xv.cells.toList ++ cur.toList.drop (i * s + j + xv.cells.toList.length)).toArray) ?_ ?_⟩
  · simp only [Instr.storeAt, Instr.sureAddr, Sem.run_bind, Sem.run_pure, Result.andThen_ok, storeVar, hG.size h0, hvl', ne_eq, not_true, if_false, hst]
  · intro e he
    rcases List.mem_or_eq_of_mem_set he with h' | h'
    · exact hes e h'
    · rw [h', setCells_length]; exact hcs
  · intro i' e j' y hi' hj'
    rw [List.getElem?_set] at hi'
    have hjs : j' < s := by
      have h1 := (List.getElem?_eq_some_iff.1 hj').1
      split at hi'
      · split at hi'
        · cases hi'; rw [setCells_length] at h1; omega
        · cases hi'
      · rw [hes e (List.mem_of_getElem? hi')] at h1; exact h1
    have hnew : ∀ k, ((cur.toList.take (i * s + j) ++ xv.cells.toList ++ cur.toList.drop (i * s + j + xv.cells.toList.length)).toArray)[k]? =
        if k < i * s + j then cur[k]? else if k < i * s + j + (G.ti t).size then xv.cells.toList[k - (i * s + j)]? else cur[k]? := by
      intro k
      simp only [List.getElem?_toArray]
      by_cases h1 : k < i * s + j
      · rw [if_pos h1, List.append_assoc, List.getElem?_append_left (by simp; omega), List.getElem?_take, if_pos h1]; simp
      · rw [if_neg h1]
        by_cases h2 : k < i * s + j + (G.ti t).size
        · rw [if_pos h2, List.getElem?_append_left (by simp; omega), List.getElem?_append_right (by simp; omega)]
          congr 1; simp; omega
        · rw [if_neg h2, List.getElem?_append_right (by simp; omega), List.getElem?_drop]
          simp only [Array.getElem?_toList]
          congr 1; simp; omega
    rw [hnew]
    have hset : ∀ (xs cs : List IV) (off k : Nat), (setCells cs off xs)[k]? = if off ≤ k ∧ k < off + xs.length ∧ k < cs.length then xs[k - off]? else cs[k]? := by
      intro xs
      induction xs with
      | nil => intro cs off k; simp only [setCells]; rw [if_neg (by simp; omega)]
      | cons z xs ih =>
        intro cs off k
        simp only [setCells]
        rw [ih]
        simp only [List.length_set, List.length_cons]
        by_cases h1 : off + 1 ≤ k ∧ k < off + 1 + xs.length ∧ k < cs.length
        · rw [if_pos h1, if_pos (by omega)]
          have : k - off = (k - (off + 1)) + 1 := by omega
          rw [this]; simp
        · rw [if_neg h1, List.getElem?_set]
          by_cases h2 : off = k
          · subst h2
            by_cases h3 : off < cs.length
            · simp [h3]
            · simp [h3]
          · rw [if_neg h2, if_neg (by omega)]
    by_cases hii : i = i'
    · subst hii
      have hil : i < es.length := (List.getElem?_eq_some_iff.1 hi).1
      simp only [hil, if_true, Option.some.injEq] at hi'
      subst hi'
      rw [hset] at hj'
      by_cases hin : j ≤ j' ∧ j' < j + (cellsOf x).length ∧ j' < c.length
      · rw [if_pos hin] at hj'
        rw [if_neg (by omega), if_pos (by omega)]
        have e : i * s + j' - (i * s + j) = j' - j := by omega
        rw [e]
        have hlt : j' - j < xv.cells.toList.length := by omega
        exact ⟨List.all_eq_true.1 ho y (List.mem_of_getElem? hj'), _, List.getElem?_eq_getElem hlt, hr.2 _ y _ hj' (List.getElem?_eq_getElem hlt)⟩
      · rw [if_neg hin] at hj'
        obtain ⟨h1, u, h2, h3⟩ := hcell i c j' y hi hj'
        refine ⟨h1, u, ?_, h3⟩
        split
        · exact h2
        · rw [if_neg (by omega)]; exact h2
    · rw [if_neg hii] at hi'
      obtain ⟨h1, u, h2, h3⟩ := hcell i' e j' y hi' hj'
      refine ⟨h1, u, ?_, h3⟩
      have hjs' : j + (G.ti t).size ≤ s := by omega
      rcases Nat.lt_or_gt_of_ne hii with hlt | hgt
      · have : (i + 1) * s ≤ i' * s := Nat.mul_le_mul_right _ hlt
        rw [Nat.add_mul] at this
        rw [if_neg (by omega), if_neg (by omega)]; exact h2
      · have : (i' + 1) * s ≤ i * s := Nat.mul_le_mul_right _ hgt
        rw [Nat.add_mul] at this
        rw [if_pos (by omega)]; exact h2
end
end Go.Abs
