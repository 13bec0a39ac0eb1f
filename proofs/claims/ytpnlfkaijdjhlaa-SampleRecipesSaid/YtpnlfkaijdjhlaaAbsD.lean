/-
  Regions whose order is open and that write: the stores come up in the text's order, behind every load; all else may come up anywhere. Program-independent. The generic layer under all claims of this repo: behind 15.
-/
import Derived.Test.YtpnlfkaijdjhlaaAbs15
namespace Go.Abs
set_option linter.all false
open Go.RowKit (Below)

def isStore (o : Oper) : Bool :=
  match o.op with
  | .store _ _ _ => o.guard.isNone && o.dst.isNone
  | _ => false
def isLoad (o : Oper) : Bool :=
  match o.op with
  | .load _ _ => true
  | _ => false
/-- Those below k that always come behind i. -/
def afters (ops : Array Oper) (i : Nat) : Nat → List Nat
  | 0 => []
  | k + 1 => if (Region.waitsFor .any ops k i || (afters ops i k).any fun m => Region.waitsFor .any ops k m) = true then k :: afters ops i k else afters ops i k
def storeAt (ops : Array Oper) (i : Nat) : Bool :=
  match ops[i]? with
  | some o => isStore o
  | none => false
def loadAt (ops : Array Oper) (i : Nat) : Bool :=
  match ops[i]? with
  | some o => isLoad o
  | none => false
def writesFor (ops : Array Oper) (h s : Nat) : Bool :=
  match ops[h]?, ops[s]? with
  | some oh, some os => match oh.dst with
    | some t => (os.looksAt ops).contains t
    | none => false
  | _, _ => false
def drawS (ops : Array Oper) : Bool :=
  (List.range ops.size).all (fun j => match ops[j]? with
    | some o => o.after.all fun e => !Region.binds .any e || decide (e.on < j)
    | none => true) &&
  (List.range ops.size).all (fun j => storeAt ops j || (List.range j).all fun i => storeAt ops i || Region.waitsFor .any ops j i || (match ops[i]?, ops[j]? with
    | some oi, some oj => oi.apart ops oj
    | _, _ => false)) &&
  (List.range ops.size).all (fun i => (List.range ops.size).all fun s => !storeAt ops s || !((storeAt ops i && decide (i < s)) || loadAt ops i || (!storeAt ops i && writesFor ops i s)) || (afters ops i ops.size).contains s)

theorem drawS_spec {ops : Array Oper} (h : drawS ops = true) :
    (∀ (j : Nat) oj, ops[j]? = some oj → ∀ e ∈ oj.after, Region.binds .any e = true → e.on < j) ∧
    (∀ i j oi oj, i < j → ops[i]? = some oi → ops[j]? = some oj → isStore oi = false → isStore oj = false → Region.waitsFor .any ops j i = true ∨ oi.apart ops oj = true) ∧
    (∀ i s oi os, ops[i]? = some oi → ops[s]? = some os → isStore os = true → ((isStore oi = true ∧ i < s) ∨ isLoad oi = true ∨ (isStore oi = false ∧ ∃ t, oi.dst = some t ∧ t ∈ os.looksAt ops)) → s ∈ afters ops i ops.size) := by
  simp only [drawS, Bool.and_eq_true] at h
  obtain ⟨⟨h1, h2⟩, h3⟩ := h
  have sz : ∀ (j : Nat) o, ops[j]? = some o → j < ops.size := fun j o h => (Array.getElem?_eq_some_iff.1 h).1
  refine ⟨fun j oj hj e he hb => ?_, fun i j oi oj hij hi hj si sj => ?_, fun i s oi os hi hs hst hc => ?_⟩
  · have := List.all_eq_true.1 h1 j (List.mem_range.2 (sz j oj hj))
    rw [hj] at this
    have := Array.all_eq_true'.1 this e he
    simpa [hb] using this
  · have := List.all_eq_true.1 h2 j (List.mem_range.2 (sz j oj hj))
    simp only [storeAt, hj, sj, Bool.false_or] at this
    have := List.all_eq_true.1 this i (List.mem_range.2 hij)
    simp only [hi, si, Bool.false_or, Bool.or_eq_true] at this
    exact this
  · have := List.all_eq_true.1 (List.all_eq_true.1 h3 i (List.mem_range.2 (sz i oi hi))) s (List.mem_range.2 (sz s os hs))
    have hcc : ((storeAt ops i && decide (i < s)) || loadAt ops i || (!storeAt ops i && writesFor ops i s)) = true := by
      simp only [storeAt, loadAt, writesFor, hi, hs]
      rcases hc with ⟨h4, h5⟩ | h4 | ⟨h4, t, h5, h6⟩
      · simp [h4, h5]
      · simp [h4]
      · simp [h4, h5, h6]
    rw [hcc] at this
    simp only [storeAt, hs, hst, Bool.not_true, Bool.false_or] at this
    simpa using this

section
variable {G : Ctx} {N : Nat} {w0 w : World} {M0 : Nat → Nat → Prop} {β : Nat → Option Nat} {st st' : St} {a : Act} {ops : List Oper}

theorem afters_listed {ops : Array Oper} {listed : Array Bool} {i : Nat} (hcl : ∀ j oj, ops[j]? = some oj → listed.getD j false = true → ∀ e ∈ oj.after, Region.binds .any e = true → listed.getD e.on false = true) :
    ∀ k j, j ∈ afters ops i k → listed.getD j false = true → listed.getD i false = true
  | 0, j, hj, _ => by cases hj
  | k + 1, j, hj, hl => by
    unfold afters at hj
    split at hj
    · rename_i hc
      rcases List.mem_cons.1 hj with rfl | hj
      · rw [Bool.or_eq_true] at hc
        rcases hc with hc | hc
        · obtain ⟨oj, hoj, e, he, hb, hon⟩ := Region.waitsFor_spec hc
          rw [← hon]; exact hcl _ oj hoj hl e he hb
        · obtain ⟨m, hm, hc⟩ := List.any_eq_true.1 hc
          obtain ⟨oj, hoj, e, he, hb, hon⟩ := Region.waitsFor_spec hc
          exact afters_listed hcl _ m hm (by rw [← hon]; exact hcl _ oj hoj hl e he hb)
      · exact afters_listed hcl k j hj hl
    · exact afters_listed hcl k j hj hl
theorem afters_ready {ops : Array Oper} {listed : Array Bool} {i : Nat} (hcl : ∀ j oj, ops[j]? = some oj → listed.getD j false = true → ∀ e ∈ oj.after, Region.binds .any e = true → listed.getD e.on false = true)
    {j : Nat} {oj : Oper} (hoj : ops[j]? = some oj) (hall : ∀ e ∈ oj.after, Region.binds .any e = true → listed.getD e.on false = true) : ∀ k, j ∈ afters ops i k → listed.getD i false = true
  | 0, hj => by cases hj
  | k + 1, hj => by
    unfold afters at hj
    split at hj
    · rename_i hc
      rcases List.mem_cons.1 hj with rfl | hj
      · rw [Bool.or_eq_true] at hc
        rcases hc with hc | hc
        · obtain ⟨oj', hoj', e, he, hb, hon⟩ := Region.waitsFor_spec hc
          rw [hoj] at hoj'; cases hoj'
          rw [← hon]; exact hall e he hb
        · obtain ⟨m, hm, hc⟩ := List.any_eq_true.1 hc
          obtain ⟨oj', hoj', e, he, hb, hon⟩ := Region.waitsFor_spec hc
          rw [hoj] at hoj'; cases hoj'
          exact afters_listed hcl _ m hm (by rw [← hon]; exact hall e he hb)
      · exact afters_ready hcl hoj hall k hj
    · exact afters_ready hcl hoj hall k hj

def aheadS (G : Ctx) (ops : List Oper) (K : St → Prop) : List Oper → St → Prop
  | [], st => K st
  | o :: r, st => if isStore o = true then aheadS G ops K r st else match o.guard with
    | none => aq G st o fun av => aheadS G ops K r (st.put o.dst av)
    | some (j, want) => match yieldA st ops j with
      | some (some b) => (b = want → aq G st o fun av => aheadS G ops K r (st.put o.dst av)) ∧ (b ≠ want → aheadS G ops K r (st.put o.dst undefA))
      | some none => aheadS G ops K r (st.put o.dst undefA)
      | none => False
/-- What a store makes of the rows. -/
def aStQ (G : Ctx) (K : List (Nat × Nat × List (List IV)) → Prop) (st : St) (t : TypeId) (p x : Operand) : Prop :=
  match ivOf (evO st x), evO st p with
  | some y, .loc d s i j => match look st.rows d with
    | some (s', es) => match es[i]? with
      | some c => s' = s ∧ (G.ti t).size ≠ 0 ∧ (cellsOf y).length = (G.ti t).size ∧ (cellsOf y).all IV.one = true ∧ j + (G.ti t).size ≤ c.length ∧
          K (setRow st.rows d s (es.set i (setCells c j (cellsOf y))))
      | none => False
    | none => False
  | _, _ => False
def aStores (G : Ctx) (K : St → Prop) : List Oper → St → Prop
  | [], st => K st
  | o :: r, st => if isStore o = true then (match o.op with
      | .store t p x => aStQ G (fun rows => aStores G K r { st with rows := rows }) st t p x
      | _ => False) else aStores G K r st
def StepR (G : Ctx) (st : St) (o : Oper) (rows : List (Nat × Nat × List (List IV))) : Prop :=
  ∃ t p x, o.op = .store t p x ∧ aStQ G (· = rows) st t p x
theorem aStQ_of {K : List (Nat × Nat × List (List IV)) → Prop} {t : TypeId} {p x : Operand} (h : aStQ G K st t p x) : ∃ rows, K rows ∧ aStQ G (· = rows) st t p x := by
  unfold aStQ at h ⊢
  split at h
  · split at h
    · split at h
      · obtain ⟨h1, h2, h3, h4, h5, h6⟩ := h
        exact ⟨_, h6, h1, h2, h3, h4, h5, rfl⟩
      · exact h.elim
    · exact h.elim
  · exact h.elim

def headL (l : List Oper) (k : Nat) : Bool :=
  match l[k]? with
  | some o => !isStore o
  | none => true
theorem aheadS_res {K : St → Prop} : ∀ (l : List Oper) (st : St), aheadS G ops K l st →
    ∃ res : Nat → AV, (∀ i o, l[i]? = some o → isStore o = false → qStep G ops (stUp res (headL l) (l.take i) st) o (res i)) ∧ K (stUp res (headL l) l st)
  | [], st, h => ⟨fun _ => .und, fun i o hi => by simp at hi, h⟩
  | o :: l, st, h => by
    have hsh : (fun i => headL (o :: l) (i + 1)) = headL l := by funext i; simp [headL]
    unfold aheadS at h
    split at h
    · rename_i hs
      obtain ⟨res, h3, h4⟩ := aheadS_res l _ h
      have h0 : headL (o :: l) 0 = false := by simp [headL, hs]
      refine ⟨fun i => match i with | 0 => .und | i + 1 => res i, fun i o' hi ho' => ?_, ?_⟩
      · cases i with
        | zero => simp at hi; subst hi; rw [hs] at ho'; cases ho'
        | succ i =>
          have := h3 i o' (by simpa using hi) ho'
          simpa [stUp, h0, hsh] using this
      · simpa [stUp, h0, hsh] using h4
    · rename_i hs
      have hs' : isStore o = false := by simpa using hs
      have h0 : headL (o :: l) 0 = true := by simp [headL, hs']
      have key : ∃ av, qStep G ops st o av ∧ aheadS G ops K l (st.put o.dst av) := by
        unfold qStep
        cases hg : o.guard with
        | none =>
          rw [hg] at h
          obtain ⟨av, h1, h2⟩ := aq_qVal h
          exact ⟨av, h1, h2⟩
        | some p =>
          obtain ⟨j, want⟩ := p
          rw [hg] at h
          dsimp only at h ⊢
          revert h
          generalize yieldA st ops j = y
          intro h
          cases y with
          | none => exact h.elim
          | some y => cases y with
            | none => exact ⟨undefA, rfl, h⟩
            | some b =>
              dsimp only at h ⊢
              by_cases hb : b = want
              · obtain ⟨av, h1, h2⟩ := aq_qVal (h.1 hb)
                exact ⟨av, by rw [if_pos hb]; exact h1, h2⟩
              · exact ⟨undefA, by rw [if_neg hb], h.2 hb⟩
      obtain ⟨av, h1, h2⟩ := key
      obtain ⟨res, h3, h4⟩ := aheadS_res l _ h2
      refine ⟨fun i => match i with | 0 => av | i + 1 => res i, fun i o' hi ho' => ?_, ?_⟩
      · cases i with
        | zero => simp at hi; subst hi; exact h1
        | succ i =>
          have := h3 i o' (by simpa using hi) ho'
          simpa [stUp, h0, hsh] using this
      · simpa [stUp, h0, hsh] using h4

def cntS (l : List Oper) : Nat → Nat
  | 0 => 0
  | n + 1 => cntS l n + (match l[n]? with | some o => if isStore o = true then 1 else 0 | none => 0)
theorem cntS_mono {l : List Oper} : ∀ {n m : Nat}, n ≤ m → cntS l n ≤ cntS l m
  | n, 0, h => by rw [show n = 0 by omega]; exact Nat.le_refl _
  | n, m + 1, h => by
    by_cases e : n = m + 1
    · subst e; exact Nat.le_refl _
    · exact Nat.le_trans (cntS_mono (by omega : n ≤ m)) (by simp only [cntS]; omega)
theorem cntS_lt {l : List Oper} {i s : Nat} {o : Oper} (h : l[i]? = some o) (ho : isStore o = true) (his : i < s) : cntS l i < cntS l s := by
  have h1 : cntS l (i + 1) = cntS l i + 1 := by simp [cntS, h, ho]
  have h2 := cntS_mono (l := l) (by omega : i + 1 ≤ s)
  omega
theorem cntS_ex {l : List Oper} {m : Nat} : ∀ {i : Nat}, m < cntS l i → ∃ s o, s < i ∧ l[s]? = some o ∧ isStore o = true ∧ cntS l s = m
  | 0, h => by simp [cntS] at h
  | i + 1, h => by
    by_cases h1 : m < cntS l i
    · obtain ⟨s, o, h2, h3⟩ := cntS_ex h1
      exact ⟨s, o, by omega, h3⟩
    · simp only [cntS] at h
      split at h
      · rename_i o ho
        split at h
        · rename_i hs
          exact ⟨i, o, by omega, ho, hs, by omega⟩
        · omega
      · omega
theorem cntS_cons (o : Oper) (l : List Oper) : ∀ n, cntS (o :: l) (n + 1) = (if isStore o = true then 1 else 0) + cntS l n
  | 0 => by simp [cntS]
  | n + 1 => by
    have := cntS_cons o l n
    simp only [cntS] at this ⊢
    rw [List.getElem?_cons_succ]
    omega
theorem aStores_res {K : St → Prop} : ∀ (l : List Oper) (st : St), aStores G K l st → ∃ rk : Nat → List (Nat × Nat × List (List IV)), rk 0 = st.rows ∧
    (∀ i o, l[i]? = some o → isStore o = true → StepR G { st with rows := rk (cntS l i) } o (rk (cntS l i + 1))) ∧ K { st with rows := rk (cntS l l.length) }
  | [], st, h => ⟨fun _ => st.rows, rfl, fun i o hi => by simp at hi, h⟩
  | o :: l, st, h => by
    unfold aStores at h
    split at h
    · rename_i hs
      split at h
      · rename_i t p x ho
        obtain ⟨rows, h1, h2⟩ := aStQ_of h
        obtain ⟨rk, h3, h4, h5⟩ := aStores_res l _ h1
        refine ⟨fun k => match k with | 0 => st.rows | k + 1 => rk k, rfl, fun i o' hi ho' => ?_, ?_⟩
        · cases i with
          | zero =>
            simp at hi; subst hi
            refine ⟨t, p, x, ho, ?_⟩
            show aStQ G (· = rk 0) _ t p x
            rw [h3]; exact h2
          | succ i =>
            have h6 := h4 i o' (by simpa using hi) ho'
            rw [cntS_cons, if_pos hs, Nat.add_comm 1]
            exact h6
        · rw [List.length_cons, cntS_cons, if_pos hs, Nat.add_comm 1]
          exact h5
      · exact h.elim
    · rename_i hs
      obtain ⟨rk, h3, h4, h5⟩ := aStores_res l _ h
      refine ⟨rk, h3, fun i o' hi ho' => ?_, ?_⟩
      · cases i with
        | zero => simp at hi; subst hi; exact absurd ho' hs
        | succ i =>
          have h6 := h4 i o' (by simpa using hi) ho'
          rw [cntS_cons, if_neg hs, Nat.zero_add]
          exact h6
      · rw [List.length_cons, cntS_cons, if_neg hs, Nat.zero_add]
        exact h5

theorem stUp_takeL : ∀ (l : List Oper) (res : Nat → AV) (L : Nat → Bool) (j : Nat) (st : St), stUp res L (l.take j) st = stUp res (fun i => decide (i < j) && L i) l st
  | [], _, _, j, st => by simp [stUp]
  | o :: l, res, L, 0, st => by
    have : ∀ (l : List Oper) (res : Nat → AV) (L : Nat → Bool) (st : St), stUp res (fun i => decide (i < 0) && L i) l st = st := by
      intro l
      induction l with
      | nil => intros; rfl
      | cons o l ih => intro res L st; simp only [stUp, Nat.not_lt_zero, decide_false, Bool.false_and, Bool.false_eq_true, if_false]; simpa using ih (fun i => res (i + 1)) (fun i => L (i + 1)) st
    rw [this]; rfl
  | o :: l, res, L, j + 1, st => by
    simp only [List.take_succ_cons, stUp]
    rw [stUp_takeL l]
    simp
theorem evO_rows (r : List (Nat × Nat × List (List IV))) (x : Operand) : evO { st with rows := r } x = evO st x := by cases x <;> rfl
theorem ivParts_rows (r : List (Nat × Nat × List (List IV))) : ∀ ps : List (Nat × Operand), ivParts { st with rows := r } ps = ivParts st ps
  | [] => rfl
  | (i, x) :: ps => by simp only [ivParts, evO_rows, ivParts_rows r ps]
theorem evO_rows' (r : List (Nat × Nat × List (List IV))) : evO { st with rows := r } = evO st := funext (evO_rows r)
theorem yv_rows (r : List (Nat × Nat × List (List IV))) {o : Oper} (h : isLoad o = false) : yv G { st with rows := r } o = yv G st o := by
  unfold yv
  unfold isLoad at h
  split at h
  · cases h
  · rename_i hno
    cases ho : o.op <;> first | (exact absurd ho (hno _ _)) | simp only [evO_rows, evO_rows', ivParts_rows]
theorem qStep_rows (r : List (Nat × Nat × List (List IV))) {o : Oper} {av : AV} (h : isLoad o = false) (hq : qStep G ops st o av) : qStep G ops { st with rows := r } o av := by
  have hv : ∀ {av}, qVal G st o av → qVal G { st with rows := r } o av := fun hq => by
    rcases hq with hy | ⟨c, f, g, caps, xs, r', ho, hc, hf, hxs, hg⟩
    · exact .inl (by rw [yv_rows r h]; exact hy)
    · exact .inr ⟨c, f, g, caps, xs, r', ho, hc, by rw [evO_rows]; exact hf, by rw [evO_rows']; exact hxs, hg⟩
  unfold qStep at hq ⊢
  split
  · rename_i hg; rw [hg] at hq; exact hv hq
  · rename_i j want hg
    rw [hg] at hq
    dsimp only at hq
    have hy : yieldA { st with rows := r } ops j = yieldA st ops j := rfl
    rw [hy]
    revert hq
    generalize yieldA st ops j = y
    intro hq
    cases y with
    | none => exact hq
    | some y => cases y with
      | none => exact hq
      | some b =>
        dsimp only at hq ⊢
        by_cases hb : b = want
        · rw [if_pos hb] at hq ⊢; exact hv hq
        · rw [if_neg hb] at hq ⊢; exact hq

theorem drawS_sound (hG : G.Good) (id : Nat) (hB : drawS ops.toArray = true) (hd : ∀ o ∈ ops, ∀ d, o.dst = some d → d < N) {K : St → Prop} {Q' : Exit → Act → World → Prop}
    (hK : ∀ st' β' a' w', K st' → Sim N w0 M0 β' st' a' w' → Q' .normal a' w') (h : Sim N w0 M0 β st a w)
    (hA : aheadS G ops (aStores G K ops) ops st) : (Code.region id ops.toArray true).wp G.P Q' a w := by
  obtain ⟨hafter, hpair, hstore⟩ := drawS_spec hB
  obtain ⟨res, hres, hst⟩ := aheadS_res _ _ hA
  obtain ⟨rk, hrk0, hrk, hfin⟩ := aStores_res _ _ hst
  have hsz : ops.toArray.size = ops.length := by simp
  have arr : ∀ (i : Nat) (o : Oper), ops[i]? = some o → ops.toArray[i]? = some o := fun i o h => by simpa using h
  have rra : ∀ (i : Nat) (o : Oper), ops.toArray[i]? = some o → ops[i]? = some o := fun i o h => by simpa using h
  have sdst : ∀ o, isStore o = true → o.dst = none ∧ o.guard = none := fun o ho => by
    unfold isStore at ho
    split at ho
    · simp only [Bool.and_eq_true, Option.isNone_iff_eq_none] at ho; exact ⟨ho.2, ho.1⟩
    · cases ho
  -- the state when the operations of 'listed' have come up, m stores among them
  have main : ∀ c (listed : Array Bool) (m : Nat) (a : Act) (w : World), cntB listed ops.toArray.size = c → HeadInv .any ops.toArray ops.toArray.size listed → m ≤ cntS ops ops.length →
      (∀ s o, ops[s]? = some o → isStore o = true → (listed.getD s false = true ↔ cntS ops s < m)) →
      Sim N w0 M0 β { stUp res (fun i => listed.getD i false && headL ops i) ops st with rows := rk m } a w → wpAny G.P .any ops.toArray Q' c listed a w := by
    intro c
    induction c with
    | zero =>
      intro listed m a w hc inv hm hls hs
      have hall := cntB_zero hc
      have hmm : m = cntS ops ops.length := by
        rcases Nat.lt_or_ge m (cntS ops ops.length) with hlt | hge
        · obtain ⟨s, o, h1, h2, h3, h4⟩ := cntS_ex hlt
          have := (hls s o h2 h3).1 (hall s (by rw [hsz]; exact h1))
          omega
        · omega
      subst hmm
      refine ⟨?_, ?_⟩
      · cases hr : Region.ready .any ops.toArray listed with
        | nil => rfl
        | cons i r =>
          have hi : i ∈ Region.ready .any ops.toArray listed := by rw [hr]; exact List.mem_cons_self ..
          obtain ⟨hun, oi, hoi, _⟩ := mem_ready.1 hi
          have hisz : i < ops.toArray.size := (Array.getElem?_eq_some_iff.1 hoi).1
          have := hall i hisz
          rw [getD_both hun] at this; cases this
      · refine hK _ _ _ _ hfin (hs.congr (fun t => ?_) rfl ?_)
        · exact stUp_get _ _ _ _ _ _ rfl fun i o hi _ => by
            have := hall i (by rw [hsz]; exact (List.getElem?_eq_some_iff.1 hi).1)
            rw [this, Bool.true_and]
        · show (stUp _ _ _ _).toks = (stUp _ _ _ _).toks
          rw [(stUp_rows _ _ _ _).2, (stUp_rows _ _ _ _).2]
    | succ c ih =>
      intro listed m a w hc inv hm hls hs
      obtain ⟨i0, hi0, hun0, hmin⟩ := cntB_pos (by omega : cntB listed ops.toArray.size ≠ 0)
      have hready0 : i0 ∈ Region.ready .any ops.toArray listed := by
        have hil : i0 < ops.length := by rw [← hsz]; omega
        exact mem_ready.2 ⟨getD_in (by rw [inv.size]; exact hi0) hun0, ops[i0], arr i0 _ (List.getElem?_eq_getElem hil), fun e he hb => hmin _ (hafter i0 _ (arr _ _ (List.getElem?_eq_getElem hil)) e he hb)⟩
      refine ⟨fun hr => (by rw [hr] at hready0; cases hready0), fun i hi => ?_⟩
      obtain ⟨hun, oi, hoi, hall⟩ := mem_ready.1 hi
      have hoi' := rra i oi hoi
      have hisz : i < ops.toArray.size := (Array.getElem?_eq_some_iff.1 hoi).1
      have hunf : listed.getD i false = false := getD_both hun
      have hisL : i < listed.size := by rw [inv.size]; exact hisz
      have hcnt : cntB (listed.setIfInBounds i true) ops.toArray.size = c := by
        have := cntB_set hisL hunf ops.toArray.size
        rw [if_pos hisz] at this; omega
      have hset : ∀ k, k ≠ i → (listed.setIfInBounds i true).getD k false = listed.getD k false := fun k hk => getD_set_ne false (Ne.symm hk)
      have hseti : (listed.setIfInBounds i true).getD i false = true := by simp [hisL]
      cases hsi : isStore oi with
      | true =>
        obtain ⟨hdn, hgn⟩ := sdst oi hsi
        have hmi : m = cntS ops i := by
          rcases Nat.lt_or_ge m (cntS ops i) with hlt | hge
          · obtain ⟨s, o, h1, h2, h3, h4⟩ := cntS_ex hlt
            have hl := afters_ready inv.closed hoi hall _ (hstore s i o oi (arr s o h2) hoi hsi (.inl ⟨h3, h1⟩))
            have := (hls s o h2 h3).1 hl
            omega
          · have := mt (hls i oi hoi' hsi).2 (by rw [hunf]; simp)
            omega
        obtain ⟨t, p, x, hop, hq⟩ := hrk i oi hoi' hsi
        -- the operands stand as in the text's order
        have hev : ∀ z : Operand, z ∈ oi.op.operands → evO { stUp res (fun i => listed.getD i false && headL ops i) ops st with rows := rk m } z = evO { stUp res (headL ops) ops st with rows := rk (cntS ops i) } z := by
          intro z hz
          rw [evO_rows, evO_rows]
          refine evO_congr fun t' hzt => stUp_get _ _ _ _ _ _ rfl fun k ok hk hdk => ?_
          have hsk : isStore ok = false := by
            cases hb : isStore ok with
            | false => rfl
            | true => rw [(sdst ok hb).1] at hdk; cases hdk
          have hlk := afters_ready inv.closed hoi hall _ (hstore k i ok oi (arr k ok hk) hoi hsi (.inr (.inr ⟨hsk, t', hdk, mem_looksAt_op hz hzt⟩)))
          rw [hlk, Bool.true_and]
        have hx : x ∈ oi.op.operands := by rw [hop]; simp [Op.operands]
        have hp : p ∈ oi.op.operands := by rw [hop]; simp [Op.operands]
        unfold aStQ at hq
        rw [← hev x hx, ← hev p hp] at hq
        split at hq
        · rename_i y d s i1 j hy hpl
          split at hq
          · rename_i s' es hrow
            split at hq
            · rename_i cc hic
              obtain ⟨rfl, h0, hl, hone, hj, hrows⟩ := hq
              have hr := ivOf_rep (evO_rep hs x) hy
              have hpv := evO_rep hs p
              rw [hpl] at hpv
              have hrow' : look ({ stUp res (fun i => listed.getD i false && headL ops i) ops st with rows := rk m } : St).rows d = some (s', es) := by
                rw [hmi]; exact hrow
              obtain ⟨w', hrun, hsim⟩ := store_run hG.ok hs h0 hrow' hic hl hone hj hpv hr
              have hm1 : m + 1 ≤ cntS ops ops.length := by
                have := cntS_lt hoi' hsi (by rw [← hsz]; exact hisz : i < ops.length)
                omega
              have next : wpAny G.P .any ops.toArray Q' c (listed.setIfInBounds i true) a w' := by
                refine ih _ (m + 1) _ _ hcnt (inv.set hi hisz) hm1 (fun s o hs' ho' => ?_) ?_
                · by_cases hsi' : s = i
                  · subst hsi'
                    rw [hseti]; simp; omega
                  · rw [hset s hsi', hls s o hs' ho']
                    have : cntS ops s ≠ m := fun e => by
                      rcases Nat.lt_or_gt_of_ne hsi' with hlt | hgt
                      · have := cntS_lt hs' ho' hlt; omega
                      · have := cntS_lt hoi' hsi hgt; omega
                    omega
                · refine hsim.congr (fun t' => ?_) ?_ ?_
                  · refine stUp_get (st := st) (st' := st) ops _ _ _ rfl fun k ok hk hdk => ?_
                    have hki : k ≠ i := fun e => by
                      subst e; rw [hoi'] at hk; cases hk
                      rw [hdn] at hdk; cases hdk
                    rw [hset k hki]
                  · show setRow (rk m) d s' _ = rk (m + 1)
                    rw [hmi]; exact hrows
                  · show (stUp _ _ _ _).toks = (stUp _ _ _ _).toks
                    rw [(stUp_rows _ _ _ _).2, (stUp_rows _ _ _ _).2]
              unfold wpOp
              rw [hoi]
              dsimp only
              rw [if_pos (by simp [Region.wanted, hgn])]
              refine .inl ?_
              unfold Oper.wp execOp
              rw [hop]
              simp only [Sem.run_bind, hrun, Result.andThen_ok, Sem.run_pure, Oper.upon_skip]
              rw [hdn]
              exact next
            · exact hq.elim
          · exact hq.elim
        · exact hq.elim
      | false =>
        have hhead : headL ops i = true := by simp [headL, hoi', hsi]
        have hwait : ∀ k, Region.waitsFor .any ops.toArray i k = true → listed.getD k false = true := fun k hk => by
          obtain ⟨oj, hoj, e, he, hb, hon⟩ := Region.waitsFor_spec hk
          rw [hoi] at hoj; cases hoj
          rw [← hon]; exact hall e he hb
        have hlate : ∀ k, Region.waitsFor .any ops.toArray k i = true → listed.getD k false = false := fun k hk => by
          obtain ⟨ok, hok, e, he, hb, hon⟩ := Region.waitsFor_spec hk
          cases hl : listed.getD k false with
          | false => rfl
          | true =>
            have := inv.closed k ok hok hl e he hb
            rw [hon, hunf] at this; cases this
        have hnst : ∀ (k : Nat) (ok : Oper) (t : Nat), ops[k]? = some ok → ok.dst = some t → isStore ok = false := fun k ok t hk hdk => by
          cases hb : isStore ok with
          | false => rfl
          | true => rw [(sdst ok hb).1] at hdk; cases hdk
        have hagree : ∀ t ∈ oi.looksAt ops.toArray, (stUp res (headL ops) (ops.take i) st).get t = (stUp res (fun k => listed.getD k false && headL ops k) ops st).get t := by
          intro t ht
          rw [stUp_takeL]
          refine stUp_get _ _ _ _ _ _ rfl fun k ok hok hdk => ?_
          have hsk := hnst k ok t hok hdk
          have hhk : headL ops k = true := by simp [headL, hok, hsk]
          rw [hhk, Bool.and_true, Bool.and_true]
          rcases Nat.lt_trichotomy k i with hki | hki | hki
          · rcases hpair k i ok oi hki (arr k ok hok) hoi hsk hsi with hw | hap
            · rw [hwait k hw]; simp [hki]
            · exact absurd ht ((Oper.apart_spec hap).1 t hdk)
          · subst hki; rw [hunf]; simp
          · rcases hpair i k oi ok hki hoi (arr k ok hok) hsi hsk with hw | hap
            · rw [hlate k hw]; simp; omega
            · exact absurd ht ((Oper.apart_spec hap).2.2 t hdk)
        have hq0 : qStep G ops (stUp res (fun k => listed.getD k false && headL ops k) ops st) oi (res i) :=
          qStep_congr hagree (by rw [(stUp_rows _ _ _ _).1, (stUp_rows _ _ _ _).1]) (hres i oi hoi' hsi)
        have hq : qStep G ops { stUp res (fun k => listed.getD k false && headL ops k) ops st with rows := rk m } oi (res i) := by
          cases hld : isLoad oi with
          | false => exact qStep_rows _ hld hq0
          | true =>
            have hm0 : m = 0 := by
              rcases Nat.eq_zero_or_pos m with e | hpos
              · exact e
              · have hlt : 0 < cntS ops ops.length := by omega
                obtain ⟨s, o, h1, h2, h3, h4⟩ := cntS_ex hlt
                have hl := (hls s o h2 h3).2 (by omega)
                have := afters_listed inv.closed _ _ (hstore i s oi o hoi (arr s o h2) h3 (.inr (.inl hld))) hl
                rw [hunf] at this; cases this
            have e : ({ stUp res (fun k => listed.getD k false && headL ops k) ops st with rows := rk m } : St) = stUp res (fun k => listed.getD k false && headL ops k) ops st := by
              have h1 := (stUp_rows res (fun k => listed.getD k false && headL ops k) ops st).1
              have h2 := (stUp_rows res (headL ops) ops st).1
              rw [hm0, hrk0, h2, ← h1]
            rw [e]; exact hq0
        have next : ∀ v w2, Below w.heap.size w w2 → RepA w2 (Mo M0 β { stUp res (fun k => listed.getD k false && headL ops k) ops st with rows := rk m }) β (stUp res (fun k => listed.getD k false && headL ops k) ops st).toks (res i) v →
            wpAny G.P .any ops.toArray Q' c (listed.setIfInBounds i true) (a.put oi.dst v) w2 := by
          intro v w2 hb hv
          have hs2 := (hs.ext hb).put (dst := oi.dst) (hd oi (List.mem_of_getElem? hoi')) hv
          refine ih _ m _ _ hcnt (inv.set hi hisz) hm (fun s o hs' ho' => ?_) (hs2.congr (fun t => ?_) ?_ ?_)
          · have : s ≠ i := fun e => by subst e; rw [hoi'] at hs'; cases hs'; rw [hsi] at ho'; cases ho'
            rw [hset s this]; exact hls s o hs' ho'
          · by_cases hdt : oi.dst = some t
            · rw [hdt, get_put_same]
              show _ = (stUp res (fun k => (listed.setIfInBounds i true).getD k false && headL ops k) ops st).get t
              refine (stUp_last ops res _ st i oi hoi' hdt (by rw [hseti, hhead]; rfl) fun k ok hik hok hLk hdk => ?_).symm
              have hsk := hnst k ok t hok hdk
              rw [Bool.and_eq_true] at hLk
              rw [hset k (by omega)] at hLk
              rcases hpair i k oi ok hik hoi (arr k ok hok) hsi hsk with hw | hap
              · rw [hlate k hw] at hLk; cases hLk.1
              · exact (Oper.apart_spec hap).2.1 t hdt hdk
            · rw [get_put_ne hdt]
              refine stUp_get (st := st) (st' := st) ops _ _ _ rfl fun k ok hk hdk => ?_
              have : k ≠ i := fun e => by
                subst e
                rw [hoi'] at hk; cases hk
                exact hdt hdk
              rw [hset k this]
          · show (St.put _ _ _).rows = _
            unfold St.put; split <;> rfl
          · have : ∀ (s : St) d v, (s.put d v).toks = s.toks := fun s d v => by unfold St.put; split <;> rfl
            rw [this]
            show (stUp _ _ _ _).toks = (stUp _ _ _ _).toks
            rw [(stUp_rows _ _ _ _).2, (stUp_rows _ _ _ _).2]
        unfold wpOp
        rw [hoi]
        dsimp only
        unfold qStep at hq
        cases hg : oi.guard with
        | none =>
          rw [hg] at hq
          rw [if_pos (by simp [Region.wanted, hg])]
          exact .inl (qVal_sound hG hs hq next)
        | some p =>
          obtain ⟨j, want⟩ := p
          rw [hg] at hq
          dsimp only at hq
          split at hq
          · rename_i b hy
            have hyc := yieldA_some hs hy
            by_cases hb : b = want
            · rw [if_pos hb] at hq
              rw [if_pos (by simp [Region.wanted, hg, hyc, hb])]
              exact .inl (qVal_sound hG hs hq next)
            · rw [if_neg hb] at hq
              rw [if_neg (by simp [Region.wanted, hg, hyc, hb])]
              exact next _ w (Below.refl _ _) (by rw [hq]; exact Rep.sc _ rfl)
          · rename_i hy
            have hyc := yieldA_none hs hy
            rw [if_neg (by simp [Region.wanted, hg, hyc])]
            exact next _ w (Below.refl _ _) (by rw [hq]; exact Rep.sc _ rfl)
          · exact hq.elim
  refine wp_region_any hG.mixed ?_
  have inv0 : HeadInv .any ops.toArray ops.toArray.size (Array.replicate ops.toArray.size false) :=
    ⟨by simp, fun j oj _ hl => (by rw [getD_replicate_false] at hl; cases hl), fun t h1 h2 => by omega⟩
  have hc0 : ∀ k, cntB (Array.replicate ops.toArray.size false) k = k := fun k => by
    induction k with
    | zero => rfl
    | succ k ihk => simp only [cntB, ihk, getD_replicate_false]; simp
  have hf : ∀ (l : List Oper) (res : Nat → AV) (L : Nat → Bool) (st : St), (∀ i, L i = false) → stUp res L l st = st := by
    intro l
    induction l with
    | nil => intros; rfl
    | cons o l ih =>
      intro res L st hL
      simp only [stUp, hL 0]
      exact ih _ _ _ fun i => hL (i + 1)
  refine main ops.toArray.size (Array.replicate ops.toArray.size false) 0 a _ (hc0 _) inv0 (Nat.zero_le _) (fun s o _ _ => by rw [getD_replicate_false]; simp) ?_
  rw [hf _ _ _ _ fun i => by rw [getD_replicate_false]; rfl]
  have e : ({ st with rows := rk 0 } : St) = st := by rw [hrk0, (stUp_rows _ _ _ _).1]
  rw [e]
  exact h.drew
end
end Go.Abs
