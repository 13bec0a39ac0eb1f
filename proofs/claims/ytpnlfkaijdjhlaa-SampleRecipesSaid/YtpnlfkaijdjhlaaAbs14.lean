/-
  Regions: operations in order; operations whose order is open. Program-independent. The generic layer under all claims of this repo: 14 of several.
-/
import Derived.Test.YtpnlfkaijdjhlaaAbs13
import Derived.StillTail
import Derived.Deep.LoopGhost
namespace Go.Abs
set_option linter.all false
open Go.RowKit (Below)

/-- What a guard's operation has yielded: some (some b): b; some none: no bool. -/
def yieldA (st : St) (ops : List Oper) (j : Nat) : Option (Option Bool) :=
  match ops[j]? with
  | some o => match o.dst with
    | some t => match st.get t with
      | .im (.sc (.bool b)) => some (some b)
      | .im (.sc _) => some none
      | _ => none
    | none => none
  | none => none

def alist (G : Ctx) (ops : List Oper) (K : St → Prop) : List Oper → St → Prop
  | [], st => K st
  | o :: r, st => match o.guard with
    | none => aop G o (alist G ops K r) st
    | some (j, want) => match yieldA st ops j with
      | some (some b) => (b = want → aop G o (alist G ops K r) st) ∧ (b ≠ want → alist G ops K r (st.put o.dst undefA))
      | some none => alist G ops K r (st.put o.dst undefA)
      | none => False

def aq (G : Ctx) (st : St) (o : Oper) (K : AV → Prop) : Prop :=
  match o.op with
  | .call c => match c.callee with
    | .value f => match evO st f, ivsOf (c.args.toList.map (evO st)) with
      | .im (.clo g caps), some xs => (3 ≤ g ∧ g < G.fns) ∧ ∃ r, Ctr G.P g (xs ++ caps) (· = r) ∧ K (.im r)
      | _, _ => False
    | _ => match yv G st o with
      | some av => K av
      | none => False
  | _ => match yv G st o with
    | some av => K av
    | none => False

def ahead (G : Ctx) (ops : List Oper) (K : St → Prop) : List Oper → St → Prop
  | [], st => K st
  | o :: r, st => match o.guard with
    | none => aq G st o fun av => ahead G ops K r (st.put o.dst av)
    | some (j, want) => match yieldA st ops j with
      | some (some b) => (b = want → aq G st o fun av => ahead G ops K r (st.put o.dst av)) ∧ (b ≠ want → ahead G ops K r (st.put o.dst undefA))
      | some none => ahead G ops K r (st.put o.dst undefA)
      | none => False

section
variable {G : Ctx} {N : Nat} {w0 w w' : World} {M0 : Nat → Nat → Prop} {β : Nat → Option Nat} {st st' : St} {a : Act} {ops : List Oper}

theorem yieldA_some (h : Sim N w0 M0 β st a w) {j : Nat} {b : Bool} (hy : yieldA st ops j = some (some b)) : yielded ops.toArray a.tmps j = some b := by
  unfold yieldA at hy
  split at hy
  · rename_i o ho
    split at hy
    · rename_i t ht
      split at hy
      · rename_i b' hb
        cases hy
        have hr := h.fr t
        rw [hb] at hr
        have hv := Rep.sc_inv hr
        have hlt : t < a.tmps.size := by
          rcases Nat.lt_or_ge t a.tmps.size with h' | h'
          · exact h'
          · simp [Array.getElem?_eq_none h', undef] at hv
        have : a.tmps[t]? = some (.bool b) := by
          rw [Array.getElem?_eq_getElem hlt]; simp [hlt] at hv; rw [hv]
        have ho' : ops.toArray[j]? = some o := by simpa using ho
        simp [yielded, ho', ht, this]
      · cases hy
      · cases hy
    · cases hy
  · cases hy
theorem yieldA_none (h : Sim N w0 M0 β st a w) {j : Nat} (hy : yieldA st ops j = some none) : ∀ b, yielded ops.toArray a.tmps j ≠ some b := by
  unfold yieldA at hy
  split at hy
  · rename_i o ho
    split at hy
    · rename_i t ht
      split at hy
      · cases hy
      · rename_i v hb hv
        have hr := h.fr t
        rw [hv] at hr
        have hv' := Rep.sc_inv hr
        intro b hyb
        have ho' : ops.toArray[j]? = some o := by simpa using ho
        unfold yielded at hyb
        simp only [ho', Option.bind_some, ht] at hyb
        split at hyb
        · rename_i b' hb'
          have : a.tmps.getD t undef = .bool b' := by simp [hb']
          rw [this] at hv'
          exact hb b' (by rw [← hv'])
        · cases hyb
      · cases hy
    · cases hy
  · cases hy

theorem alist_sound (hG : G.Good) {K : St → Prop} {Q' : Exit → Act → World → Prop} (hK : ∀ st' β' a' w', K st' → Sim N w0 M0 β' st' a' w' → Q' .normal a' w') :
    ∀ (l : List Oper) (st : St) (β : Nat → Option Nat) (a : Act) (w : World), (∀ o ∈ l, ∀ d, o.dst = some d → d < N) → alist G ops K l st → Sim N w0 M0 β st a w → wpList G.P ops.toArray Q' l a w
  | [], st, β, a, w, _, hA, h => hK st β a w hA h
  | o :: l, st, β, a, w, hd, hA, h => by
    have ih := alist_sound hG hK l
    have hd0 := hd o (by simp)
    have hd' : ∀ o ∈ l, ∀ d, o.dst = some d → d < N := fun o ho => hd o (by simp [ho])
    unfold alist at hA
    unfold wpList
    split at hA
    · rename_i hg
      have hw : Region.wanted o (yielded ops.toArray a.tmps) = true := by simp [Region.wanted, hg]
      rw [if_pos hw]
      exact .inl (aop_sound hG h hd0 hA fun st' β' a' w' hk hs => ih st' β' a' w' hd' hk hs)
    · rename_i j want hg
      have skip : Region.wanted o (yielded ops.toArray a.tmps) = false → alist G ops K l (st.put o.dst undefA) →
          (if Region.wanted o (yielded ops.toArray a.tmps) = true then o.wp G.P a w (wpList G.P ops.toArray Q' l) Q' ∨ (o.asks G.P a w ∧ LetsOut Q') else wpList G.P ops.toArray Q' l (a.put o.dst undef) w) := fun hw hA' => by
        rw [if_neg (by simp [hw])]
        exact ih _ β _ _ hd' hA' (h.put hd0 (Rep.sc _ rfl))
      split at hA
      · rename_i b hy
        have hyc := yieldA_some h hy
        by_cases hb : b = want
        · have hw : Region.wanted o (yielded ops.toArray a.tmps) = true := by simp [Region.wanted, hg, hyc, hb]
          rw [if_pos hw]
          exact .inl (aop_sound hG h hd0 (hA.1 hb) fun st' β' a' w' hk hs => ih st' β' a' w' hd' hk hs)
        · exact skip (by simp [Region.wanted, hg, hyc, hb]) (hA.2 hb)
      · rename_i hy
        have hyc := yieldA_none h hy
        exact skip (by simp [Region.wanted, hg, hyc]) hA
      · exact hA.elim

/-! ### What an operation of the head yields -/
def qVal (G : Ctx) (st : St) (o : Oper) (av : AV) : Prop :=
  yv G st o = some av ∨ ∃ c f g caps xs r, o.op = .call c ∧ c.callee = .value f ∧ evO st f = .im (.clo g caps) ∧ ivsOf (c.args.toList.map (evO st)) = some xs ∧ (3 ≤ g ∧ g < G.fns) ∧ Ctr G.P g (xs ++ caps) (· = r) ∧ av = .im r
def qStep (G : Ctx) (ops : List Oper) (st : St) (o : Oper) (av : AV) : Prop :=
  match o.guard with
  | none => qVal G st o av
  | some (j, want) => match yieldA st ops j with
    | some (some b) => if b = want then qVal G st o av else av = undefA
    | some none => av = undefA
    | none => False

theorem aq_qVal {o : Oper} {K : AV → Prop} (h : aq G st o K) : ∃ av, qVal G st o av ∧ K av := by
  unfold aq at h
  have plain : (match yv G st o with | some av => K av | none => False) → ∃ av, qVal G st o av ∧ K av := fun h => by
    split at h
    · rename_i av hy; exact ⟨av, .inl hy, h⟩
    · exact h.elim
  split at h
  · rename_i c ho
    split at h
    · rename_i f hf
      split at h
      · rename_i g caps xs h1 h2
        obtain ⟨hg, r, hr, hk⟩ := h
        exact ⟨_, .inr ⟨c, f, g, caps, xs, r, ho, hf, h1, h2, hg, hr, rfl⟩, hk⟩
      · exact h.elim
    · exact plain h
  · exact plain h

/-- The states: the values of the operations that have come up, in the order of the text. -/
def stUp (res : Nat → AV) (L : Nat → Bool) : List Oper → St → St
  | [], st => st
  | o :: r, st => stUp (fun i => res (i + 1)) (fun i => L (i + 1)) r (if L 0 = true then st.put o.dst (res 0) else st)

theorem ahead_res {K : St → Prop} : ∀ (l : List Oper) (st : St), ahead G ops K l st →
    ∃ res : Nat → AV, (∀ i o, l[i]? = some o → qStep G ops (stUp res (fun _ => true) (l.take i) st) o (res i)) ∧ K (stUp res (fun _ => true) l st)
  | [], st, h => ⟨fun _ => .und, fun i o hi => by simp at hi, h⟩
  | o :: l, st, h => by
    have key : ∃ av, qStep G ops st o av ∧ ahead G ops K l (st.put o.dst av) := by
      unfold ahead at h
      unfold qStep
      split at h
      · obtain ⟨av, h1, h2⟩ := aq_qVal h
        exact ⟨av, h1, h2⟩
      · rename_i j want hg
        split at h
        · rename_i b hy
          by_cases hb : b = want
          · obtain ⟨av, h1, h2⟩ := aq_qVal (h.1 hb)
            exact ⟨av, by rw [if_pos hb]; exact h1, h2⟩
          · exact ⟨undefA, by rw [if_neg hb], h.2 hb⟩
        · exact ⟨undefA, rfl, h⟩
        · exact h.elim
    obtain ⟨av, h1, h2⟩ := key
    obtain ⟨res, h3, h4⟩ := ahead_res l _ h2
    refine ⟨fun i => match i with | 0 => av | i + 1 => res i, fun i o' hi => ?_, ?_⟩
    · cases i with
      | zero => simp at hi; subst hi; exact h1
      | succ i =>
        have := h3 i o' (by simpa using hi)
        simpa [stUp] using this
    · simpa [stUp] using h4

theorem stUp_rows (res : Nat → AV) (L : Nat → Bool) (l : List Oper) (st : St) : (stUp res L l st).rows = st.rows ∧ (stUp res L l st).toks = st.toks := by
  induction l generalizing res L st with
  | nil => exact ⟨rfl, rfl⟩
  | cons o l ih =>
    simp only [stUp]
    have := ih (fun i => res (i + 1)) (fun i => L (i + 1)) (if L 0 = true then st.put o.dst (res 0) else st)
    have e : (if L 0 = true then st.put o.dst (res 0) else st).rows = st.rows ∧ (if L 0 = true then st.put o.dst (res 0) else st).toks = st.toks := by
      split
      · unfold St.put; split <;> exact ⟨rfl, rfl⟩
      · exact ⟨rfl, rfl⟩
    exact ⟨this.1.trans e.1, this.2.trans e.2⟩
theorem get_put_ne {dst : Option Nat} {av : AV} {t : Nat} (h : dst ≠ some t) : (st.put dst av).get t = st.get t := by
  cases dst with
  | none => rfl
  | some d =>
    have : t ≠ d := fun e => h (by rw [e])
    simp [St.put, St.get, look, this]
theorem get_put_same {av : AV} {t : Nat} : (st.put (some t) av).get t = av := by simp [St.put, St.get, look]

theorem stUp_get {t : Nat} : ∀ (l : List Oper) (res : Nat → AV) (L L' : Nat → Bool) (st st' : St), st.get t = st'.get t → (∀ i o, l[i]? = some o → o.dst = some t → L i = L' i) →
    (stUp res L l st).get t = (stUp res L' l st').get t
  | [], _, _, _, _, _, h, _ => h
  | o :: l, res, L, L', st, st', h, hL => by
    simp only [stUp]
    refine stUp_get l _ _ _ _ _ ?_ (fun i o' hi ho => hL (i + 1) o' (by simpa using hi) ho)
    by_cases hd : o.dst = some t
    · have := hL 0 o rfl hd
      rw [← this]
      split
      · rw [hd, get_put_same, get_put_same]
      · exact h
    · have : ∀ (s : St) (b : Bool), (if b = true then s.put o.dst (res 0) else s).get t = s.get t := fun s b => by
        split
        · exact get_put_ne hd
        · rfl
      rw [this, this]; exact h
theorem stUp_take : ∀ (l : List Oper) (res : Nat → AV) (j : Nat) (st : St), stUp res (fun _ => true) (l.take j) st = stUp res (fun i => decide (i < j)) l st
  | [], _, j, st => by simp [stUp]
  | o :: l, res, 0, st => by
    have : ∀ (l : List Oper) (res : Nat → AV) (st : St), stUp res (fun i => decide (i < 0)) l st = st := by
      intro l
      induction l with
      | nil => intros; rfl
      | cons o l ih => intro res st; simp only [stUp]; exact ih _ _
    rw [this]; rfl
  | o :: l, res, j + 1, st => by
    simp only [List.take_succ_cons, stUp]
    rw [stUp_take l]
    simp
theorem stUp_last {t : Nat} : ∀ (l : List Oper) (res : Nat → AV) (L : Nat → Bool) (st : St) (i : Nat) (o : Oper), l[i]? = some o → o.dst = some t → L i = true →
    (∀ k o', i < k → l[k]? = some o' → L k = true → o'.dst ≠ some t) → (stUp res L l st).get t = res i
  | [], _, _, _, i, o, hi, _, _, _ => by simp at hi
  | o' :: l, res, L, st, 0, o, hi, hd, hL, hk => by
    simp at hi; subst hi
    simp only [stUp, hL, if_true]
    have : (stUp (fun i => res (i + 1)) (fun i => L (i + 1)) l (st.put o'.dst (res 0))).get t = (stUp (fun i => res (i + 1)) (fun _ => false) l (st.put o'.dst (res 0))).get t :=
      stUp_get l _ _ _ _ _ rfl fun i o2 hi ho => by
        cases hc : L (i + 1) with
        | false => rfl
        | true => exact absurd ho (hk (i + 1) o2 (by omega) (by simpa using hi) hc)
    rw [this]
    have hf : ∀ (l : List Oper) (res : Nat → AV) (st : St), stUp res (fun _ => false) l st = st := by
      intro l
      induction l with
      | nil => intros; rfl
      | cons o l ih => intro res st; simp only [stUp]; exact ih _ _
    rw [hf, hd, get_put_same]
  | o' :: l, res, L, st, i + 1, o, hi, hd, hL, hk => by
    simp only [stUp]
    exact stUp_last l (fun i => res (i + 1)) (fun i => L (i + 1)) _ i o (by simpa using hi) hd hL (fun k o2 hlt hk' hLk => hk (k + 1) o2 (by omega) (by simpa using hk') hLk)

/-! ### An operation looks at its operands alone -/
theorem evO_congr {x : Operand} (h : ∀ t, x = .tmp t → st.get t = st'.get t) : evO st x = evO st' x := by
  cases x <;> simp only [evO]
  exact h _ rfl
theorem ivParts_congr : ∀ {ps : List (Nat × Operand)}, (∀ p ∈ ps, evO st p.2 = evO st' p.2) → ivParts st ps = ivParts st' ps
  | [], _ => rfl
  | (i, x) :: r, h => by
    unfold ivParts
    rw [h (i, x) (by simp), ivParts_congr (fun p hp => h p (by simp [hp]))]
theorem yLoad_congr {t : TypeId} {p : AV} (hr : st.rows = st'.rows) : yLoad G st t p = yLoad G st' t p := by
  unfold yLoad; rw [hr]

theorem yv_congr {o : Oper} (h : ∀ x ∈ o.op.operands, evO st x = evO st' x) (hr : st.rows = st'.rows) : yv G st o = yv G st' o := by
  unfold yv
  generalize o.op = op at h
  cases op <;> simp only [Op.operands] at h <;> (try rfl) <;> dsimp only
  case move x => rw [h x (by simp)]
  case assign x => rw [h x (by simp)]
  case pick c x y => rw [h c (by simp), h x (by simp), h y (by simp)]
  case build t ps => rw [ivParts_congr (st := st) (st' := st') fun p hp => h p.2 (by simp; exact ⟨p.1, by simpa using hp⟩)]
  case buildSlice t n ps => rw [ivParts_congr (st := st) (st' := st') fun p hp => h p.2 (by simp; exact ⟨p.1, by simpa using hp⟩)]
  case load t p => rw [h p (by simp)]; exact yLoad_congr hr
  case nilCheck x => rw [h x (by simp)]
  case binOp op t x y u => rw [h x (by simp), h y (by simp)]
  case unOp op t x => rw [h x (by simp)]
  case convert s d x => rw [h x (by simp)]
  case makeFunc fn first caps =>
    have : caps.toList.map (evO st) = caps.toList.map (evO st') := List.map_congr_left fun x hx => h x (by simp [Array.mem_toList_iff.1 hx])
    simp only [this]
  case slice t x lo hi mx =>
    have e1 : lo.map (evO st) = lo.map (evO st') := by cases lo with | none => rfl | some y => simp [h y (by simp)]
    have e2 : hi.map (evO st) = hi.map (evO st') := by cases hi with | none => rfl | some y => simp [h y (by simp)]
    rw [h x (by simp), e1, e2]
  case fieldAddr t x f => simp only [h x (by simp)]
  case field t x f => simp only [h x (by simp)]
  case indexAddr t x i => rw [h x (by simp), h i (by simp)]
  case index t x i => rw [h x (by simp), h i (by simp)]
  case extract x k => rw [h x (by simp)]
  case call c =>
    have e1 : c.args.toList.map (evO st) = c.args.toList.map (evO st') := List.map_congr_left fun x hx => h x (by simp [Call.operands, Array.mem_toList_iff.1 hx])
    have e2 : ∀ x, c.args.toList = [x] → evO st x = evO st' x := fun x hx => h x (by
      have : x ∈ c.args := Array.mem_toList_iff.1 (by rw [hx]; simp)
      simp [Call.operands, this])
    simp only [e1]
    cases hc : c.callee <;> dsimp only
    rename_i b
    cases b <;> dsimp only
    split
    · rename_i t x ht hx
      rw [e2 x hx]
    · rfl
end
end Go.Abs
