/-
  From a contract to what a claim asks: the arguments opened, the world behind the call shut. Program-independent. The generic layer under all claims of this repo: 19 of several.
-/
import Derived.Test.YtpnlfkaijdjhlaaAbs18
import Derived.ProofKit
import Derived.Carry
namespace Go.Abs
set_option linter.all false
open Go.RowKit (Below)
open Go.ChangeShapes Go.WideShapes

def FitsA (G : Ctx) (n : Nat) (t : TypeId) (y : IV) : Prop :=
  if aggK (G.ti t).kind = true then ∃ xs, y = .agg xs ∧ Fits G n t xs else Fits G n t [y]
def FitsL (G : Ctx) (n : Nat) : List TypeId → List IV → Prop
  | [], [] => True
  | t :: ts, y :: ys => FitsA G n t y ∧ FitsL G n ts ys
  | _, _ => False

section
variable {G : Ctx} {H : Type} {enc : TypeId × Value → H} {w : World} {base : Nat} {spare : Nat → Bool} {held : Bool} {r : Reach} {b0 n : Nat}

theorem opens_ne {t : TypeId} (h : opens G n t = true) : (G.ti t).size ≠ 0 := by
  cases n with
  | zero => simp [opens] at h
  | succ n =>
    unfold opens at h
    simp only [Bool.and_eq_true, bne_iff_ne, ne_eq] at h
    exact h.1

theorem open_arg (hG : G.Ok) {t : TypeId} {v : Value} {d : DataW H} {p : List MemPlace} (ho : opens G n t = true) (hv : Value.okWide G.P w r b0 t v) (h : DataW.Trod enc G.P w base spare held t v d p) :
    ∃ y, Rep w NoM y v ∧ FitsA G n t y := by
  obtain ⟨m, hm⟩ := h
  have h0 := opens_ne ho
  obtain ⟨xs, h1, h2, h3, h4⟩ := open_rep hG n m t _ _ ho hm
  have single : v.cells = #[v] → aggK (G.ti t).kind = false → ∃ y, Rep w NoM y v ∧ FitsA G n t y := by
    intro hc hk
    rw [hc] at h1
    obtain ⟨hl, hr⟩ := h1
    match xs, hl with
    | [y], _ =>
      refine ⟨y, hr 0 y v rfl rfl, ?_⟩
      unfold FitsA
      rw [hk]
      exact h4
  have ho' := ho
  cases n with
  | zero => simp [opens] at ho
  | succ n =>
    unfold opens at ho'
    simp only [Bool.and_eq_true] at ho'
    obtain ⟨_, ho'⟩ := ho'
    split at ho'
    · rename_i k hk
      obtain ⟨i, rfl⟩ := okWide_int (hG.it h0 hk) hv
      exact single rfl (by rw [hk]; rfl)
    · rename_i hk
      obtain ⟨i, rfl⟩ := okWide_bool (hG.bl h0 hk) hv
      exact single rfl (by rw [hk]; rfl)
    · rename_i hk
      obtain ⟨i, rfl⟩ := okWide_string (hG.str h0 hk) hv
      exact single rfl (by rw [hk]; rfl)
    · rename_i e hk
      obtain ⟨a, l, c, rfl⟩ := okWide_slice (hG.sl h0 hk) hv
      exact single rfl (by rw [hk]; rfl)
    · rename_i fs hk
      obtain ⟨gs, hu, _⟩ := hG.st h0 hk
      obtain ⟨cs, rfl, _⟩ := okWide_struct hu hv
      refine ⟨.agg xs, RepL.agg (by simpa [Value.cells] using h1) h2, ?_⟩
      unfold FitsA
      rw [if_pos (by rw [hk]; rfl)]
      exact ⟨xs, rfl, h4⟩
    · cases ho'

theorem open_args (hG : G.Ok) : ∀ {ts : List TypeId} {vs : List Value} {ds : List (DataW H)} {p : List MemPlace}, (∀ t ∈ ts, opens G n t = true) →
    (∀ (j : Nat) t v, ts[j]? = some t → vs[j]? = some v → Value.okWide G.P w r b0 t v) → DataW.TrodAll enc G.P w base spare held ts vs ds p → ∃ ys, RepL w NoM ys vs ∧ FitsL G n ts ys
  | [], [], [], _, _, _, _ => ⟨[], RepL.nil, trivial⟩
  | t :: ts, v :: vs, d :: ds, _, ho, hv, ⟨_, _, h1, h2, _⟩ => by
    obtain ⟨y, h3, h4⟩ := open_arg hG (ho t (List.mem_cons_self ..)) (hv 0 t v rfl rfl) h1
    obtain ⟨ys, h5, h6⟩ := open_args hG (fun t ht => ho t (List.mem_cons_of_mem _ ht)) (fun j t v hj hk => hv (j + 1) t v (by simpa using hj) (by simpa using hk)) h2
    exact ⟨y :: ys, RepL.cons h3 h5, h4, h6⟩

theorem args_stay {P : Program} (hl : laidOutB P = true) {W W' : World} (hb : Below W.heap.size W W') : ∀ {ts : List TypeId} {vs : List Value} {ds : List (DataW H)} {ps : List MemPlace},
    (∀ t ∈ ts, P.readableRec t = true ∧ t < P.types.size) → DataW.TrodAll enc P W 0 (fun _ => true) true ts vs ds ps → (∀ x ∈ ps, x.block < W.heap.size) →
    DataW.TrodAll enc P W' 0 (fun b => decide (b < W.heap.size)) true ts vs ds ps
  | [], [], [], _, _, h, _ => h
  | t :: ts, v :: vs, d :: ds, _, ht, ⟨p, q, h1, h2, e⟩, hlt => by
    subst e
    obtain ⟨h3, h4⟩ := ht t (List.mem_cons_self ..)
    exact ⟨p, q, Go.RowKit.Below.trod hl h3 h4 h1 hb (fun x hx => hlt x (List.mem_append_left _ hx)),
      args_stay hl hb (fun t h => ht t (List.mem_cons_of_mem _ h)) h2 (fun x hx => hlt x (List.mem_append_right _ hx)), rfl⟩

theorem trodAll_len {P : Program} : ∀ {ts : List TypeId} {vs : List Value} {ds : List (DataW H)} {ps : List MemPlace}, DataW.TrodAll enc P w base spare held ts vs ds ps → ds.length = ts.length
  | [], [], [], _, _ => rfl
  | _ :: _, _ :: _, _ :: _, _, ⟨_, _, _, h2, _⟩ => by simp [trodAll_len h2]

/-- THE LAW'S STEP: a contract 'it returns true' for all arguments that fit is what a row without conditions asks. -/
theorem law_calls (hG : G.Good) (hl : laidOutB G.P = true) {f : FuncId} {fn : Func} {s : ChangeSpec} {tb : TypeId} (n : Nat) (ts : List TypeId)
    (hp : fn.params.toList = ts) (hrt : fn.resultTypes.toList = [tb]) (hsz : fn.resultTypes.size = 1) (htb : G.P.underlying tb = some .bool)
    (hts : (ts.all fun t => opens G n t && G.P.readableRec t && decide (t < G.P.types.size)) = true)
    (hvars : s.vars = []) (hspec : ∀ ds : List (DataW H), ds.length = ts.length → s.fn H ds = { results := [.lit (.bool true)], args := ds })
    (hc : ∀ ys, FitsL G n ts ys → Ctr G.P f ys (· = .bool true)) {W : World} {args : Array Value} {ds gs : List (DataW H)} {before : List MemPlace}
    (hval : ∀ (j : Nat) t v, fn.params[j]? = some t → args[j]? = some v → Value.okWide G.P W .any b0 t v) (hW : DataW.Whole enc G.P fn.params.toList s.vars false W args.toList ds gs before) :
    Calls G.P f args W fun e W' => ∃ v, e = .returned v ∧ s.post enc G.P fn false true false false W args v W' := by
  have hts' : ∀ t ∈ ts, opens G n t = true ∧ G.P.readableRec t = true ∧ t < G.P.types.size := fun t ht => by
    have := List.all_eq_true.1 hts t ht
    simp only [Bool.and_eq_true, decide_eq_true_eq] at this
    exact ⟨this.1.1, this.1.2, this.2⟩
  have hW0 := hW
  obtain ⟨p, q, hA, hV, hpq, hfz, hnd⟩ := hW
  rw [hvars] at hV
  obtain ⟨rfl, rfl⟩ := trodVars_none hV
  rw [hp] at hA
  obtain ⟨ys, h1, h2⟩ := open_args hG.ok (fun t ht => (hts' t ht).1) (fun j t v hj hk => hval j t v (by rw [← Array.getElem?_toList, hp]; exact hj) (by rw [← Array.getElem?_toList]; exact hk)) hA
  have hcall := hc ys h2 W NoM args.toList (fun b o h => h.elim) h1
  rw [Array.toArray_toList] at hcall
  refine hcall.mono fun e W' ⟨r, v, hr, he, hv, hb⟩ => ?_
  subst hr
  obtain rfl := Rep.sc_inv hv
  refine ⟨_, he, ?_⟩
  have hsp := hspec ds (trodAll_len hA)
  have hlt : ∀ x ∈ before, x.block < W.heap.size := fun x hx => hW0.lt x hx
  refine ⟨ds, [], before, [], p, [], hW0, ?_, ?_, ?_, World.keptBut_mono (fun p hp => ⟨hp, ?_⟩) (hb.frame (· ∈ before)), fun h => by cases h⟩
  · rw [hrt, hsz, List.append_nil, hsp]
    exact trodAll_mk1 (Go.RowKit.shut_bool htb _)
  · rw [List.append_nil, hsp, hp]
    exact args_stay hl hb (fun t ht => (hts' t ht).2) hA (fun x hx => hlt x (by rw [hpq]; simpa using hx))
  · rw [List.append_nil, hsp, hvars]
    rfl
  · rw [hpq, List.append_nil] at hp
    exact .inr (.inl hp)
end
end Go.Abs
