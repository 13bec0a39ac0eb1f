/- A part of the proof: what functions of the program do, and the layer under it. No further condition. -/
import Derived.Test.YtnjkhiafjcajaaaGreatKX19
namespace Go.Proofs.YtnjkhiafjcajaaaGreat
set_option linter.all false
open Go.Abs

/-- The rows of a stock: one block for the list of places, one for each place. -/
def inner : List Nat → List (List Rat) → Abs.Rows
  | b :: bs, r :: S => (hp b, 4, r.map fc) :: inner bs S
  | _, _ => []
def outer (t : Nat) (n : Nat) (bs : List Nat) : List (List IV) := bs.map fun b => [.ref b t 4 n]
def stRows (t b0 : Nat) (bs : List Nat) (S : List (List Rat)) (n : Nat) : Abs.Rows := (hp b0, 1, outer t n bs) :: inner bs S
theorem inner_look_none {bs : List Nat} {S : List (List Rat)} {k : Nat} (h : ∀ b ∈ bs, k ≠ hp b) : Abs.look (inner bs S) k = none := by
  induction bs generalizing S with
  | nil => cases S <;> rfl
  | cons b bs ih =>
    cases S with
    | nil => rfl
    | cons r S =>
      rw [inner, look_cons_ne _ _ (h b (by simp))]
      exact ih fun c hc => h c (by simp [hc])
theorem inner_look {bs : List Nat} {S : List (List Rat)} {i b : Nat} {r : List Rat} (hn : bs.Nodup) (hb : bs[i]? = some b) (hr : S[i]? = some r) : Abs.look (inner bs S) (hp b) = some (4, r.map fc) := by
  induction bs generalizing S i with
  | nil => cases hb
  | cons c bs ih =>
    cases S with
    | nil => cases hr
    | cons q S =>
      rw [List.nodup_cons] at hn
      cases i with
      | zero =>
        simp only [List.getElem?_cons_zero, Option.some.injEq] at hb hr
        subst hb hr
        rw [inner, look_cons_same]
      | succ i =>
        rw [List.getElem?_cons_succ] at hb hr
        have hne : b ≠ c := fun e => hn.1 (e ▸ List.mem_of_getElem? hb)
        rw [inner, look_cons_ne _ _ (fun e => hne (hp_inj.1 e))]
        exact ih hn.2 hb hr
theorem setRow_none {R : Abs.Rows} {k s : Nat} {es : List (List IV)} (h : Abs.look R k = none) : setRow R k s es = R := by
  induction R with
  | nil => rfl
  | cons p R ih =>
    obtain ⟨j, v⟩ := p
    by_cases e : k = j
    · subst e; rw [look_cons_same] at h; cases h
    · rw [look_cons_ne _ _ e] at h
      have := ih h
      simp only [setRow, List.map_cons] at this ⊢
      rw [this, if_neg (fun x => e x.symm)]
theorem inner_set {bs : List Nat} {S : List (List Rat)} {i b : Nat} {r q : List Rat} (hn : bs.Nodup) (hb : bs[i]? = some b) (hr : S[i]? = some r) : setRow (inner bs S) (hp b) 4 (q.map fc) = inner bs (S.set i q) := by
  induction bs generalizing S i with
  | nil => cases hb
  | cons c bs ih =>
    cases S with
    | nil => cases hr
    | cons p S =>
      rw [List.nodup_cons] at hn
      cases i with
      | zero =>
        simp only [List.getElem?_cons_zero, Option.some.injEq] at hb hr
        subst hb hr
        have h0 : Abs.look (inner bs S) (hp c) = none := inner_look_none fun d hd e => hn.1 ((hp_inj.1 e) ▸ hd)
        have := setRow_none (s := 4) (es := q.map fc) h0
        simp only [setRow] at this
        simp only [setRow, inner, List.map_cons, List.set_cons_zero, this, if_true]
      | succ i =>
        rw [List.getElem?_cons_succ] at hb hr
        have hne : b ≠ c := fun e => hn.1 (e ▸ List.mem_of_getElem? hb)
        have := ih hn.2 hb hr
        simp only [setRow] at this
        simp only [setRow, inner, List.map_cons, List.set_cons_succ, this, if_neg (fun e => hne (hp_inj.1 e).symm : ¬ hp c = hp b)]
section
variable {t b0 n : Nat} {bs : List Nat} {S : List (List Rat)}
theorem st_look0 : Abs.look (stRows t b0 bs S n) (hp b0) = some (1, outer t n bs) := look_cons_same _ _ _
theorem st_look {i b : Nat} {r : List Rat} (hn : (b0 :: bs).Nodup) (hb : bs[i]? = some b) (hr : S[i]? = some r) : Abs.look (stRows t b0 bs S n) (hp b) = some (4, r.map fc) := by
  rw [List.nodup_cons] at hn
  have hne : b ≠ b0 := fun e => hn.1 (e ▸ List.mem_of_getElem? hb)
  rw [stRows, look_cons_ne _ _ (fun e => hne (hp_inj.1 e))]
  exact inner_look hn.2 hb hr
theorem st_set {i b : Nat} {r q : List Rat} (hn : (b0 :: bs).Nodup) (hb : bs[i]? = some b) (hr : S[i]? = some r) : (stRows t b0 bs S n).map (fun p => if p.1 = hp b then (p.1, 4, q.map fc) else p) = stRows t b0 bs (S.set i q) n := by
  rw [List.nodup_cons] at hn
  have hne : b ≠ b0 := fun e => hn.1 (e ▸ List.mem_of_getElem? hb)
  have := inner_set (q := q) hn.2 hb hr
  simp only [setRow] at this
  simp only [stRows, List.map_cons, this, if_neg (fun e => hne (hp_inj.1 e).symm : ¬ hp b0 = hp b)]
theorem st_low {d : Nat} (h : d < 100000) : Abs.look (stRows t b0 bs S n) d = none := by
  have hl : ∀ b, d ≠ hp b := fun b => by unfold hp; omega
  rw [stRows, look_cons_ne _ _ (hl b0)]
  exact inner_look_none fun b _ => hl b
theorem filter_none {R : Abs.Rows} {d : Nat} (h : Abs.look R d = none) : R.filter (fun p => p.1 != d) = R := by
  induction R with
  | nil => rfl
  | cons p R ih =>
    obtain ⟨j, v⟩ := p
    by_cases e : d = j
    · subst e; rw [look_cons_same] at h; cases h
    · rw [look_cons_ne _ _ e] at h
      rw [List.filter_cons, ih h, if_pos (by simp only [bne_iff_ne, ne_eq]; exact fun x => e x.symm)]
theorem st_filter {d : Nat} (h : d < 100000) : (stRows t b0 bs S n).filter (fun p => p.1 != d) = stRows t b0 bs S n := filter_none (st_low h)
theorem st_setlow {d s : Nat} {es : List (List IV)} (h : d < 100000) : (stRows t b0 bs S n).map (fun p => if p.1 = d then (p.1, s, es) else p) = stRows t b0 bs S n := setRow_none (st_low h)
theorem st_blks : blks (stRows t b0 bs S n) := by
  intro k x h
  rcases Decidable.em (k < 100000) with hk | hk
  · rw [st_low hk] at h; cases h
  · exact ⟨_, hp_of (by omega)⟩
end
theorem SubR_skip {R' R : Abs.Rows} {p : Nat × Nat × List (List IV)} (h : Abs.look R' p.1 = none) (hs : SubR R' R) : SubR R' (p :: R) := by
  intro k x hk
  obtain ⟨j, v⟩ := p
  rw [look_cons_ne _ _ (fun e => by subst e; rw [h] at hk; cases hk)]
  exact hs k x hk
theorem SubR_same {R' R : Abs.Rows} (p : Nat × Nat × List (List IV)) (hs : SubR R' R) : SubR (p :: R') (p :: R) := by
  intro k x hk
  obtain ⟨j, v⟩ := p
  by_cases e : k = j
  · subst e; rw [look_cons_same] at hk ⊢; exact hk
  · rw [look_cons_ne _ _ e] at hk ⊢; exact hs k x hk
/-- One material of a move. -/
def stepS (fr to m : Nat) (f : Rat) (S : List (List Rat)) : List (List Rat) :=
  let a := S.getD fr []
  let S1 := S.set fr (a.set m (a.getD m 0 - f))
  let b := S1.getD to []
  S1.set to (b.set m (b.getD m 0 + f))
def carN (S : List (List Rat)) (fr to : Nat) (l : List Rat) : Nat → List (List Rat)
  | 0 => S
  | m + 1 => stepS fr to m (l.getD m 0) (carN S fr to l m)
/-- A stock of p places and n materials. -/
def Stk (p n : Nat) (S : List (List Rat)) : Prop := S.length = p ∧ ∀ r ∈ S, r.length = n
theorem mem_getD {S : List (List Rat)} {i : Nat} (h : i < S.length) : S.getD i [] ∈ S := by
  rw [List.getD_eq_getElem?_getD, List.getElem?_eq_getElem h]; exact List.getElem_mem h
theorem Stk.set {p n : Nat} {S : List (List Rat)} (h : Stk p n S) {i : Nat} {r : List Rat} (hr : r.length = n) : Stk p n (S.set i r) :=
  ⟨by rw [List.length_set]; exact h.1, fun q hq => by
    rcases List.mem_or_eq_of_mem_set hq with h1 | h1
    · exact h.2 q h1
    · rw [h1]; exact hr⟩
theorem Stk.step {p n fr to m : Nat} {f : Rat} {S : List (List Rat)} (h : Stk p n S) (h1 : fr < p) (h2 : to < p) : Stk p n (stepS fr to m f S) := by
  have h3 := h.set (i := fr) (r := (S.getD fr []).set m ((S.getD fr []).getD m 0 - f)) (by rw [List.length_set]; exact h.2 _ (mem_getD (by rw [h.1]; exact h1)))
  exact h3.set (by rw [List.length_set]; exact h3.2 _ (mem_getD (by rw [h3.1]; exact h2)))
theorem Stk.car {p n fr to : Nat} {l : List Rat} {S : List (List Rat)} (h : Stk p n S) (h1 : fr < p) (h2 : to < p) : ∀ m, Stk p n (carN S fr to l m)
  | 0 => h
  | m + 1 => (Stk.car h h1 h2 m).step h1 h2
/-- Sizes: columns below m have at most k digits, the others j. -/
def SL (k j m : Nat) (S : List (List Rat)) : Prop := ∀ r ∈ S, ∀ (i : Nat) x, r[i]? = some x → FL (if i < m then k else j) x
theorem SL.set {k j m c : Nat} {S : List (List Rat)} {r : List Rat} {x : Rat} (h : SL k j m S) (hr : r ∈ S) (hx : FL c x) (hc : ∀ q ∈ S, ∀ y, q[m]? = some y → FL c y) {i : Nat} :
    ∀ q ∈ S.set i (r.set m x), ∀ (n : Nat) y, q[n]? = some y → (n = m → FL c y) ∧ (n ≠ m → FL (if n < m then k else j) y) := by
  intro q hq n y hy
  rcases List.mem_or_eq_of_mem_set hq with h1 | h1
  · exact ⟨fun e => hc q h1 y (e ▸ hy), fun _ => h q h1 n y hy⟩
  · rw [h1] at hy
    refine ⟨fun e => ?_, fun e => ?_⟩
    · subst e
      rw [List.getElem?_set_self'] at hy
      cases hz : r[n]? with
      | none => rw [hz] at hy; cases hy
      | some z =>
        rw [hz] at hy
        have hy : some x = some y := hy
        injection hy with hy
        rw [← hy]; exact hx
    · rw [List.getElem?_set_ne (fun x => e x.symm)] at hy
      exact h r hr n y hy
theorem at_getD {l : List Rat} {m : Nat} (h : m < l.length) : l[m]? = some (l.getD m 0) := by
  rw [List.getD_eq_getElem?_getD, List.getElem?_eq_getElem h]; rfl
theorem SL.step {k j m p n fr to : Nat} {f : Rat} {S : List (List Rat)} (h : SL k j m S) (hs : Stk p n S) (h1 : fr < p) (h2 : to < p) (hm : m < n) (c : Nat) (hc : ∀ x, FL j x → FL c x ∧ FL c (x - f)) (hk : ∀ x, FL c x → FL k x ∧ FL k (x + f)) :
    SL k j (m + 1) (stepS fr to m f S) ∧ ((∀ x, (S.getD fr [])[m]? = some x → FL j x) ∧ ∀ x, ((S.set fr ((S.getD fr []).set m ((S.getD fr []).getD m 0 - f))).getD to [])[m]? = some x → FL c x) := by
  have ha := mem_getD (S := S) (i := fr) (by rw [hs.1]; exact h1)
  have hal : (S.getD fr []).length = n := hs.2 _ ha
  have hj : ∀ q ∈ S, ∀ x, q[m]? = some x → FL j x := fun q hq x hx => by
    have := h q hq m x hx
    rwa [if_neg (by omega)] at this
  have hx0 : FL j ((S.getD fr []).getD m 0) := hj _ ha _ (at_getD (by rw [hal]; exact hm))
  have e1 := SL.set (c := c) (i := fr) (x := (S.getD fr []).getD m 0 - f) h ha (hc _ hx0).2 (fun q hq y hy => (hc y (hj q hq y hy)).1)
  have hs1 := hs.set (i := fr) (r := (S.getD fr []).set m ((S.getD fr []).getD m 0 - f)) (by rw [List.length_set]; exact hal)
  unfold stepS
  dsimp only
  generalize S.set fr ((S.getD fr []).set m ((S.getD fr []).getD m 0 - f)) = S1 at *
  have hb := mem_getD (S := S1) (i := to) (by rw [hs1.1]; exact h2)
  have hbl : (S1.getD to []).length = n := hs1.2 _ hb
  have hx1 : FL c ((S1.getD to []).getD m 0) := (e1 _ hb m _ (at_getD (by rw [hbl]; exact hm))).1 rfl
  refine ⟨?_, fun x hx => hj _ ha x hx, fun x hx => (e1 _ hb m x hx).1 rfl⟩
  intro q hq i y hy
  rcases List.mem_or_eq_of_mem_set hq with h3 | h3
  · obtain ⟨g1, g2⟩ := e1 q h3 i y hy
    by_cases e : i = m
    · rw [if_pos (by omega)]; exact (hk y (g1 e)).1
    · have := g2 e
      by_cases hi : i < m
      · rw [if_pos hi] at this; rw [if_pos (by omega)]; exact this
      · rw [if_neg hi] at this; rw [if_neg (by omega)]; exact this
  · rw [h3] at hy
    by_cases e : i = m
    · subst e
      rw [List.getElem?_set_self (by rw [hbl]; exact hm)] at hy
      injection hy with hy
      rw [← hy, if_pos (by omega)]; exact (hk _ hx1).2
    · rw [List.getElem?_set_ne (fun x => e x.symm)] at hy
      have := (e1 _ hb i y hy).2 e
      by_cases hi : i < m
      · rw [if_pos hi] at this; rw [if_pos (by omega)]; exact this
      · rw [if_neg hi] at this; rw [if_neg (by omega)]; exact this
end Go.Proofs.YtnjkhiafjcajaaaGreat

namespace Go.Proofs.YtnjkhiafjcajaaaGreat
set_option linter.all false
open Go.Abs

theorem set_fc {a : List Rat} {m : Nat} {y : Rat} : (a.map fc).set m (fc y) = (a.set m y).map fc := by rw [List.map_set]
theorem carN_succ {S : List (List Rat)} {fr to m : Nat} {l : List Rat} {f am bm : Rat} {a b : List Rat} (hf : l[m]? = some f) (ha : (carN S fr to l m)[fr]? = some a) (ham : a[m]? = some am)
    (hb : ((carN S fr to l m).set fr (a.set m (am - f)))[to]? = some b) (hbm : b[m]? = some bm) :
    carN S fr to l (m + 1) = ((carN S fr to l m).set fr (a.set m (am - f))).set to (b.set m (bm + f)) := by
  have e0 : l.getD m 0 = f := by rw [List.getD_eq_getElem?_getD, hf]; rfl
  have e1 : (carN S fr to l m).getD fr [] = a := by rw [List.getD_eq_getElem?_getD, ha]; rfl
  have e2 : a.getD m 0 = am := by rw [List.getD_eq_getElem?_getD, ham]; rfl
  have e3 : ((carN S fr to l m).set fr (a.set m (am - f))).getD to [] = b := by rw [List.getD_eq_getElem?_getD, hb]; rfl
  have e4 : b.getD m 0 = bm := by rw [List.getD_eq_getElem?_getD, hbm]; rfl
  rw [carN, stepS]
  rw [e0, e1, e2, e3, e4]
theorem SL.car {k p n fr to : Nat} {l : List Rat} {S : List (List Rat)} (h : SL (k + 8) k 0 S) (hs : Stk p n S) (h1 : fr < p) (h2 : to < p) (hl : l.length = n) (hlF : ∀ r ∈ l, FL 3 r) :
    ∀ m, m ≤ n → SL (k + 8) k m (carN S fr to l m)
  | 0, _ => h
  | m + 1, hm => by
    have ih := SL.car h hs h1 h2 hl hlF m (by omega)
    have hf : FL 3 (l.getD m 0) := hlF _ (List.mem_of_getElem? (at_getD (l := l) (m := m) (by omega)))
    exact (SL.step ih (Stk.car hs h1 h2 m) h1 h2 (by omega) (k + 4) (fun x hx => ⟨hx.mono (by omega), (FL_sub hx hf).mono (by omega)⟩) (fun x hx => ⟨hx.mono (by omega), (FL_add hx hf).mono (by omega)⟩)).1
set_option maxRecDepth 100000 in
set_option maxHeartbeats 2000000 in
theorem h_carry (b0 : Nat) (bs : List Nat) (S : List (List Rat)) (x : Move) (l : List Rat) (p n k : Nat) (hnd : (b0 :: bs).Nodup) (hs : Stk p n S) (hbl : bs.length = p) (hp1 : p ≤ 1000) (hn1 : n ≤ 1000)
    (hfr : 0 ≤ x.fr ∧ x.fr < p) (hto : 0 ≤ x.to ∧ x.to < p) (hl : l.length = n) (hlF : ∀ r ∈ l, FL 3 r) (hS : SL (k + 8) k 0 S) (hk : k ≤ 18000) :
    CtrH G.P 62 [.im (.ref b0 45 1 p), .im (.agg x.c), .im (fcs l)] (stRows 57 b0 bs S n)
      (fun r L' => r = .im (.tup []) ∧ L' = stRows 57 b0 bs (carN S x.fr.toNat x.to.toNat l n) n) := by
  obtain ⟨hfr1, hfr2⟩ := hfr
  obtain ⟨hto1, hto2⟩ := hto
  have q1 : x.fr.toNat < p := by omega
  have q2 : x.to.toNat < p := by omega
  have hp' : ((p : Nat) : Int) = p := rfl
  unfold fcs
  have F0 := fun (d : Nat) (h : d < 100000) => st_filter (t := 57) (b0 := b0) (bs := bs) (S := S) (n := n) h
  refine ctrh_go (goodH [] []) _ _ [] Tryz.func62 rfl rfl (by decide +kernel) rfl ?_
  simp only [F0, go_sem, Move.c, ints, ic, big, frac, fc]
  refine LoopH_of [0, 4, 8, 9, 10] (fun m : Nat => ⟨[(0, .im (.ref b0 45 1 p)), (4, .loc 4 6 0 0), (8, .im (.sl (l.map fc))), (9, .im (.int l.length)), (10, .im (.int m))], (4, 6, [x.c]) :: stRows 57 b0 bs (carN S x.fr.toNat x.to.toNat l m) n, []⟩)
    (fun m => m ≤ l.length) (fun m => l.length - m) 0 ?_ ?_ rfl (Nat.zero_le _) ?_
  · simp only [Int.natCast_zero, go_sem, Move.c, ints, ic, big, frac, fc]
  · exact SubR.of_eq rfl
  · intro m hm
    by_cases hlt : (m : Int) < l.length
    · have hd : decide ((m : Int) < l.length) = true := decide_eq_true hlt
      obtain ⟨f, hx⟩ := at_nat hlt
      have h1 := i64_ok (n := (m : Int) + 1) (by omega)
      have hmn : (m : Int) < n := by omega
      have kf := hlF f (List.mem_of_getElem? hx)
      have hA := Stk.car (l := l) hs q1 q2 m
      have hAL := SL.car hS hs q1 q2 hl hlF m (by omega)
      obtain ⟨bf, hbf⟩ : ∃ b, bs[x.fr.toNat]? = some b := ⟨_, List.getElem?_eq_getElem (by omega)⟩
      obtain ⟨bt, hbt⟩ : ∃ b, bs[x.to.toNat]? = some b := ⟨_, List.getElem?_eq_getElem (by omega)⟩
      have hcs := fun a am b bm => carN_succ (S := S) (fr := x.fr.toNat) (to := x.to.toNat) (am := am) (bm := bm) (a := a) (b := b) hx
      generalize carN S x.fr.toNat x.to.toNat l m = A at *
      obtain ⟨a, ha⟩ : ∃ a, A[x.fr.toNat]? = some a := ⟨_, List.getElem?_eq_getElem (by have := hA.1; omega)⟩
      have hal : a.length = n := hA.2 a (List.mem_of_getElem? ha)
      obtain ⟨am, ham⟩ : ∃ y, a[m]? = some y := ⟨_, List.getElem?_eq_getElem (by omega)⟩
      have kam : FL k am := by
        have := hAL a (List.mem_of_getElem? ha) m am ham
        rwa [if_neg (by omega)] at this
      have s1 := f_sub (kam.mono (by omega : k ≤ 19000)) (kf.mono (by omega : 3 ≤ 19000))
      have ks := FL_sub kam kf
      have hB := hA.set (i := x.fr.toNat) (r := a.set m (am - f)) (by rw [List.length_set]; exact hal)
      obtain ⟨b, hb⟩ : ∃ b, (A.set x.fr.toNat (a.set m (am - f)))[x.to.toNat]? = some b := ⟨_, List.getElem?_eq_getElem (by have := hB.1; omega)⟩
      have hbL : b.length = n := hB.2 b (List.mem_of_getElem? hb)
      obtain ⟨bm, hbm⟩ : ∃ y, b[m]? = some y := ⟨_, List.getElem?_eq_getElem (by omega)⟩
      have kbm : FL (k + 4) bm := by
        have hset := SL.set (c := k + 4) (i := x.fr.toNat) (x := am - f) hAL (List.mem_of_getElem? ha) (ks.mono (by omega)) (fun q hq y hy => by
          have := hAL q hq m y hy
          rw [if_neg (by omega)] at this
          exact this.mono (by omega))
        exact (hset b (List.mem_of_getElem? hb) m bm hbm).1 rfl
      have s2 := f_add (kbm.mono (by omega : k + 4 ≤ 19000)) (kf.mono (by omega : 3 ≤ 19000))
      have hstep := hcs a am b bm ha ham hb hbm
      have L0 := fun A' => st_look0 (t := 57) (b0 := b0) (bs := bs) (S := A') (n := n)
      have L1 := st_look (t := 57) (n := n) hnd hbf ha
      have W1 := st_set (t := 57) (n := n) (q := a.set m (am - f)) hnd hbf ha
      generalize A.set x.fr.toNat (a.set m (am - f)) = B at *
      have L2 := st_look (t := 57) (n := n) hnd hbt hb
      have W2 := st_set (t := 57) (n := n) (q := b.set m (bm + f)) hnd hbt hb
      have E1 := set_fc (a := a) (m := m) (y := am - f)
      have E2 := set_fc (a := b) (m := m) (y := bm + f)
      have F1 := fun (A' : List (List Rat)) (d : Nat) (h : d < 100000) => st_filter (t := 57) (b0 := b0) (bs := bs) (S := A') (n := n) h
      have G1 := fun (A' : List (List Rat)) (d : Nat) (h : d < 100000) => st_low (t := 57) (b0 := b0) (bs := bs) (S := A') (n := n) h
      have K1 := fun (A' : List (List Rat)) (d s : Nat) (es : List (List IV)) (h : d < 100000) => st_setlow (t := 57) (b0 := b0) (bs := bs) (S := A') (n := n) (s := s) (es := es) h
      generalize am - f = y1 at *
      generalize bm + f = y2 at *
      simp only [frac, ints] at s1 s2
      simp only [fc] at E1 E2
      simp only [hd, List.getElem?_map, hx, F1, K1, go_sem, Move.c, ints, ic, big, frac, fc]
      refine DrawS_of (by decide +kernel) ?_
      simp only [hfr1, hfr2, hto1, hto2, hmn, hal, L0, L1, W1, E1, F1, G1, K1, outer, List.getElem?_map, hbf, hbt, ham, hx, go_sem, Move.c, ints, ic, big, frac, fc]
      refine CallD_eq s1 (by decide) ?_
      simp only [hfr1, hfr2, hto1, hto2, hmn, hal, L0, L1, W1, E1, F1, G1, K1, outer, List.getElem?_map, hbf, hbt, ham, hx, go_sem, Move.c, ints, ic, big, frac, fc]
      refine DrawS_of (by decide +kernel) ?_
      simp only [hfr1, hfr2, hto1, hto2, hmn, hbL, L0, L2, W2, E2, F1, G1, K1, outer, List.getElem?_map, hbf, hbt, hbm, hx, go_sem, Move.c, ints, ic, big, frac, fc]
      refine CallD_eq s2 (by decide) ?_
      simp only [hfr1, hfr2, hto1, hto2, hmn, hbL, L0, L2, W2, E2, F1, G1, K1, outer, List.getElem?_map, hbf, hbt, hbm, hx, go_sem, Move.c, ints, ic, big, frac, fc]
      refine RoundH_of (m + 1) ?_ ?_ rfl (by omega) (by omega)
      · simp only [h1, Int.natCast_add, go_sem, Move.c, ints, ic, big, frac, fc]
      · rw [hstep]
        exact SubR_skip (by show Abs.look (_ :: stRows _ _ _ _ _) 7 = none; rw [look_cons_ne _ _ (by decide), st_low (by decide)]) (SubR.of_eq rfl)
    · have hd : decide ((m : Int) < l.length) = false := decide_eq_false hlt
      have : m = n := by omega
      subst this
      simp only [hd, go_sem, Move.c, ints, ic, big, frac, fc]
      refine RetH_of (stRows 57 b0 bs (carN S x.fr.toNat x.to.toNat l m) m) (fun k' x' h' => ?_) ?_
      · have hk' : ¬ k' < 100000 := fun h => by rw [st_low h] at h'; cases h'
        refine ⟨by omega, ?_⟩
        rw [look_cons_ne _ _ (by omega)]
        exact h'
      · simp only [go_sem, Move.c, ints, ic, big, frac, fc]
end Go.Proofs.YtnjkhiafjcajaaaGreat

namespace Go.Proofs.YtnjkhiafjcajaaaGreat
set_option linter.all false
open Go.Abs

/-- A mass as it is handed in: it may be no fraction. -/
structure Raw where
  s : Int
  l : List Int
  t : Int
  m : List Int
def Raw.c (x : Raw) : List IV := [.int x.s, .sl (x.l.map ic), .int x.t, .sl (x.m.map ic)]
def rowC (l : List Raw) : List IV := [.sl (l.map Raw.c)]
def hist (h : List (List Raw)) : IV := .sl (h.map rowC)
def Raw.ok (x : Raw) : Bool := fracF x.s x.l x.t x.m
def rowOk (e : Evid) (l : List Raw) : Bool := decide ((l.length : Int) = e.mats) && l.all Raw.ok
def shapedF (e : Evid) (h : List (List Raw)) : Bool := decide ((h.length : Int) = e.moves.length) && h.all (rowOk e)
set_option maxRecDepth 100000 in
set_option maxHeartbeats 1000000 in
theorem h_shaped (e : Evid) (h : List (List Raw)) (hl : h.length ≤ 100000) (hr : ∀ l ∈ h, l.length ≤ 100000) (hx : ∀ l ∈ h, ∀ x ∈ l, x.l.length ≤ 50000 ∧ x.m.length ≤ 50000) :
    Ctr G.P 55 [e.iv, hist h] (· = .bool (shapedF e h)) := by
  unfold hist
  rcases d0 : decide ((h.length : Int) = e.moves.length) with _ | _
  · have hs : shapedF e h = false := by simp only [shapedF, d0, Bool.false_and]
    rw [hs]
    refine ctr_go good _ _ [.tmp 4] Tryz.func55 rfl rfl (by decide +kernel) rfl ?_
    unfold Evid.iv Evid.c
    simp only [d0, go_sem, Evid.iv, Evid.c, Move.c, Place.c, ints, ic, big, frac, fc, Raw.c]
  · have hs : shapedF e h = h.all (rowOk e) := by simp only [shapedF, d0, Bool.true_and]
    rw [hs]
    refine ctr_go good _ _ [.tmp 4] Tryz.func55 rfl rfl (by decide +kernel) rfl ?_
    unfold Evid.iv Evid.c
    simp only [d0, go_sem, Evid.iv, Evid.c, Move.c, Place.c, ints, ic, big, frac, fc, Raw.c]
    refine LoopP_of [2, 15, 16, 17] [2] (fun i : Nat => ⟨[(2, .loc 2 8 0 0), (15, .im (.sl (h.map rowC))), (16, .im (.int h.length)), (17, .im (.int i))], [(2, 8, [e.c])], []⟩)
      (fun i => i ≤ h.length ∧ (h.take i).all (rowOk e) = true) (fun i => h.length - i) 0 ?_ ⟨Nat.zero_le _, rfl⟩ ?_
    · simp only [Int.natCast_zero, go_sem, Evid.iv, Evid.c, Move.c, Place.c, ints, ic, big, frac, fc, Raw.c]
    · intro i ⟨hi, ha⟩
      by_cases hp : (i : Int) < h.length
      · have hd : decide ((i : Int) < h.length) = true := decide_eq_true hp
        obtain ⟨l, hxl⟩ := at_nat hp
        have h1 := i64_ok (n := (i : Int) + 1) (by omega)
        have hat := all_take_succ (f := rowOk e) hxl
        have hll := hr l (List.mem_of_getElem? hxl)
        have hxx := hx l (List.mem_of_getElem? hxl)
        rcases d1 : decide ((l.length : Int) = e.mats) with _ | _
        · have hno : rowOk e l = false := by simp only [rowOk, d1, Bool.false_and]
          rw [all_not hxl hno]
          simp only [hd, List.getElem?_map, hxl, rowC, d1, go_sem, Evid.iv, Evid.c, Move.c, Place.c, ints, ic, big, frac, fc, Raw.c]
        · simp only [hd, List.getElem?_map, hxl, rowC, d1, go_sem, Evid.iv, Evid.c, Move.c, Place.c, ints, ic, big, frac, fc, Raw.c]
          refine LoopP_of [2, 15, 16, 17, 26, 27, 28] [2] (fun j : Nat => ⟨[(2, .loc 2 8 0 0), (15, .im (.sl (h.map rowC))), (16, .im (.int h.length)), (17, .im (.int i)), (26, .im (.sl (l.map Raw.c))), (27, .im (.int l.length)), (28, .im (.int j))], [(2, 8, [e.c])], []⟩)
            (fun j => j ≤ l.length ∧ (l.take j).all Raw.ok = true) (fun j => l.length - j) 0 ?_ ⟨Nat.zero_le _, rfl⟩ ?_
          · simp only [Int.natCast_zero, go_sem, Evid.iv, Evid.c, Move.c, Place.c, ints, ic, big, frac, fc, Raw.c]
          · intro j ⟨hj, hb⟩
            by_cases hq : (j : Int) < l.length
            · have hd2 : decide ((j : Int) < l.length) = true := decide_eq_true hq
              obtain ⟨y, hy⟩ := at_nat hq
              have h2 := i64_ok (n := (j : Int) + 1) (by omega)
              have hbt := all_take_succ (f := Raw.ok) hy
              obtain ⟨y1, y2⟩ := hxx y (List.mem_of_getElem? hy)
              have ht := t_pfright y.s y.t y.l y.m y1 y2
              simp only [ints] at ht
              rcases ok : y.ok with _ | _
              · have hno : rowOk e l = false := by simp only [rowOk, all_not hy ok, Bool.and_false]
                rw [show fracF y.s y.l y.t y.m = false from ok] at ht
                rw [all_not hxl hno]
                simp only [hd2, List.getElem?_map, hy, go_sem, Evid.iv, Evid.c, Move.c, Place.c, ints, ic, big, frac, fc, Raw.c]
                refine CallP_eq ht (by decide) ?_
                simp only [go_sem, Evid.iv, Evid.c, Move.c, Place.c, ints, ic, big, frac, fc, Raw.c]
              · rw [show fracF y.s y.l y.t y.m = true from ok] at ht
                simp only [hd2, List.getElem?_map, hy, go_sem, Evid.iv, Evid.c, Move.c, Place.c, ints, ic, big, frac, fc, Raw.c]
                refine CallP_eq ht (by decide) ?_
                simp only [go_sem, Evid.iv, Evid.c, Move.c, Place.c, ints, ic, big, frac, fc, Raw.c]
                refine RoundP_of (j + 1) ?_ (by omega) ⟨by omega, by rw [hbt, hb, ok]; rfl⟩
                simp only [h2, Int.natCast_add, go_sem, Evid.iv, Evid.c, Move.c, Place.c, ints, ic, big, frac, fc, Raw.c]
            · have hd2 : decide ((j : Int) < l.length) = false := decide_eq_false hq
              rw [List.take_of_length_le (by omega)] at hb
              have hyes : rowOk e l = true := by simp only [rowOk, d1, hb, Bool.and_self]
              simp only [hd2, go_sem, Evid.iv, Evid.c, Move.c, Place.c, ints, ic, big, frac, fc, Raw.c]
              refine RoundP_of (i + 1) ?_ (by omega) ⟨by omega, by rw [hat, ha, hyes]; rfl⟩
              simp only [h1, Int.natCast_add, go_sem, Evid.iv, Evid.c, Move.c, Place.c, ints, ic, big, frac, fc, Raw.c]
      · have hd : decide ((i : Int) < h.length) = false := decide_eq_false hp
        rw [List.take_of_length_le (by omega)] at ha
        rw [ha]
        simp only [hd, go_sem, Evid.iv, Evid.c, Move.c, Place.c, ints, ic, big, frac, fc, Raw.c]
def stC (r : List Rat) : List IV := [.sl (r.map fc)]
def gtP (p : Rat × Rat) : Bool := decide (cmpR p.1 p.2 = 1)
def ltP (p : Rat × Rat) : Bool := decide (cmpR p.1 p.2 = -1)
def takenF (kind : Int) (a : List Rat) (x : Move) (l : List Rat) : Int := if kind = 0 then 0 else if (l.zip a).any gtP = true then 4 else if ((l.zip a).any ltP && x.all) = true then 7 else 0
set_option maxRecDepth 100000 in
set_option maxHeartbeats 1000000 in
theorem h_taken (e : Evid) (S : List (List Rat)) (x : Move) (l a : List Rat) (pl : Place) (h0 : 0 ≤ x.fr) (hpl : e.places[x.fr.toNat]? = some pl) (ha : S[x.fr.toNat]? = some a) (hla : l.length ≤ a.length) (hl : l.length ≤ 100000)
    (kl : ∀ r ∈ l, FL 19000 r) (ka : ∀ r ∈ a, FL 19000 r) :
    Ctr G.P 58 [.sl (S.map stC), e.iv, .agg x.c, fcs l] (· = .int (takenF pl.kind a x l)) := by
  unfold fcs takenF
  rcases dk : decide (pl.kind = 0) with _ | _
  · rw [if_neg (of_decide_eq_false dk)]
    refine ctr_go good _ _ [.tmp 8] Tryz.func58 rfl rfl (by decide +kernel) rfl ?_
    unfold Evid.iv Evid.c
    simp only [h0, List.getElem?_map, hpl, dk, go_sem, Evid.iv, Evid.c, Move.c, Place.c, ints, ic, big, frac, fc, Raw.c]
    refine LoopP_of [0, 5, 6, 9, 20, 21, 22] [5, 6] (fun i : Nat => ⟨[(0, .im (.sl (S.map stC))), (5, .loc 5 8 0 0), (6, .loc 6 6 0 0), (9, .im (.bool (((l.zip a).take i).any ltP))), (20, .im (.sl (l.map fc))), (21, .im (.int l.length)), (22, .im (.int i))], [(6, 6, [x.c]), (5, 8, [e.c])], []⟩)
      (fun i => i ≤ l.length ∧ ((l.zip a).take i).any gtP = false) (fun i => l.length - i) 0 ?_ ⟨Nat.zero_le _, rfl⟩ ?_
    · simp only [Int.natCast_zero, go_sem, Evid.iv, Evid.c, Move.c, Place.c, ints, ic, big, frac, fc, Raw.c]
    · intro i ⟨hi, hg⟩
      by_cases hp : (i : Int) < l.length
      · have hd : decide ((i : Int) < l.length) = true := decide_eq_true hp
        obtain ⟨f, hf⟩ := at_nat hp
        obtain ⟨y, hy⟩ : ∃ y, a[i]? = some y := ⟨_, List.getElem?_eq_getElem (by omega)⟩
        have hz : (l.zip a)[i]? = some (f, y) := by rw [List.getElem?_zip_eq_some]; exact ⟨hf, hy⟩
        have h1 := i64_ok (n := (i : Int) + 1) (by omega)
        have hc := f_cmp (kl f (List.mem_of_getElem? hf)) (ka y (List.mem_of_getElem? hy))
        have t1 := any_take_succ (f := gtP) hz
        have t2 := any_take_succ (f := ltP) hz
        have e1 : gtP (f, y) = decide (cmpR f y = 1) := rfl
        have e2 : ltP (f, y) = decide (cmpR f y = -1) := rfl
        generalize cmpR f y = c at *
        simp only [frac, ints] at hc
        rcases dg : decide (c = 1) with _ | _
        · rw [dg] at e1
          rw [hg, e1, Bool.or_false] at t1
          rcases dl : decide (c = -1) with _ | _
          · rw [dl] at e2
            rw [e2, Bool.or_false] at t2
            simp only [hd, List.getElem?_map, hf, go_sem, Evid.iv, Evid.c, Move.c, Place.c, ints, ic, big, frac, fc, Raw.c]
            refine DrawP_of 10 (by decide +kernel) ?_
            simp only [h0, List.getElem?_map, ha, stC, hy, go_sem, Evid.iv, Evid.c, Move.c, Place.c, ints, ic, big, frac, fc, Raw.c]
            refine CallD_eq hc (by decide) ?_
            simp only [dg, dl, go_sem, Evid.iv, Evid.c, Move.c, Place.c, ints, ic, big, frac, fc, Raw.c]
            refine RoundP_of (i + 1) ?_ (by omega) ⟨by omega, t1⟩
            simp only [h1, Int.natCast_add, t2, go_sem, Evid.iv, Evid.c, Move.c, Place.c, ints, ic, big, frac, fc, Raw.c]
          · rw [dl] at e2
            rw [e2, Bool.or_true] at t2
            simp only [hd, List.getElem?_map, hf, go_sem, Evid.iv, Evid.c, Move.c, Place.c, ints, ic, big, frac, fc, Raw.c]
            refine DrawP_of 10 (by decide +kernel) ?_
            simp only [h0, List.getElem?_map, ha, stC, hy, go_sem, Evid.iv, Evid.c, Move.c, Place.c, ints, ic, big, frac, fc, Raw.c]
            refine CallD_eq hc (by decide) ?_
            simp only [dg, dl, go_sem, Evid.iv, Evid.c, Move.c, Place.c, ints, ic, big, frac, fc, Raw.c]
            refine RoundP_of (i + 1) ?_ (by omega) ⟨by omega, t1⟩
            simp only [h1, Int.natCast_add, t2, go_sem, Evid.iv, Evid.c, Move.c, Place.c, ints, ic, big, frac, fc, Raw.c]
        · rw [dg] at e1
          rw [any_at hz e1, if_pos rfl]
          simp only [hd, List.getElem?_map, hf, go_sem, Evid.iv, Evid.c, Move.c, Place.c, ints, ic, big, frac, fc, Raw.c]
          refine DrawP_of 10 (by decide +kernel) ?_
          simp only [h0, List.getElem?_map, ha, stC, hy, go_sem, Evid.iv, Evid.c, Move.c, Place.c, ints, ic, big, frac, fc, Raw.c]
          refine CallD_eq hc (by decide) ?_
          simp only [dg, go_sem, Evid.iv, Evid.c, Move.c, Place.c, ints, ic, big, frac, fc, Raw.c]
      · have hd : decide ((i : Int) < l.length) = false := decide_eq_false hp
        have hzl : (l.zip a).length ≤ i := by rw [List.length_zip]; omega
        rw [List.take_of_length_le hzl] at hg ⊢
        rw [hg, if_neg Bool.false_ne_true]
        rcases hany : (l.zip a).any ltP with _ | _
        · rw [Bool.false_and, if_neg Bool.false_ne_true]
          simp only [hd, go_sem, Evid.iv, Evid.c, Move.c, Place.c, ints, ic, big, frac, fc, Raw.c]
        · rw [Bool.true_and]
          rcases hall : x.all with _ | _
          · rw [if_neg Bool.false_ne_true]
            simp only [hd, hall, go_sem, Evid.iv, Evid.c, Move.c, Place.c, ints, ic, big, frac, fc, Raw.c]
          · rw [if_pos rfl]
            simp only [hd, hall, go_sem, Evid.iv, Evid.c, Move.c, Place.c, ints, ic, big, frac, fc, Raw.c]
  · rw [if_pos (of_decide_eq_true dk)]
    refine ctr_go good _ _ [.tmp 8] Tryz.func58 rfl rfl (by decide +kernel) rfl ?_
    unfold Evid.iv Evid.c
    simp only [h0, List.getElem?_map, hpl, dk, go_sem, Evid.iv, Evid.c, Move.c, Place.c, ints, ic, big, frac, fc, Raw.c]
end Go.Proofs.YtnjkhiafjcajaaaGreat

namespace Go.Proofs.YtnjkhiafjcajaaaGreat
set_option linter.all false
open Go.Abs

theorem inner_low {bs : List Nat} {S : List (List Rat)} {d : Nat} (h : d < 100000) : Abs.look (inner bs S) d = none := inner_look_none fun b _ => by unfold hp; omega
theorem inner_not {bs : List Nat} {S : List (List Rat)} {b : Nat} (h : b ∉ bs) : Abs.look (inner bs S) (hp b) = none := inner_look_none fun c hc e => h ((hp_inj.1 e) ▸ hc)
theorem inner_filter {bs : List Nat} {S : List (List Rat)} {d : Nat} (h : d < 100000) : (inner bs S).filter (fun p => p.1 != d) = inner bs S := filter_none (inner_low h)
theorem inner_setlow {bs : List Nat} {S : List (List Rat)} {d s : Nat} {es : List (List IV)} (h : d < 100000) : (inner bs S).map (fun p => if p.1 = d then (p.1, s, es) else p) = inner bs S := setRow_none (inner_low h)
theorem inner_setnot {bs : List Nat} {S : List (List Rat)} {b s : Nat} {es : List (List IV)} (h : b ∉ bs) : (inner bs S).map (fun p => if p.1 = hp b then (p.1, s, es) else p) = inner bs S := setRow_none (inner_not h)
def z4 : List IV := [.int 0, .emp, .int 0, .emp]
def nRow (t n P : Nat) (bs : List Nat) : List (List IV) := outer t n bs ++ List.replicate (P - bs.length) [.emp]
def nIn (n : Nat) (z : Rat) (bs : List Nat) : Abs.Rows := inner bs (List.replicate bs.length (List.replicate n z))
def fRow (n : Nat) (z : Rat) (m : Nat) : List (List IV) := List.replicate m (fc z) ++ List.replicate (n - m) z4
theorem set_app {α : Type} (l : List α) (k : Nat) (x y : α) (h : 0 < k) : (l ++ List.replicate k x).set l.length y = (l ++ [y]) ++ List.replicate (k - 1) x := by
  obtain ⟨j, rfl⟩ : ∃ j, k = j + 1 := ⟨k - 1, by omega⟩
  rw [List.replicate_succ, List.set_append_right _ _ (Nat.le_refl _), Nat.sub_self, List.set_cons_zero, List.append_assoc]
  rfl
theorem get_app {α : Type} (l : List α) (k : Nat) (x : α) (h : 0 < k) : (l ++ List.replicate k x)[l.length]? = some x := by
  rw [List.getElem?_append_right (Nat.le_refl _), Nat.sub_self, List.getElem?_replicate, if_pos h]
theorem outer_len {t n : Nat} {bs : List Nat} : (outer t n bs).length = bs.length := by rw [outer, List.length_map]
theorem nRow_get {t n P : Nat} {bs : List Nat} (h : bs.length < P) : (nRow t n P bs)[bs.length]? = some [.emp] := by
  have := get_app (outer t n bs) (P - bs.length) [IV.emp] (by omega)
  rwa [outer_len] at this
theorem nRow_set {t n P b : Nat} {bs : List Nat} (h : bs.length < P) : (nRow t n P bs).set bs.length [.ref b t 4 n] = nRow t n P (bs ++ [b]) := by
  have := set_app (outer t n bs) (P - bs.length) [IV.emp] [.ref b t 4 n] (by omega)
  rw [outer_len] at this
  rw [nRow, this, nRow, List.length_append, List.length_singleton, Nat.sub_sub]
  simp only [outer, List.map_append, List.map_cons, List.map_nil]
theorem nRow_last {t n P b : Nat} {bs : List Nat} : (nRow t n P (bs ++ [b]))[bs.length]? = some [.ref b t 4 n] := by
  rw [nRow, List.getElem?_append_left (by rw [outer_len, List.length_append, List.length_singleton]; omega)]
  simp [outer]
theorem fRow_zero {n : Nat} {z : Rat} : List.replicate n z4 = fRow n z 0 := by simp [fRow]
theorem fRow_get {n m : Nat} {z : Rat} (h : m < n) : (fRow n z m)[m]? = some z4 := by
  have := get_app (List.replicate m (fc z)) (n - m) z4 (by omega)
  rwa [List.length_replicate] at this
theorem fRow_set {n m : Nat} {z : Rat} (h : m < n) : (fRow n z m).set m (fc z) = fRow n z (m + 1) := by
  have := set_app (List.replicate m (fc z)) (n - m) z4 (fc z) (by omega)
  rw [List.length_replicate, ← List.replicate_succ'] at this
  rw [fRow, this, fRow, Nat.sub_sub]
theorem fRow_end {n : Nat} {z : Rat} : fRow n z n = (List.replicate n z).map fc := by simp [fRow]
theorem inner_snoc {b : Nat} {r : List Rat} : ∀ {bs : List Nat}, inner (bs ++ [b]) (List.replicate (bs.length + 1) r) = inner bs (List.replicate bs.length r) ++ [(hp b, 4, r.map fc)]
  | [] => rfl
  | c :: bs => by
    have := inner_snoc (b := b) (r := r) (bs := bs)
    rw [List.length_cons, List.replicate_succ, List.cons_append, inner, this, List.replicate_succ, inner, List.cons_append]
theorem nIn_snoc {n b : Nat} {z : Rat} {bs : List Nat} {k : Nat} {x : Nat × List (List IV)} (h : Abs.look (nIn n z (bs ++ [b])) k = some x) : (k = hp b ∧ x = (4, (List.replicate n z).map fc)) ∨ Abs.look (nIn n z bs) k = some x := by
  rw [nIn, List.length_append, List.length_singleton, inner_snoc, look_app] at h
  split at h
  · rename_i y hy
    right; rw [nIn, hy]; exact h
  · left
    by_cases e : k = hp b
    · subst e
      rw [look_cons_same] at h
      exact ⟨rfl, (Option.some.inj h).symm⟩
    · rw [look_cons_ne _ _ e] at h; cases h
set_option maxRecDepth 100000 in
set_option maxHeartbeats 2000000 in
theorem h_none (e : Evid) (hp1 : e.places.length ≤ 1000) (hm1 : 0 ≤ e.mats) (hm2 : e.mats ≤ 1000) :
    CtrH G.P 56 [.im e.iv] [] (fun r L' => ∃ b0 bs, r = .im (.ref b0 45 1 e.places.length) ∧ (b0 :: bs).Nodup ∧ bs.length = e.places.length ∧
      L' = stRows 57 b0 bs (List.replicate e.places.length (List.replicate e.mats.toNat ((0 : Int) : Rat))) e.mats.toNat) := by
  have o1 := t_pintf 0 (by omega)
  generalize ((0 : Int) : Rat) = z at *
  simp only [frac, ints] at o1
  have hp2 : e.places.length ≤ 16777216 := by omega
  refine ctrh_go (goodH [9, 19] []) _ _ [.tmp 2] Tryz.func56 rfl rfl (by decide +kernel) rfl ?_
  unfold Evid.iv Evid.c
  simp only [hp2, go_sem, Evid.iv, Evid.c, Place.c, ints, ic, big, frac, fc]
  refine ⟨by omega, NewP_of (fun b0 hb0 => ?_)⟩
  clear hb0
  simp only [List.length_replicate, go_sem, Evid.iv, Evid.c, Place.c, ints, ic, big, frac, fc]
  refine LoopH_of [1, 3, 11, 12] (fun bs : List Nat => ⟨[(1, .loc 1 8 0 0), (3, .im (.ref b0 45 1 e.places.length)), (11, .im (.int e.places.length)), (12, .im (.int bs.length))],
      (hp b0, 1, nRow 57 e.mats.toNat e.places.length bs) :: (1, 8, [e.c]) :: nIn e.mats.toNat z bs, []⟩)
    (fun bs => bs.length ≤ e.places.length ∧ (b0 :: bs).Nodup) (fun bs => e.places.length - bs.length) [] ?_ ?_ rfl ⟨Nat.zero_le _, by simp⟩ ?_
  · simp only [Int.natCast_zero, go_sem, Evid.iv, Evid.c, Place.c, ints, ic, big, frac, fc]
  · exact SubR.of_eq rfl
  · intro bs ⟨hi, hnd⟩
    by_cases hlt : (bs.length : Int) < e.places.length
    · have hd : decide ((bs.length : Int) < e.places.length) = true := decide_eq_true hlt
      have h1 := i64_ok (n := (bs.length : Int) + 1) (by omega)
      have hi' : (bs.length : Int) < e.places.length := hlt
      have K1 := fun (bs : List Nat) (S : List (List Rat)) (d : Nat) (h : d < 100000) => inner_filter (bs := bs) (S := S) h
      have K2 := fun (bs : List Nat) (S : List (List Rat)) (d s : Nat) (es : List (List IV)) (h : d < 100000) => inner_setlow (bs := bs) (S := S) (s := s) (es := es) h
      have K3 := fun (bs : List Nat) (S : List (List Rat)) (d : Nat) (h : d < 100000) => inner_low (bs := bs) (S := S) h
      obtain ⟨n, hn⟩ : ∃ n : Nat, e.mats.toNat = n := ⟨_, rfl⟩
      have hmn : e.mats = (n : Int) := by omega
      rw [hn]
      simp only [hd, nIn, K1, K2, hn, go_sem, Evid.iv, Evid.c, Place.c, ints, ic, big, frac, fc]
      refine ⟨hm1, by omega, NewP_of (fun b hb => ?_)⟩
      replace hb : Abs.look ((hp b0, 1, nRow 57 n e.places.length bs) :: (1, 8, [e.c]) :: nIn n z bs) (hp b) = none := hb
      have hne : b ≠ b0 := fun h => by rw [h, look_cons_same] at hb; cases hb
      rw [look_cons_ne _ _ (fun h => hne (hp_inj.1 h)), look_cons_ne _ _ (by unfold hp; omega)] at hb
      have hnb : b ∉ bs := fun h => by
        obtain ⟨i, hi2, he⟩ := List.getElem_of_mem h
        have := inner_look (bs := bs) (S := List.replicate bs.length (List.replicate n z)) (i := i) (b := b) (r := List.replicate n z) (List.nodup_cons.1 hnd).2 (by rw [List.getElem?_eq_getElem hi2, he]) (by rw [List.getElem?_replicate, if_pos hi2])
        rw [nIn, this] at hb; cases hb
      have hnb0 : b0 ∉ bs := (List.nodup_cons.1 hnd).1
      have e1 : (b = b0) = False := eq_false hne
      have e2 : (b0 = b) = False := eq_false fun h => hne h.symm
      have K4 := fun (S : List (List Rat)) (s : Nat) (es : List (List IV)) => inner_setnot (bs := bs) (S := S) (b := b) (s := s) (es := es) hnb
      have K5 := fun (S : List (List Rat)) (s : Nat) (es : List (List IV)) => inner_setnot (bs := bs) (S := S) (b := b0) (s := s) (es := es) hnb0
      have g1 := nRow_get (t := 57) (n := n) (P := e.places.length) (bs := bs) (by omega)
      have g2 := nRow_set (t := 57) (n := n) (P := e.places.length) (bs := bs) (b := b) (by omega)
      have g3 := nRow_last (t := 57) (n := n) (P := e.places.length) (bs := bs) (b := b)
      clear hb
      simp only [List.length_replicate, K1, K2, K3, K4, K5, e1, e2, g1, g2, g3, hi', hn, go_sem, Evid.iv, Evid.c, Place.c, ints, ic, big, frac, fc]
      refine LoopH_of [1, 3, 4, 11, 12, 25, 26] (fun m : Nat => ⟨[(1, .loc 1 8 0 0), (3, .im (.ref b0 45 1 e.places.length)), (4, .im (.int bs.length)), (11, .im (.int e.places.length)), (12, .im (.int bs.length)), (25, .im (.int n)), (26, .im (.int m))],
          (hp b, 4, fRow n z m) :: (hp b0, 1, nRow 57 n e.places.length (bs ++ [b])) :: (1, 8, [e.c]) :: nIn n z bs, []⟩)
        (fun m => m ≤ n) (fun m => n - m) 0 ?_ ?_ rfl (Nat.zero_le _) ?_
      · simp only [Int.natCast_zero, List.length_replicate, hn, hmn, go_sem, Evid.iv, Evid.c, Place.c, ints, ic, big, frac, fc]
      · rw [← fRow_zero]
        exact SubR.of_eq rfl
      · intro m hm
        by_cases hq : (m : Int) < n
        · have hd2 : decide ((m : Int) < n) = true := decide_eq_true hq
          have h2 := i64_ok (n := (m : Int) + 1) (by omega)
          have f1 := fRow_get (n := n) (m := m) (z := z) (by omega)
          have f2 := fRow_set (n := n) (m := m) (z := z) (by omega)
          simp only [fc] at f2
          simp only [z4] at f1
          simp only [hd2, nIn, go_sem, Evid.iv, Evid.c, Place.c, ints, ic, big, frac, fc]
          refine DrawS_of (by decide +kernel) ?_
          simp only [List.length_replicate, K1, K2, K3, K4, K5, e1, e2, g3, hi', hq, f1, f2, go_sem, Evid.iv, Evid.c, Place.c, ints, ic, big, frac, fc]
          refine CallD_eq o1 (by decide) ?_
          simp only [List.length_replicate, K1, K2, K3, K4, K5, e1, e2, g3, hi', hq, f1, f2, go_sem, Evid.iv, Evid.c, Place.c, ints, ic, big, frac, fc]
          refine RoundH_of (m + 1) ?_ ?_ rfl (by omega) (by omega)
          · simp only [h2, Int.natCast_add, go_sem, Evid.iv, Evid.c, Place.c, ints, ic, big, frac, fc]
          · exact SubR.of_eq rfl
        · have hd2 : decide ((m : Int) < n) = false := decide_eq_false hq
          have hmn' : m = n := by omega
          subst hmn'
          simp only [hd2, go_sem, Evid.iv, Evid.c, Place.c, ints, ic, big, frac, fc]
          refine RoundH_of (bs ++ [b]) ?_ ?_ rfl ?_ ⟨?_, ?_⟩
          · simp only [h1, Int.natCast_add, List.length_append, go_sem, Evid.iv, Evid.c, Place.c, ints, ic, big, frac, fc]
          · intro k x hk
            show Abs.look ((hp b, 4, fRow m z m) :: (hp b0, 1, nRow 57 m e.places.length (bs ++ [b])) :: (1, 8, [e.c]) :: nIn m z bs) k = some x
            replace hk : Abs.look ((hp b0, 1, nRow 57 m e.places.length (bs ++ [b])) :: (1, 8, [e.c]) :: nIn m z (bs ++ [b])) k = some x := hk
            by_cases k0 : k = hp b0
            · rw [look_cons_ne _ _ (fun h => hne (hp_inj.1 (h.symm.trans k0)))]
              rw [k0, look_cons_same] at hk ⊢; exact hk
            · rw [look_cons_ne _ _ k0] at hk
              by_cases k1 : k = 1
              · rw [look_cons_ne _ _ (fun h => by unfold hp at h; omega), look_cons_ne _ _ k0]
                rw [k1, look_cons_same] at hk ⊢; exact hk
              · rw [look_cons_ne _ _ k1] at hk
                by_cases kb : k = hp b
                · rcases nIn_snoc hk with ⟨_, hx⟩ | hx
                  · rw [kb, look_cons_same, hx, fRow_end]
                  · rw [kb, nIn, inner_not hnb] at hx; cases hx
                · rw [look_cons_ne _ _ kb, look_cons_ne _ _ k0, look_cons_ne _ _ k1]
                  rcases nIn_snoc hk with ⟨hx, _⟩ | hx
                  · exact absurd hx kb
                  · exact hx
          · show e.places.length - (bs ++ [b]).length < e.places.length - bs.length
            rw [List.length_append, List.length_singleton]; omega
          · show (bs ++ [b]).length ≤ e.places.length
            rw [List.length_append, List.length_singleton]; omega
          · rw [List.nodup_cons, List.nodup_append]
            have := List.nodup_cons.1 hnd
            refine ⟨by simp [this.1, hne.symm], this.2, by simp, ?_⟩
            intro c hc d hd' h
            rw [List.mem_singleton] at hd'
            exact hnb (by rw [← hd', ← h]; exact hc)
    · have hd : decide ((bs.length : Int) < e.places.length) = false := decide_eq_false hlt
      have hle : bs.length = e.places.length := by omega
      simp only [hd, go_sem, Evid.iv, Evid.c, Place.c, ints, ic, big, frac, fc]
      refine RetH_of (stRows 57 b0 bs (List.replicate e.places.length (List.replicate e.mats.toNat z)) e.mats.toNat) (fun k' x' h' => ?_) ?_
      · have hk' : ¬ k' < 100000 := fun h => by rw [st_low h] at h'; cases h'
        refine ⟨by omega, ?_⟩
        show Abs.look ((hp b0, 1, nRow _ _ _ bs) :: (1, 8, _) :: nIn _ z bs) k' = some x'
        rw [show nRow 57 e.mats.toNat e.places.length bs = outer 57 e.mats.toNat bs by rw [nRow, hle, Nat.sub_self, List.replicate_zero, List.append_nil]]
        rw [nIn, hle]
        unfold stRows at h'
        by_cases hk0 : k' = hp b0
        · rw [hk0, look_cons_same] at h' ⊢; exact h'
        · rw [look_cons_ne _ _ hk0] at h' ⊢
          rw [look_cons_ne _ _ (by omega)]
          exact h'
      · simp only [go_sem, Evid.iv, Evid.c, Place.c, ints, ic, big, frac, fc]
        exact ⟨b0, bs, rfl, hnd, hle, rfl⟩
end Go.Proofs.YtnjkhiafjcajaaaGreat

namespace Go.Proofs.YtnjkhiafjcajaaaGreat
set_option linter.all false
open Go.Abs

/-- Masses that are fractions are those of rationals. -/
theorem raw_of {x : Raw} (h : x.ok = true) : ∃ r : Rat, x.c = fc r ∧ x.l = dig r.num.natAbs ∧ x.m = dig (r.den : Int).natAbs := by
  obtain ⟨r, e1, e2, e3, e4⟩ := frac_of h
  exact ⟨r, by rw [Raw.c, fc, e1, e2, e3, e4], e2, e4⟩
theorem rawRow_of {k : Nat} : ∀ {l : List Raw}, l.all Raw.ok = true → (∀ x ∈ l, x.l.length ≤ k ∧ x.m.length ≤ k) → ∃ rs : List Rat, rs.length = l.length ∧ l.map Raw.c = rs.map fc ∧ ∀ r ∈ rs, FL k r
  | [], _, _ => ⟨[], rfl, rfl, by simp⟩
  | x :: l, h, hk => by
    rw [List.all_cons, Bool.and_eq_true] at h
    obtain ⟨rs, e1, e2, e3⟩ := rawRow_of h.2 (fun y hy => hk y (by simp [hy]))
    obtain ⟨r, g1, g2, g3⟩ := raw_of h.1
    obtain ⟨k1, k2⟩ := hk x (by simp)
    refine ⟨r :: rs, by simp [e1], by rw [List.map_cons, List.map_cons, g1, e2], fun q hq => ?_⟩
    rcases List.mem_cons.1 hq with rfl | hq
    · rw [g2] at k1
      rw [g3, Int.natAbs_natCast] at k2
      exact ⟨k1, k2⟩
    · exact e3 q hq
/-- A history in shape: a matrix of rationals. -/
theorem hist_of {e : Evid} {k : Nat} : ∀ {h : List (List Raw)}, h.all (rowOk e) = true → (∀ l ∈ h, ∀ x ∈ l, x.l.length ≤ k ∧ x.m.length ≤ k) →
    ∃ H : List (List Rat), H.length = h.length ∧ h.map rowC = H.map stC ∧ ∀ l ∈ H, (l.length : Int) = e.mats ∧ ∀ r ∈ l, FL k r
  | [], _, _ => ⟨[], rfl, rfl, by simp⟩
  | l :: h, ho, hk => by
    rw [List.all_cons, Bool.and_eq_true, rowOk, Bool.and_eq_true, decide_eq_true_eq] at ho
    obtain ⟨H, e1, e2, e3⟩ := hist_of ho.2 (fun y hy => hk y (by simp [hy]))
    obtain ⟨rs, g1, g2, g3⟩ := rawRow_of ho.1.2 (hk l (by simp))
    refine ⟨rs :: H, by simp [e1], by rw [List.map_cons, List.map_cons, e2, rowC, stC, g2], fun q hq => ?_⟩
    rcases List.mem_cons.1 hq with rfl | hq
    · exact ⟨by rw [g1]; exact ho.1.1, g3⟩
    · exact e3 q hq
/-- The stock behind the first moves. -/
def stN (ms : List Move) (H : List (List Rat)) (n : Nat) (S : List (List Rat)) : Nat → List (List Rat)
  | 0 => S
  | i + 1 => match ms[i]?, H[i]? with
    | some x, some l => carN (stN ms H n S i) x.fr.toNat x.to.toNat l n
    | _, _ => stN ms H n S i
theorem stN_succ {ms : List Move} {H : List (List Rat)} {n i : Nat} {S : List (List Rat)} {x : Move} {l : List Rat} (hx : ms[i]? = some x) (hl : H[i]? = some l) :
    stN ms H n S (i + 1) = carN (stN ms H n S i) x.fr.toNat x.to.toNat l n := by rw [stN, hx, hl]
theorem SL.all {k j p n : Nat} {S : List (List Rat)} (hs : Stk p n S) (h : SL k j n S) : ∀ r ∈ S, ∀ x ∈ r, FL k x := by
  intro r hr x hx
  obtain ⟨i, hi, he⟩ := List.getElem_of_mem hx
  have := h r hr i x (by rw [List.getElem?_eq_getElem hi, he])
  rwa [if_pos (by rw [← hs.2 r hr]; exact hi)] at this
theorem SL.of_all {k j : Nat} {S : List (List Rat)} (h : ∀ r ∈ S, ∀ x ∈ r, FL k x) : SL j k 0 S := fun r hr i x hx => by
  rw [if_neg (by omega)]; exact h r hr x (List.mem_of_getElem? hx)
theorem stN_ok {ms : List Move} {H : List (List Rat)} {p n k : Nat} {S : List (List Rat)} (hs : Stk p n S) (hS : ∀ r ∈ S, ∀ x ∈ r, FL k x) (hm : ∀ x ∈ ms, (0 ≤ x.fr ∧ x.fr < p) ∧ (0 ≤ x.to ∧ x.to < p))
    (hH : ∀ l ∈ H, l.length = n ∧ ∀ r ∈ l, FL 3 r) : ∀ i, Stk p n (stN ms H n S i) ∧ ∀ r ∈ stN ms H n S i, ∀ x ∈ r, FL (k + 8 * i) x
  | 0 => ⟨hs, hS⟩
  | i + 1 => by
    obtain ⟨h1, h2⟩ := stN_ok hs hS hm hH i
    cases hx : ms[i]? with
    | none =>
      have e : stN ms H n S (i + 1) = stN ms H n S i := by rw [stN, hx]
      rw [e]; exact ⟨h1, fun r hr x hx => (h2 r hr x hx).mono (by omega)⟩
    | some x =>
      cases hl : H[i]? with
      | none =>
        have e : stN ms H n S (i + 1) = stN ms H n S i := by rw [stN, hx, hl]
        rw [e]; exact ⟨h1, fun r hr x hx => (h2 r hr x hx).mono (by omega)⟩
      | some l =>
        rw [stN_succ hx hl]
        obtain ⟨⟨a1, a2⟩, b1, b2⟩ := hm x (List.mem_of_getElem? hx)
        obtain ⟨c1, c2⟩ := hH l (List.mem_of_getElem? hl)
        have q1 : x.fr.toNat < p := by omega
        have q2 : x.to.toNat < p := by omega
        have h3 := SL.car (k := k + 8 * i) (SL.of_all h2) h1 q1 q2 c1 c2 n (Nat.le_refl _)
        have h4 := Stk.car (l := l) h1 q1 q2 n
        exact ⟨h4, fun r hr y hy => (SL.all h4 h3 r hr y hy).mono (by omega)⟩
/-- What Check says of a history in shape, from the i-th move on. -/
def histGo (e : Evid) (H : List (List Rat)) (S : List (List Rat)) : Nat → List Move → Int
  | _, [] => 0
  | i, x :: ms => match H[i]? with
    | none => 0
    | some l =>
      if l.any negF = true then 3
      else if takenF ((e.places[x.fr.toNat]?.map Place.kind).getD 0) ((stN e.moves H e.mats.toNat S i).getD x.fr.toNat []) x l ≠ 0 then takenF ((e.places[x.fr.toNat]?.map Place.kind).getD 0) ((stN e.moves H e.mats.toNat S i).getD x.fr.toNat []) x l
      else if weighedF e x (sumF l) = false then 24
      else if pureF e i l (sumF l) = false then 13
      else histGo e H S (i + 1) ms
end Go.Proofs.YtnjkhiafjcajaaaGreat

namespace Go.Proofs.YtnjkhiafjcajaaaGreat
set_option linter.all false
open Go.Abs

theorem st_ret {t b0 n : Nat} {bs : List Nat} {S : List (List Rat)} {R : Abs.Rows} (h : SubR (stRows t b0 bs S n) R) : ∀ k x, Abs.look (stRows t b0 bs S n) k = some x → 100000 ≤ k ∧ Abs.look R k = some x := by
  intro k x hk
  refine ⟨?_, h k x hk⟩
  rcases Nat.lt_or_ge k 100000 with h1 | h1
  · rw [st_low h1] at hk; cases hk
  · exact h1
set_option maxRecDepth 100000 in
set_option maxHeartbeats 1000000 in
theorem h_takenH (b0 p n : Nat) (bs : List Nat) (e : Evid) (S : List (List Rat)) (x : Move) (l a : List Rat) (pl : Place) (hnd : (b0 :: bs).Nodup) (hs : Stk p n S) (hbl : bs.length = p) (h0 : 0 ≤ x.fr) (h0' : x.fr < p) (hpl : e.places[x.fr.toNat]? = some pl) (ha : S[x.fr.toNat]? = some a) (hla : l.length ≤ a.length) (hl : l.length ≤ 100000)
    (kl : ∀ r ∈ l, FL 19000 r) (ka : ∀ r ∈ a, FL 19000 r) :
    CtrH G.P 58 [.im (.ref b0 45 1 p), .im e.iv, .im (.agg x.c), .im (fcs l)] (stRows 57 b0 bs S n)
      (fun r L' => r = .im (.int (takenF pl.kind a x l)) ∧ L' = stRows 57 b0 bs S n) := by
  unfold fcs takenF
  obtain ⟨bf, hbf⟩ : ∃ b, bs[x.fr.toNat]? = some b := ⟨_, List.getElem?_eq_getElem (by omega)⟩
  have hal : a.length = n := hs.2 a (List.mem_of_getElem? ha)
  have L0 := st_look0 (t := 57) (b0 := b0) (bs := bs) (S := S) (n := n)
  have L1 := st_look (t := 57) (n := n) hnd hbf ha
  have F1 := fun (d : Nat) (h : d < 100000) => st_filter (t := 57) (b0 := b0) (bs := bs) (S := S) (n := n) h
  have G1 := fun (d : Nat) (h : d < 100000) => st_low (t := 57) (b0 := b0) (bs := bs) (S := S) (n := n) h
  have K1 := fun (d s : Nat) (es : List (List IV)) (h : d < 100000) => st_setlow (t := 57) (b0 := b0) (bs := bs) (S := S) (n := n) (s := s) (es := es) h
  rcases dk : decide (pl.kind = 0) with _ | _
  · rw [if_neg (of_decide_eq_false dk)]
    refine ctrh_go (goodH [] []) _ _ [.tmp 8] Tryz.func58 rfl rfl (by decide +kernel) rfl ?_
    unfold Evid.iv Evid.c
    simp only [h0, List.getElem?_map, hpl, dk, F1, K1, go_sem, Evid.iv, Evid.c, Move.c, Place.c, ints, ic, big, frac, fc, Raw.c]
    refine LoopH_of [0, 5, 6, 9, 20, 21, 22] (fun i : Nat => ⟨[(0, .im (.ref b0 45 1 p)), (5, .loc 5 8 0 0), (6, .loc 6 6 0 0), (9, .im (.bool (((l.zip a).take i).any ltP))), (20, .im (.sl (l.map fc))), (21, .im (.int l.length)), (22, .im (.int i))], (6, 6, [x.c]) :: (5, 8, [e.c]) :: stRows 57 b0 bs S n, []⟩)
      (fun i => i ≤ l.length ∧ ((l.zip a).take i).any gtP = false) (fun i => l.length - i) 0 ?_ ?_ rfl ⟨Nat.zero_le _, rfl⟩ ?_
    · simp only [Int.natCast_zero, go_sem, Evid.iv, Evid.c, Move.c, Place.c, ints, ic, big, frac, fc, Raw.c]
    · exact SubR.of_eq rfl
    · intro i ⟨hi, hg⟩
      by_cases hp : (i : Int) < l.length
      · have hd : decide ((i : Int) < l.length) = true := decide_eq_true hp
        obtain ⟨f, hf⟩ := at_nat hp
        obtain ⟨y, hy⟩ : ∃ y, a[i]? = some y := ⟨_, List.getElem?_eq_getElem (by omega)⟩
        have hz : (l.zip a)[i]? = some (f, y) := by rw [List.getElem?_zip_eq_some]; exact ⟨hf, hy⟩
        have h1 := i64_ok (n := (i : Int) + 1) (by omega)
        have hin : (i : Int) < n := by omega
        have hc := f_cmp (kl f (List.mem_of_getElem? hf)) (ka y (List.mem_of_getElem? hy))
        have t1 := any_take_succ (f := gtP) hz
        have t2 := any_take_succ (f := ltP) hz
        have e1 : gtP (f, y) = decide (cmpR f y = 1) := rfl
        have e2 : ltP (f, y) = decide (cmpR f y = -1) := rfl
        generalize cmpR f y = c at *
        simp only [frac, ints] at hc
        rcases dg : decide (c = 1) with _ | _
        · rw [dg] at e1
          rw [hg, e1, Bool.or_false] at t1
          rcases dl : decide (c = -1) with _ | _
          · rw [dl] at e2
            rw [e2, Bool.or_false] at t2
            simp only [hd, List.getElem?_map, hf, F1, K1, go_sem, Evid.iv, Evid.c, Move.c, Place.c, ints, ic, big, frac, fc, Raw.c]
            refine DrawP_of 10 (by decide +kernel) ?_
            simp only [h0, h0', hin, L0, L1, F1, G1, K1, outer, hbf, List.getElem?_map, hy, go_sem, Evid.iv, Evid.c, Move.c, Place.c, ints, ic, big, frac, fc, Raw.c]
            refine CallD_eq hc (by decide) ?_
            simp only [dg, dl, go_sem, Evid.iv, Evid.c, Move.c, Place.c, ints, ic, big, frac, fc, Raw.c]
            refine RoundH_of (i + 1) ?_ ?_ rfl (by show l.length - (i + 1) < l.length - i; omega) ⟨by omega, t1⟩
            · simp only [h1, Int.natCast_add, t2, go_sem, Evid.iv, Evid.c, Move.c, Place.c, ints, ic, big, frac, fc, Raw.c]
            · exact SubR_skip (by show Abs.look (_ :: _ :: stRows _ _ _ _ _) 11 = none; rw [look_cons_ne _ _ (by decide), look_cons_ne _ _ (by decide), st_low (by decide)]) (SubR.of_eq rfl)
          · rw [dl] at e2
            rw [e2, Bool.or_true] at t2
            simp only [hd, List.getElem?_map, hf, F1, K1, go_sem, Evid.iv, Evid.c, Move.c, Place.c, ints, ic, big, frac, fc, Raw.c]
            refine DrawP_of 10 (by decide +kernel) ?_
            simp only [h0, h0', hin, L0, L1, F1, G1, K1, outer, hbf, List.getElem?_map, hy, go_sem, Evid.iv, Evid.c, Move.c, Place.c, ints, ic, big, frac, fc, Raw.c]
            refine CallD_eq hc (by decide) ?_
            simp only [dg, dl, go_sem, Evid.iv, Evid.c, Move.c, Place.c, ints, ic, big, frac, fc, Raw.c]
            refine RoundH_of (i + 1) ?_ ?_ rfl (by show l.length - (i + 1) < l.length - i; omega) ⟨by omega, t1⟩
            · simp only [h1, Int.natCast_add, t2, go_sem, Evid.iv, Evid.c, Move.c, Place.c, ints, ic, big, frac, fc, Raw.c]
            · exact SubR_skip (by show Abs.look (_ :: _ :: stRows _ _ _ _ _) 11 = none; rw [look_cons_ne _ _ (by decide), look_cons_ne _ _ (by decide), st_low (by decide)]) (SubR.of_eq rfl)
        · rw [dg] at e1
          rw [any_at hz e1, if_pos rfl]
          simp only [hd, List.getElem?_map, hf, F1, K1, go_sem, Evid.iv, Evid.c, Move.c, Place.c, ints, ic, big, frac, fc, Raw.c]
          refine DrawP_of 10 (by decide +kernel) ?_
          simp only [h0, h0', hin, L0, L1, F1, G1, K1, outer, hbf, List.getElem?_map, hy, go_sem, Evid.iv, Evid.c, Move.c, Place.c, ints, ic, big, frac, fc, Raw.c]
          refine CallD_eq hc (by decide) ?_
          simp only [dg, go_sem, Evid.iv, Evid.c, Move.c, Place.c, ints, ic, big, frac, fc, Raw.c]
          refine RetH_of (stRows 57 b0 bs S n) (st_ret ?_) ?_
          · exact SubR_skip (st_low (by dsimp only; decide)) (SubR_skip (st_low (by dsimp only; decide)) (SubR_skip (st_low (by dsimp only; decide)) (SubR.of_eq rfl)))
          · simp only [go_sem, Evid.iv, Evid.c, Move.c, Place.c, ints, ic, big, frac, fc, Raw.c]
      · have hd : decide ((i : Int) < l.length) = false := decide_eq_false hp
        have hzl : (l.zip a).length ≤ i := by rw [List.length_zip]; omega
        rw [List.take_of_length_le hzl] at hg ⊢
        rw [hg, if_neg Bool.false_ne_true]
        rcases hany : (l.zip a).any ltP with _ | _
        · rw [Bool.false_and, if_neg Bool.false_ne_true]
          simp only [hd, go_sem, Evid.iv, Evid.c, Move.c, Place.c, ints, ic, big, frac, fc, Raw.c]
          refine RetH_of (stRows 57 b0 bs S n) (st_ret ?_) ?_
          · exact SubR_skip (st_low (by dsimp only; decide)) (SubR_skip (st_low (by dsimp only; decide)) (SubR.of_eq rfl))
          · simp only [go_sem, Evid.iv, Evid.c, Move.c, Place.c, ints, ic, big, frac, fc, Raw.c]
        · rw [Bool.true_and]
          rcases hall : x.all with _ | _
          · rw [if_neg Bool.false_ne_true]
            simp only [hd, hall, go_sem, Evid.iv, Evid.c, Move.c, Place.c, ints, ic, big, frac, fc, Raw.c]
            refine RetH_of (stRows 57 b0 bs S n) (st_ret ?_) ?_
            · exact SubR_skip (st_low (by dsimp only; decide)) (SubR_skip (st_low (by dsimp only; decide)) (SubR.of_eq rfl))
            · simp only [go_sem, Evid.iv, Evid.c, Move.c, Place.c, ints, ic, big, frac, fc, Raw.c]
          · rw [if_pos rfl]
            simp only [hd, hall, go_sem, Evid.iv, Evid.c, Move.c, Place.c, ints, ic, big, frac, fc, Raw.c]
            refine RetH_of (stRows 57 b0 bs S n) (st_ret ?_) ?_
            · exact SubR_skip (st_low (by dsimp only; decide)) (SubR_skip (st_low (by dsimp only; decide)) (SubR.of_eq rfl))
            · simp only [go_sem, Evid.iv, Evid.c, Move.c, Place.c, ints, ic, big, frac, fc, Raw.c]
  · rw [if_pos (of_decide_eq_true dk)]
    refine ctrh_go (goodH [] []) _ _ [.tmp 8] Tryz.func58 rfl rfl (by decide +kernel) rfl ?_
    unfold Evid.iv Evid.c
    simp only [h0, List.getElem?_map, hpl, dk, F1, K1, go_sem, Evid.iv, Evid.c, Move.c, Place.c, ints, ic, big, frac, fc, Raw.c]
    refine RetH_of (stRows 57 b0 bs S n) (st_ret ?_) ?_
    · exact SubR_skip (st_low (by dsimp only; decide)) (SubR_skip (st_low (by dsimp only; decide)) (SubR.of_eq rfl))
    · simp only [go_sem, Evid.iv, Evid.c, Move.c, Place.c, ints, ic, big, frac, fc, Raw.c]
end Go.Proofs.YtnjkhiafjcajaaaGreat
