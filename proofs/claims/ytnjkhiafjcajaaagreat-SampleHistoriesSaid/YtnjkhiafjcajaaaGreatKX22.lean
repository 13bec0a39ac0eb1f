/- A part of the proof: what functions of the program do, and the layer under it. No further condition. -/
import Derived.Test.YtnjkhiafjcajaaaGreatKX19
namespace Go.Proofs.YtnjkhiafjcajaaaGreat
set_option linter.all false
open Go.Abs

theorem CtrV.ctr {P : Program} {f : FuncId} {args : List IV} {e s : Nat} {es : List (List IV)} (h : CtrV P f args e s es) : Ctr P f args (· = .sl es) := by
  intro w M vs hM hr
  refine (h w M vs hM hr).mono fun en w' ⟨v, he, hb, hv⟩ => ?_
  refine ⟨_, v, rfl, he, ?_, hb⟩
  rcases hv with ⟨h1, _⟩ | ⟨b, cap, cur, _, _, h1, _⟩
  · exact h1
  · exact h1.less fun b o hm => .inl hm
theorem c29 (l : List Purity) (hl : l.length ≤ 100000) : CtrV G.P 48 [.sl (l.map Purity.c)] 43 4 (l.map Purity.c) := by
  have hlen : ∀ (c : List IV), c ∈ l.map Purity.c → c.length = 4 := fun c hc => by
    obtain ⟨z, _, rfl⟩ := List.mem_map.1 hc; rfl
  refine ctrv_go good _ _ [.tmp 2] Tryz.func48 rfl rfl (by decide +kernel) rfl ?_
  simp only [go_sem, Evid.iv, Evid.c, Place.c, Move.c, Cert.c, Recall.c, Purity.c, Sample.c, Recipe.c, ints, ic]
  refine NilP_of (fun h => ?_) ?_
  · rw [List.map_eq_nil_iff] at h
    subst h
    simp only [go_sem, Evid.iv, Evid.c, Place.c, Move.c, Cert.c, Recall.c, Purity.c, Sample.c, Recipe.c, ints, ic]
  · simp only [go_sem, Evid.iv, Evid.c, Place.c, Move.c, Cert.c, Recall.c, Purity.c, Sample.c, Recipe.c, ints, ic]
    exact ⟨by simp, hlen, by omega⟩
theorem c32 (l : List Place) (hl : l.length ≤ 100000) : CtrV G.P 51 [.sl (l.map Place.c)] 97 3 (l.map Place.c) := by
  have hlen : ∀ (c : List IV), c ∈ l.map Place.c → c.length = 3 := fun c hc => by
    obtain ⟨z, _, rfl⟩ := List.mem_map.1 hc; rfl
  refine ctrv_go good _ _ [.tmp 2] Tryz.func51 rfl rfl (by decide +kernel) rfl ?_
  simp only [go_sem, Evid.iv, Evid.c, Place.c, Move.c, Cert.c, Recall.c, Purity.c, Sample.c, Recipe.c, ints, ic]
  refine NilP_of (fun h => ?_) ?_
  · rw [List.map_eq_nil_iff] at h
    subst h
    simp only [go_sem, Evid.iv, Evid.c, Place.c, Move.c, Cert.c, Recall.c, Purity.c, Sample.c, Recipe.c, ints, ic]
  · simp only [go_sem, Evid.iv, Evid.c, Place.c, Move.c, Cert.c, Recall.c, Purity.c, Sample.c, Recipe.c, ints, ic]
    exact ⟨by simp, hlen, by omega⟩
theorem c33 (l : List Move) (hl : l.length ≤ 100000) : CtrV G.P 52 [.sl (l.map Move.c)] 105 6 (l.map Move.c) := by
  have hlen : ∀ (c : List IV), c ∈ l.map Move.c → c.length = 6 := fun c hc => by
    obtain ⟨z, _, rfl⟩ := List.mem_map.1 hc; rfl
  refine ctrv_go good _ _ [.tmp 2] Tryz.func52 rfl rfl (by decide +kernel) rfl ?_
  simp only [go_sem, Evid.iv, Evid.c, Place.c, Move.c, Cert.c, Recall.c, Purity.c, Sample.c, Recipe.c, ints, ic]
  refine NilP_of (fun h => ?_) ?_
  · rw [List.map_eq_nil_iff] at h
    subst h
    simp only [go_sem, Evid.iv, Evid.c, Place.c, Move.c, Cert.c, Recall.c, Purity.c, Sample.c, Recipe.c, ints, ic]
  · simp only [go_sem, Evid.iv, Evid.c, Place.c, Move.c, Cert.c, Recall.c, Purity.c, Sample.c, Recipe.c, ints, ic]
    exact ⟨by simp, hlen, by omega⟩
theorem c34 (l : List Cert) (hl : l.length ≤ 100000) : CtrV G.P 53 [.sl (l.map Cert.c)] 49 6 (l.map Cert.c) := by
  have hlen : ∀ (c : List IV), c ∈ l.map Cert.c → c.length = 6 := fun c hc => by
    obtain ⟨z, _, rfl⟩ := List.mem_map.1 hc; rfl
  refine ctrv_go good _ _ [.tmp 2] Tryz.func53 rfl rfl (by decide +kernel) rfl ?_
  simp only [go_sem, Evid.iv, Evid.c, Place.c, Move.c, Cert.c, Recall.c, Purity.c, Sample.c, Recipe.c, ints, ic]
  refine NilP_of (fun h => ?_) ?_
  · rw [List.map_eq_nil_iff] at h
    subst h
    simp only [go_sem, Evid.iv, Evid.c, Place.c, Move.c, Cert.c, Recall.c, Purity.c, Sample.c, Recipe.c, ints, ic]
  · simp only [go_sem, Evid.iv, Evid.c, Place.c, Move.c, Cert.c, Recall.c, Purity.c, Sample.c, Recipe.c, ints, ic]
    exact ⟨by simp, hlen, by omega⟩
theorem c35 (l : List Recall) (hl : l.length ≤ 100000) : CtrV G.P 54 [.sl (l.map Recall.c)] 51 2 (l.map Recall.c) := by
  have hlen : ∀ (c : List IV), c ∈ l.map Recall.c → c.length = 2 := fun c hc => by
    obtain ⟨z, _, rfl⟩ := List.mem_map.1 hc; rfl
  refine ctrv_go good _ _ [.tmp 2] Tryz.func54 rfl rfl (by decide +kernel) rfl ?_
  simp only [go_sem, Evid.iv, Evid.c, Place.c, Move.c, Cert.c, Recall.c, Purity.c, Sample.c, Recipe.c, ints, ic]
  refine NilP_of (fun h => ?_) ?_
  · rw [List.map_eq_nil_iff] at h
    subst h
    simp only [go_sem, Evid.iv, Evid.c, Place.c, Move.c, Cert.c, Recall.c, Purity.c, Sample.c, Recipe.c, ints, ic]
  · simp only [go_sem, Evid.iv, Evid.c, Place.c, Move.c, Cert.c, Recall.c, Purity.c, Sample.c, Recipe.c, ints, ic]
    exact ⟨by simp, hlen, by omega⟩
end Go.Proofs.YtnjkhiafjcajaaaGreat
