/- A part of the proof: what functions of the program do, and the layer under it. No further condition. -/
import Derived.Test.YtpnlfkaijdjhlaaKM5
namespace Go.Proofs.Ytpnlfkaijdjhlaa
set_option linter.all false
open Go.Abs

/-- Fractions by their parts. -/
theorem divInt_parts {p q : Int} (hq : 0 < q) : ∃ g : Int, 0 < g ∧ (Rat.divInt p q).num * g = p ∧ ((Rat.divInt p q).den : Int) * g = q := by
  obtain ⟨h1, h2⟩ := divInt_pos (p := p) hq
  have hg : 0 < Nat.gcd p.natAbs q.natAbs := Nat.gcd_pos_of_pos_right _ (by omega)
  refine ⟨(Nat.gcd p.natAbs q.natAbs : Nat), by omega, ?_, ?_⟩
  · rw [h1]
    exact Int.ediv_mul_cancel (Int.ofNat_dvd_left.2 (Nat.gcd_dvd_left _ _))
  · rw [h2]
    exact Int.ediv_mul_cancel (Int.ofNat_dvd_left.2 (Nat.gcd_dvd_right _ _))
theorem divInt_lt {p q r t : Int} (hq : 0 < q) (ht : 0 < t) : Rat.divInt p q < Rat.divInt r t ↔ p * t < r * q := by
  obtain ⟨g, hg, g1, g2⟩ := divInt_parts (p := p) hq
  obtain ⟨h, hh, h1, h2⟩ := divInt_parts (p := r) ht
  rw [Rat.lt_iff]
  generalize (Rat.divInt p q).num = a at *
  generalize ((Rat.divInt p q).den : Int) = b at *
  generalize (Rat.divInt r t).num = c at *
  generalize ((Rat.divInt r t).den : Int) = d at *
  subst g1 g2 h1 h2
  have e1 : a * g * (d * h) = a * d * (g * h) := by ac_rfl
  have e2 : c * h * (b * g) = c * b * (g * h) := by ac_rfl
  rw [e1, e2]
  exact (Int.mul_lt_mul_right (Int.mul_pos hg hh)).symm
theorem divInt_le {p q r t : Int} (hq : 0 < q) (ht : 0 < t) : Rat.divInt p q ≤ Rat.divInt r t ↔ p * t ≤ r * q := by
  rw [← Rat.not_lt, divInt_lt ht hq, Int.not_lt]
theorem divInt_num_le (p : Int) {q : Int} (hq : 0 < q) : (Rat.divInt p q).num.natAbs ≤ p.natAbs ∧ (Rat.divInt p q).den ≤ q.natAbs := by
  obtain ⟨g, hg, g1, g2⟩ := divInt_parts (p := p) hq
  have hd : 0 ≤ ((Rat.divInt p q).den : Int) := Int.natCast_nonneg _
  constructor
  · conv => rhs; rw [← g1, Int.natAbs_mul]
    exact Nat.le_mul_of_pos_right _ (by omega)
  · have : ((Rat.divInt p q).den : Int) ≤ q := by
      conv => rhs; rw [← g2]
      have := Int.mul_le_mul_of_nonneg_left (show 1 ≤ g from hg) hd
      rwa [Int.mul_one] at this
    omega
theorem len_divInt {p q : Int} {k : Nat} (hq : 0 < q) (hp : (p.natAbs : Int) < 1048576 ^ k) (hk : (q.natAbs : Int) < 1048576 ^ k) : (dig (Rat.divInt p q).num.natAbs).length ≤ k ∧ (dig (Rat.divInt p q).den).length ≤ k := by
  obtain ⟨h1, h2⟩ := divInt_num_le p hq
  exact ⟨dig_len_le (by omega), dig_len_le (by omega)⟩
end Go.Proofs.Ytpnlfkaijdjhlaa
