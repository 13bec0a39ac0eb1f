/- A part of the proof: what functions of the program do, and the layer under it. No further condition. -/
import Derived.Test.YtnjkhiafjcajaaaGreatKX18
namespace Go.Proofs.YtnjkhiafjcajaaaGreat
set_option linter.all false
open Go.Abs

theorem idx_btw' {i n : Int} : idx i n = btw i 0 (n - 1) := by
  rcases h : idx i n with _ | _
  · rw [idx_not] at h
    exact (btw_not.2 (by omega)).symm
  · rw [idx_iff] at h
    exact (btw_iff.2 (by omega)).symm
def refErr (e : Evid) (b : Bool) (pd : Int) (m : Move) : Int :=
  if btw m.day 0 100000 = false then 17 else if (b && decide (m.day < pd)) = true then 17 else if moveF e m = false then 1 else 0
end Go.Proofs.YtnjkhiafjcajaaaGreat
