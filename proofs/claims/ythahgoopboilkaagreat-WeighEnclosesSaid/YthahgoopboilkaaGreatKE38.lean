/- A part of the proof. No further condition. -/
import Derived.Test.YthahgoopboilkaaGreatKE37
set_option linter.all false
set_option maxRecDepth 10000000
set_option maxHeartbeats 16000000
namespace Go.Proofs.YthahgoopboilkaaGreat
section
open Go.Abs
open Go.LP (Dic Rw RT Ov OvRw tsum Sol IsMin NoMin Bds ksum jrw jhn noDup_iff)
attribute [local go_sem] ints ic big frac fc zc
theorem jmi(h:Option Rat):∃(s t:Int) (b d:List (List IV)),sideC h=[.int s,.sl b,.int t,.sl d]:=by
 cases h with
 | none=>exact⟨_,_,_,_,rfl⟩
 | some w=>exact⟨_,_,_,_,rfl⟩
