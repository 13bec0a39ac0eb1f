/-
  No cell of these rows narrows 'for every input' (looked for: loops, veiled, ifaces, maps, wideKeys, modest, calm, conditions, laid).
  DERIVED. THE GIVEN ROWS OF THIS SEAT. 6 by the template 'for every input the law returns true; each argument reads behind the call as it read before'; 0 by the template 'total and deterministic' (their statements: YtfahloobpegieaaGreatTotals.lean).
  GIVEN WITH THE SEED: the statements are not yours to turn. If you find one false, say at which input.
  Laid BY PROGRAM, IN A SANDBOX (cutbox-rows.mjs): the forced cells as the released guide's own fill.sh prints them over the translation 5a60ef14ddc5feea… (all of the seat's roots in one cut). By AI agents, Wed Nov 11 2026. No macro, syntax, notation, axiom, sorry.
-/
import Derived.Test.YtfahloobpegieaaGreatChecked
import GoSem.Claim
import GoSem.ClaimJoined
import GoSem.ClaimMapViews
import Derived.JoinedTies
import Derived.KernelRfl
namespace Go.Proofs.YtfahloobpegieaaGreat
/- THE CELL 'sum', in the pinned program and in every row, IS THE sha256 OF THE DUMP (.gsa) THAT YtfahloobpegieaaGreatProg.lean LOADS. Nothing in Lean hashes anything: it is a label: what it is worth is what the hold of that sum in a sandbox is worth. -/
noncomputable def Tryz.pinned : Pinned := { name := "ytfahloobpegieaagreat", sum := "5a60ef14ddc5feea71ae5ad8d2aefc375965071e178d2bc5101321bd339019ef", checked := Tryz.checked }
namespace Rows
def none {H : Type} : Left H := { results := [], args := [] }

/-- 'kerbsidelaw17.WeighNarrows': WHATEVER THE INPUT: true; the input reads as it did. -/
def weighNarrowsSpec : ChangeSpec := { name := "weighNarrows", fn := fun _ => fun
  | [d1, d2, d3, d4, d5] => { results := [.lit (.bool true)], args := [d1, d2, d3, d4, d5] }
  | _ => none }
def weighNarrowsRow : OpenClaim := { program := "ytfahloobpegieaagreat", sum := "5a60ef14ddc5feea71ae5ad8d2aefc375965071e178d2bc5101321bd339019ef", func := "kerbside/kerbsidelaw17.WeighNarrows", spec := "weighNarrows", unfollowed := true, recurses := true, apart := false }
def WeighNarrowsSaid : Prop := weighNarrowsRow.holds Tryz.pinned (OpenSpec.ofChange weighNarrowsSpec)

/-- ITS FALSE NEIGHBOUR: 'it returns false'. Refute it at one input. -/
def weighNarrowsWrong : ChangeSpec := { name := "weighNarrows", fn := fun _ => fun
  | [d1, d2, d3, d4, d5] => { results := [.lit (.bool false)], args := [d1, d2, d3, d4, d5] }
  | _ => none }
def WeighNarrowsWrongFalsely : Prop := weighNarrowsRow.holds Tryz.pinned (OpenSpec.ofChange weighNarrowsWrong)

/-- 'kerbsidelaw17.WeighAdds': WHATEVER THE INPUT: true; the input reads as it did. -/
def weighAddsSpec : ChangeSpec := { name := "weighAdds", fn := fun _ => fun
  | [d1, d2, d3] => { results := [.lit (.bool true)], args := [d1, d2, d3] }
  | _ => none }
def weighAddsRow : OpenClaim := { program := "ytfahloobpegieaagreat", sum := "5a60ef14ddc5feea71ae5ad8d2aefc375965071e178d2bc5101321bd339019ef", func := "kerbside/kerbsidelaw17.WeighAdds", spec := "weighAdds", unfollowed := true, recurses := true, apart := false }
def WeighAddsSaid : Prop := weighAddsRow.holds Tryz.pinned (OpenSpec.ofChange weighAddsSpec)

/-- ITS FALSE NEIGHBOUR: 'it returns false'. Refute it at one input. -/
def weighAddsWrong : ChangeSpec := { name := "weighAdds", fn := fun _ => fun
  | [d1, d2, d3] => { results := [.lit (.bool false)], args := [d1, d2, d3] }
  | _ => none }
def WeighAddsWrongFalsely : Prop := weighAddsRow.holds Tryz.pinned (OpenSpec.ofChange weighAddsWrong)

/-- 'kerbsidelaw17.WeighConserves': WHATEVER THE INPUT: true; the input reads as it did. -/
def weighConservesSpec : ChangeSpec := { name := "weighConserves", fn := fun _ => fun
  | [d] => { results := [.lit (.bool true)], args := [d] }
  | _ => none }
def weighConservesRow : OpenClaim := { program := "ytfahloobpegieaagreat", sum := "5a60ef14ddc5feea71ae5ad8d2aefc375965071e178d2bc5101321bd339019ef", func := "kerbside/kerbsidelaw17.WeighConserves", spec := "weighConserves", unfollowed := true, recurses := true, apart := false }
def WeighConservesSaid : Prop := weighConservesRow.holds Tryz.pinned (OpenSpec.ofChange weighConservesSpec)

/-- ITS FALSE NEIGHBOUR: 'it returns false'. Refute it at one input. -/
def weighConservesWrong : ChangeSpec := { name := "weighConserves", fn := fun _ => fun
  | [d] => { results := [.lit (.bool false)], args := [d] }
  | _ => none }
def WeighConservesWrongFalsely : Prop := weighConservesRow.holds Tryz.pinned (OpenSpec.ofChange weighConservesWrong)

/-- 'kerbsidelaw19.SampleWeighs': WHATEVER THE INPUT: true; the input reads as it did. -/
def sampleWeighsSpec : ChangeSpec := { name := "sampleWeighs", fn := fun _ => fun
  | [d1, d2, d3, d4] => { results := [.lit (.bool true)], args := [d1, d2, d3, d4] }
  | _ => none }
def sampleWeighsRow : OpenClaim := { program := "ytfahloobpegieaagreat", sum := "5a60ef14ddc5feea71ae5ad8d2aefc375965071e178d2bc5101321bd339019ef", func := "kerbside/kerbsidelaw19.SampleWeighs", spec := "sampleWeighs", unfollowed := true, recurses := true, apart := false }
def SampleWeighsSaid : Prop := sampleWeighsRow.holds Tryz.pinned (OpenSpec.ofChange sampleWeighsSpec)

/-- ITS FALSE NEIGHBOUR: 'it returns false'. Refute it at one input. -/
def sampleWeighsWrong : ChangeSpec := { name := "sampleWeighs", fn := fun _ => fun
  | [d1, d2, d3, d4] => { results := [.lit (.bool false)], args := [d1, d2, d3, d4] }
  | _ => none }
def SampleWeighsWrongFalsely : Prop := sampleWeighsRow.holds Tryz.pinned (OpenSpec.ofChange sampleWeighsWrong)

/-- 'kerbsidelaw17.WeighEncloses': WHATEVER THE INPUT: true; the input reads as it did. -/
def weighEnclosesSpec : ChangeSpec := { name := "weighEncloses", fn := fun _ => fun
  | [d1, d2, d3, d4] => { results := [.lit (.bool true)], args := [d1, d2, d3, d4] }
  | _ => none }
def weighEnclosesRow : OpenClaim := { program := "ytfahloobpegieaagreat", sum := "5a60ef14ddc5feea71ae5ad8d2aefc375965071e178d2bc5101321bd339019ef", func := "kerbside/kerbsidelaw17.WeighEncloses", spec := "weighEncloses", unfollowed := true, recurses := true, apart := false }
def WeighEnclosesSaid : Prop := weighEnclosesRow.holds Tryz.pinned (OpenSpec.ofChange weighEnclosesSpec)

/-- ITS FALSE NEIGHBOUR: 'it returns false'. Refute it at one input. -/
def weighEnclosesWrong : ChangeSpec := { name := "weighEncloses", fn := fun _ => fun
  | [d1, d2, d3, d4] => { results := [.lit (.bool false)], args := [d1, d2, d3, d4] }
  | _ => none }
def WeighEnclosesWrongFalsely : Prop := weighEnclosesRow.holds Tryz.pinned (OpenSpec.ofChange weighEnclosesWrong)

/-- 'kerbsidelaw17.WeighTells': WHATEVER THE INPUT: true; the input reads as it did. -/
def weighTellsSpec : ChangeSpec := { name := "weighTells", fn := fun _ => fun
  | [d1, d2, d3] => { results := [.lit (.bool true)], args := [d1, d2, d3] }
  | _ => none }
def weighTellsRow : OpenClaim := { program := "ytfahloobpegieaagreat", sum := "5a60ef14ddc5feea71ae5ad8d2aefc375965071e178d2bc5101321bd339019ef", func := "kerbside/kerbsidelaw17.WeighTells", spec := "weighTells", unfollowed := true, recurses := true, apart := false }
def WeighTellsSaid : Prop := weighTellsRow.holds Tryz.pinned (OpenSpec.ofChange weighTellsSpec)

/-- ITS FALSE NEIGHBOUR: 'it returns false'. Refute it at one input. -/
def weighTellsWrong : ChangeSpec := { name := "weighTells", fn := fun _ => fun
  | [d1, d2, d3] => { results := [.lit (.bool false)], args := [d1, d2, d3] }
  | _ => none }
def WeighTellsWrongFalsely : Prop := weighTellsRow.holds Tryz.pinned (OpenSpec.ofChange weighTellsWrong)

/- THE SECOND FORM. 'bulk': how many values and letters a reading holds, each counted each time it is reached (what is shared counts as often as it is met; a slice's spare places count too). A statement '..UptoSaid' is the law's where the arguments, and the package variables that the reading takes, are together of bulk at most 1048576: NARROWER than '..Said'. Prove '..Said' where nothing that the law and all that it calls make is longer than what came in: it says more and counts as full. Else prove '..UptoSaid'. A law counts once. -/
mutual
def uptoBulk {H : Type} : DataW H → Nat
  | .lit (.string bytes) => bytes.length + 1
  | .lit _ => 1
  | .nil => 1
  | .ptr d => uptoBulk d + 1
  | .slice elems spare => uptoBulkAll elems + uptoBulkAll spare + 1
  | .agg parts => uptoBulkAll parts + 1
  | .iface _ d => uptoBulk d + 1
  | .map entries => uptoBulkEntries entries + 1
  | .held _ => 1
def uptoBulkAll {H : Type} : List (DataW H) → Nat
  | [] => 0
  | d :: r => uptoBulk d + uptoBulkAll r
def uptoBulkEntries {H : Type} : List (Lit × DataW H) → Nat
  | [] => 0
  | x :: r => uptoBulkEntry x + uptoBulkEntries r
def uptoBulkEntry {H : Type} : Lit × DataW H → Nat
  | (.string bytes, d) => bytes.length + uptoBulk d + 1
  | (_, d) => uptoBulk d + 1
 end
def uptoSmall : (H : Type) → List (DataW H) → Bool := fun _ ds => decide (uptoBulkAll ds ≤ 1048576)
def OpenSpec.upto (s : _root_.Go.ChangeSpec) : _root_.Go.OpenSpec := { _root_.Go.OpenSpec.ofChange s with cond := some uptoSmall }

/-- 'kerbsidelaw17.WeighNarrows', WHERE WHAT IT READS IS OF BULK AT MOST 1048576: true; the input reads as it did. -/
def weighNarrowsUptoRow : OpenClaim := { program := "ytfahloobpegieaagreat", sum := "5a60ef14ddc5feea71ae5ad8d2aefc375965071e178d2bc5101321bd339019ef", func := "kerbside/kerbsidelaw17.WeighNarrows", spec := "weighNarrows", unfollowed := true, recurses := true, apart := false, narrowed := true }
def WeighNarrowsUptoSaid : Prop := weighNarrowsUptoRow.holds Tryz.pinned (OpenSpec.upto weighNarrowsSpec)

/-- 'kerbsidelaw17.WeighAdds', WHERE WHAT IT READS IS OF BULK AT MOST 1048576: true; the input reads as it did. -/
def weighAddsUptoRow : OpenClaim := { program := "ytfahloobpegieaagreat", sum := "5a60ef14ddc5feea71ae5ad8d2aefc375965071e178d2bc5101321bd339019ef", func := "kerbside/kerbsidelaw17.WeighAdds", spec := "weighAdds", unfollowed := true, recurses := true, apart := false, narrowed := true }
def WeighAddsUptoSaid : Prop := weighAddsUptoRow.holds Tryz.pinned (OpenSpec.upto weighAddsSpec)

/-- 'kerbsidelaw17.WeighConserves', WHERE WHAT IT READS IS OF BULK AT MOST 1048576: true; the input reads as it did. -/
def weighConservesUptoRow : OpenClaim := { program := "ytfahloobpegieaagreat", sum := "5a60ef14ddc5feea71ae5ad8d2aefc375965071e178d2bc5101321bd339019ef", func := "kerbside/kerbsidelaw17.WeighConserves", spec := "weighConserves", unfollowed := true, recurses := true, apart := false, narrowed := true }
def WeighConservesUptoSaid : Prop := weighConservesUptoRow.holds Tryz.pinned (OpenSpec.upto weighConservesSpec)

/-- 'kerbsidelaw19.SampleWeighs', WHERE WHAT IT READS IS OF BULK AT MOST 1048576: true; the input reads as it did. -/
def sampleWeighsUptoRow : OpenClaim := { program := "ytfahloobpegieaagreat", sum := "5a60ef14ddc5feea71ae5ad8d2aefc375965071e178d2bc5101321bd339019ef", func := "kerbside/kerbsidelaw19.SampleWeighs", spec := "sampleWeighs", unfollowed := true, recurses := true, apart := false, narrowed := true }
def SampleWeighsUptoSaid : Prop := sampleWeighsUptoRow.holds Tryz.pinned (OpenSpec.upto sampleWeighsSpec)

/-- 'kerbsidelaw17.WeighEncloses', WHERE WHAT IT READS IS OF BULK AT MOST 1048576: true; the input reads as it did. -/
def weighEnclosesUptoRow : OpenClaim := { program := "ytfahloobpegieaagreat", sum := "5a60ef14ddc5feea71ae5ad8d2aefc375965071e178d2bc5101321bd339019ef", func := "kerbside/kerbsidelaw17.WeighEncloses", spec := "weighEncloses", unfollowed := true, recurses := true, apart := false, narrowed := true }
def WeighEnclosesUptoSaid : Prop := weighEnclosesUptoRow.holds Tryz.pinned (OpenSpec.upto weighEnclosesSpec)

/-- 'kerbsidelaw17.WeighTells', WHERE WHAT IT READS IS OF BULK AT MOST 1048576: true; the input reads as it did. -/
def weighTellsUptoRow : OpenClaim := { program := "ytfahloobpegieaagreat", sum := "5a60ef14ddc5feea71ae5ad8d2aefc375965071e178d2bc5101321bd339019ef", func := "kerbside/kerbsidelaw17.WeighTells", spec := "weighTells", unfollowed := true, recurses := true, apart := false, narrowed := true }
def WeighTellsUptoSaid : Prop := weighTellsUptoRow.holds Tryz.pinned (OpenSpec.upto weighTellsSpec)

end Rows
end Go.Proofs.YtfahloobpegieaaGreat
