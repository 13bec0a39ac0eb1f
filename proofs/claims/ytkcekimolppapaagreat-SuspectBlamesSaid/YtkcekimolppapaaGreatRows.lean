/-
  No cell of these rows narrows 'for every input' (looked for: loops, veiled, ifaces, maps, wideKeys, modest, calm, conditions, laid).
  DERIVED. THE GIVEN ROWS OF THIS SEAT. 6 by the template 'for every input the law returns true; each argument reads behind the call as it read before'; 0 by the template 'total and deterministic' (their statements: YtkcekimolppapaaGreatTotals.lean).
  GIVEN WITH THE SEED: the statements are not yours to turn. If you find one false, say at which input.
  Laid BY PROGRAM, IN A SANDBOX (cutbox-rows.mjs): the forced cells as the released guide's own fill.sh prints them over the translation 936aaa939764d079… (all of the seat's roots in one cut). By AI agents, Wed Nov 11 2026. No macro, syntax, notation, axiom, sorry.
-/
import Derived.Test.YtkcekimolppapaaGreatChecked
import GoSem.Claim
import GoSem.ClaimJoined
import GoSem.ClaimMapViews
import Derived.JoinedTies
import Derived.KernelRfl
namespace Go.Proofs.YtkcekimolppapaaGreat
/- THE CELL 'sum', in the pinned program and in every row, IS THE sha256 OF THE DUMP (.gsa) THAT YtkcekimolppapaaGreatProg.lean LOADS. Nothing in Lean hashes anything: it is a label: what it is worth is what the hold of that sum in a sandbox is worth. -/
noncomputable def Tryz.pinned : Pinned := { name := "ytkcekimolppapaagreat", sum := "936aaa939764d079200e5104586bc5e5f110285c1958abff80b57635b05fc82f", checked := Tryz.checked }
namespace Rows
def none {H : Type} : Left H := { results := [], args := [] }

/-- 'kerbsidelaw17.WeighConserves': WHATEVER THE INPUT: true; the input reads as it did. -/
def weighConservesSpec : ChangeSpec := { name := "weighConserves", fn := fun _ => fun
  | [d] => { results := [.lit (.bool true)], args := [d] }
  | _ => none }
def weighConservesRow : OpenClaim := { program := "ytkcekimolppapaagreat", sum := "936aaa939764d079200e5104586bc5e5f110285c1958abff80b57635b05fc82f", func := "kerbside/kerbsidelaw17.WeighConserves", spec := "weighConserves", unfollowed := true, recurses := true, apart := false }
def WeighConservesSaid : Prop := weighConservesRow.holds Tryz.pinned (OpenSpec.ofChange weighConservesSpec)

/-- ITS FALSE NEIGHBOUR: 'it returns false'. Refute it at one input. -/
def weighConservesWrong : ChangeSpec := { name := "weighConserves", fn := fun _ => fun
  | [d] => { results := [.lit (.bool false)], args := [d] }
  | _ => none }
def WeighConservesWrongFalsely : Prop := weighConservesRow.holds Tryz.pinned (OpenSpec.ofChange weighConservesWrong)

/-- 'kerbsidelaw17.WeighEncloses': WHATEVER THE INPUT: true; the input reads as it did. -/
def weighEnclosesSpec : ChangeSpec := { name := "weighEncloses", fn := fun _ => fun
  | [d1, d2, d3, d4] => { results := [.lit (.bool true)], args := [d1, d2, d3, d4] }
  | _ => none }
def weighEnclosesRow : OpenClaim := { program := "ytkcekimolppapaagreat", sum := "936aaa939764d079200e5104586bc5e5f110285c1958abff80b57635b05fc82f", func := "kerbside/kerbsidelaw17.WeighEncloses", spec := "weighEncloses", unfollowed := true, recurses := true, apart := false }
def WeighEnclosesSaid : Prop := weighEnclosesRow.holds Tryz.pinned (OpenSpec.ofChange weighEnclosesSpec)

/-- ITS FALSE NEIGHBOUR: 'it returns false'. Refute it at one input. -/
def weighEnclosesWrong : ChangeSpec := { name := "weighEncloses", fn := fun _ => fun
  | [d1, d2, d3, d4] => { results := [.lit (.bool false)], args := [d1, d2, d3, d4] }
  | _ => none }
def WeighEnclosesWrongFalsely : Prop := weighEnclosesRow.holds Tryz.pinned (OpenSpec.ofChange weighEnclosesWrong)

/-- 'kerbsidelaw18.SuspectRecalls': WHATEVER THE INPUT: true; the input reads as it did. -/
def suspectRecallsSpec : ChangeSpec := { name := "suspectRecalls", fn := fun _ => fun
  | [d1, d2, d3, d4] => { results := [.lit (.bool true)], args := [d1, d2, d3, d4] }
  | _ => none }
def suspectRecallsRow : OpenClaim := { program := "ytkcekimolppapaagreat", sum := "936aaa939764d079200e5104586bc5e5f110285c1958abff80b57635b05fc82f", func := "kerbside/kerbsidelaw18.SuspectRecalls", spec := "suspectRecalls", unfollowed := true, recurses := true, apart := false }
def SuspectRecallsSaid : Prop := suspectRecallsRow.holds Tryz.pinned (OpenSpec.ofChange suspectRecallsSpec)

/-- ITS FALSE NEIGHBOUR: 'it returns false'. Refute it at one input. -/
def suspectRecallsWrong : ChangeSpec := { name := "suspectRecalls", fn := fun _ => fun
  | [d1, d2, d3, d4] => { results := [.lit (.bool false)], args := [d1, d2, d3, d4] }
  | _ => none }
def SuspectRecallsWrongFalsely : Prop := suspectRecallsRow.holds Tryz.pinned (OpenSpec.ofChange suspectRecallsWrong)

/-- 'kerbsidelaw18.SuspectTruth': WHATEVER THE INPUT: true; the input reads as it did. -/
def suspectTruthSpec : ChangeSpec := { name := "suspectTruth", fn := fun _ => fun
  | [d1, d2, d3] => { results := [.lit (.bool true)], args := [d1, d2, d3] }
  | _ => none }
def suspectTruthRow : OpenClaim := { program := "ytkcekimolppapaagreat", sum := "936aaa939764d079200e5104586bc5e5f110285c1958abff80b57635b05fc82f", func := "kerbside/kerbsidelaw18.SuspectTruth", spec := "suspectTruth", unfollowed := true, recurses := true, apart := false }
def SuspectTruthSaid : Prop := suspectTruthRow.holds Tryz.pinned (OpenSpec.ofChange suspectTruthSpec)

/-- ITS FALSE NEIGHBOUR: 'it returns false'. Refute it at one input. -/
def suspectTruthWrong : ChangeSpec := { name := "suspectTruth", fn := fun _ => fun
  | [d1, d2, d3] => { results := [.lit (.bool false)], args := [d1, d2, d3] }
  | _ => none }
def SuspectTruthWrongFalsely : Prop := suspectTruthRow.holds Tryz.pinned (OpenSpec.ofChange suspectTruthWrong)

/-- 'kerbsidelaw18.SuspectFewest': WHATEVER THE INPUT: true; the input reads as it did. -/
def suspectFewestSpec : ChangeSpec := { name := "suspectFewest", fn := fun _ => fun
  | [d1, d2] => { results := [.lit (.bool true)], args := [d1, d2] }
  | _ => none }
def suspectFewestRow : OpenClaim := { program := "ytkcekimolppapaagreat", sum := "936aaa939764d079200e5104586bc5e5f110285c1958abff80b57635b05fc82f", func := "kerbside/kerbsidelaw18.SuspectFewest", spec := "suspectFewest", unfollowed := true, recurses := true, apart := false }
def SuspectFewestSaid : Prop := suspectFewestRow.holds Tryz.pinned (OpenSpec.ofChange suspectFewestSpec)

/-- ITS FALSE NEIGHBOUR: 'it returns false'. Refute it at one input. -/
def suspectFewestWrong : ChangeSpec := { name := "suspectFewest", fn := fun _ => fun
  | [d1, d2] => { results := [.lit (.bool false)], args := [d1, d2] }
  | _ => none }
def SuspectFewestWrongFalsely : Prop := suspectFewestRow.holds Tryz.pinned (OpenSpec.ofChange suspectFewestWrong)

/-- 'kerbsidelaw18.SuspectBlames': WHATEVER THE INPUT: true; the input reads as it did. -/
def suspectBlamesSpec : ChangeSpec := { name := "suspectBlames", fn := fun _ => fun
  | [d1, d2] => { results := [.lit (.bool true)], args := [d1, d2] }
  | _ => none }
def suspectBlamesRow : OpenClaim := { program := "ytkcekimolppapaagreat", sum := "936aaa939764d079200e5104586bc5e5f110285c1958abff80b57635b05fc82f", func := "kerbside/kerbsidelaw18.SuspectBlames", spec := "suspectBlames", unfollowed := true, recurses := true, apart := false }
def SuspectBlamesSaid : Prop := suspectBlamesRow.holds Tryz.pinned (OpenSpec.ofChange suspectBlamesSpec)

/-- ITS FALSE NEIGHBOUR: 'it returns false'. Refute it at one input. -/
def suspectBlamesWrong : ChangeSpec := { name := "suspectBlames", fn := fun _ => fun
  | [d1, d2] => { results := [.lit (.bool false)], args := [d1, d2] }
  | _ => none }
def SuspectBlamesWrongFalsely : Prop := suspectBlamesRow.holds Tryz.pinned (OpenSpec.ofChange suspectBlamesWrong)

/- THE SECOND FORM. 'bulk': how many values and letters a reading holds, each counted each time it is reached (what is shared counts as often as it is met; a slice's spare places count too). A statement '..UptoSaid' is the law's where the arguments, and the package variables that the reading takes, are together of bulk at most 1048576: NARROWER than '..Said'. Prove '..Said' where nothing that the law and all that it calls make is longer than what came in: it says more and counts as full. Else prove '..UptoSaid'. A law counts once. -/
mutual
def uptoBulk {H : Type} : DataW H → Nat
  | .lit (.string bytes) => bytes.length + 1
  | .lit _ => 1
  | .nil => 1
  | .ptr d => uptoBulk d + 1
  | .slice elems spare => uptoBulkAll elems + uptoBulkAll spare + 1
  | .agg parts => uptoBulkAll parts + 1
  | .iface _ d => uptoBulk d + 1
  | .map entries => uptoBulkEntries entries + 1
  | .held _ => 1
def uptoBulkAll {H : Type} : List (DataW H) → Nat
  | [] => 0
  | d :: r => uptoBulk d + uptoBulkAll r
def uptoBulkEntries {H : Type} : List (Lit × DataW H) → Nat
  | [] => 0
  | x :: r => uptoBulkEntry x + uptoBulkEntries r
def uptoBulkEntry {H : Type} : Lit × DataW H → Nat
  | (.string bytes, d) => bytes.length + uptoBulk d + 1
  | (_, d) => uptoBulk d + 1
 end
def uptoSmall : (H : Type) → List (DataW H) → Bool := fun _ ds => decide (uptoBulkAll ds ≤ 1048576)
def OpenSpec.upto (s : _root_.Go.ChangeSpec) : _root_.Go.OpenSpec := { _root_.Go.OpenSpec.ofChange s with cond := some uptoSmall }

/-- 'kerbsidelaw17.WeighConserves', WHERE WHAT IT READS IS OF BULK AT MOST 1048576: true; the input reads as it did. -/
def weighConservesUptoRow : OpenClaim := { program := "ytkcekimolppapaagreat", sum := "936aaa939764d079200e5104586bc5e5f110285c1958abff80b57635b05fc82f", func := "kerbside/kerbsidelaw17.WeighConserves", spec := "weighConserves", unfollowed := true, recurses := true, apart := false, narrowed := true }
def WeighConservesUptoSaid : Prop := weighConservesUptoRow.holds Tryz.pinned (OpenSpec.upto weighConservesSpec)

/-- 'kerbsidelaw17.WeighEncloses', WHERE WHAT IT READS IS OF BULK AT MOST 1048576: true; the input reads as it did. -/
def weighEnclosesUptoRow : OpenClaim := { program := "ytkcekimolppapaagreat", sum := "936aaa939764d079200e5104586bc5e5f110285c1958abff80b57635b05fc82f", func := "kerbside/kerbsidelaw17.WeighEncloses", spec := "weighEncloses", unfollowed := true, recurses := true, apart := false, narrowed := true }
def WeighEnclosesUptoSaid : Prop := weighEnclosesUptoRow.holds Tryz.pinned (OpenSpec.upto weighEnclosesSpec)

/-- 'kerbsidelaw18.SuspectRecalls', WHERE WHAT IT READS IS OF BULK AT MOST 1048576: true; the input reads as it did. -/
def suspectRecallsUptoRow : OpenClaim := { program := "ytkcekimolppapaagreat", sum := "936aaa939764d079200e5104586bc5e5f110285c1958abff80b57635b05fc82f", func := "kerbside/kerbsidelaw18.SuspectRecalls", spec := "suspectRecalls", unfollowed := true, recurses := true, apart := false, narrowed := true }
def SuspectRecallsUptoSaid : Prop := suspectRecallsUptoRow.holds Tryz.pinned (OpenSpec.upto suspectRecallsSpec)

/-- 'kerbsidelaw18.SuspectTruth', WHERE WHAT IT READS IS OF BULK AT MOST 1048576: true; the input reads as it did. -/
def suspectTruthUptoRow : OpenClaim := { program := "ytkcekimolppapaagreat", sum := "936aaa939764d079200e5104586bc5e5f110285c1958abff80b57635b05fc82f", func := "kerbside/kerbsidelaw18.SuspectTruth", spec := "suspectTruth", unfollowed := true, recurses := true, apart := false, narrowed := true }
def SuspectTruthUptoSaid : Prop := suspectTruthUptoRow.holds Tryz.pinned (OpenSpec.upto suspectTruthSpec)

/-- 'kerbsidelaw18.SuspectFewest', WHERE WHAT IT READS IS OF BULK AT MOST 1048576: true; the input reads as it did. -/
def suspectFewestUptoRow : OpenClaim := { program := "ytkcekimolppapaagreat", sum := "936aaa939764d079200e5104586bc5e5f110285c1958abff80b57635b05fc82f", func := "kerbside/kerbsidelaw18.SuspectFewest", spec := "suspectFewest", unfollowed := true, recurses := true, apart := false, narrowed := true }
def SuspectFewestUptoSaid : Prop := suspectFewestUptoRow.holds Tryz.pinned (OpenSpec.upto suspectFewestSpec)

/-- 'kerbsidelaw18.SuspectBlames', WHERE WHAT IT READS IS OF BULK AT MOST 1048576: true; the input reads as it did. -/
def suspectBlamesUptoRow : OpenClaim := { program := "ytkcekimolppapaagreat", sum := "936aaa939764d079200e5104586bc5e5f110285c1958abff80b57635b05fc82f", func := "kerbside/kerbsidelaw18.SuspectBlames", spec := "suspectBlames", unfollowed := true, recurses := true, apart := false, narrowed := true }
def SuspectBlamesUptoSaid : Prop := suspectBlamesUptoRow.holds Tryz.pinned (OpenSpec.upto suspectBlamesSpec)

end Rows
end Go.Proofs.YtkcekimolppapaaGreat
