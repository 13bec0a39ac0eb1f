/-
  No cell of these rows narrows 'for every input' (looked for: loops, veiled, ifaces, maps, wideKeys, modest, calm, conditions, laid).
  DERIVED. THE GIVEN ROWS OF THIS SEAT. 4 by the template 'for every input the law returns true; each argument reads behind the call as it read before'; 0 by the template 'total and deterministic' (their statements: YtnjkhiafjcajaaaGreatTotals.lean).
  GIVEN WITH THE SEED: the statements are not yours to turn. If you find one false, say at which input.
  Laid BY PROGRAM, IN A SANDBOX (cutbox-rows.mjs): the forced cells as the released guide's own fill.sh prints them over the translation 2469778ac84ff2d9… (all of the seat's roots in one cut). By AI agents, Wed Nov 11 2026. No macro, syntax, notation, axiom, sorry.
-/
import Derived.Test.YtnjkhiafjcajaaaGreatChecked
import GoSem.Claim
import GoSem.ClaimJoined
import GoSem.ClaimMapViews
import Derived.JoinedTies
import Derived.KernelRfl
namespace Go.Proofs.YtnjkhiafjcajaaaGreat
/- THE CELL 'sum', in the pinned program and in every row, IS THE sha256 OF THE DUMP (.gsa) THAT YtnjkhiafjcajaaaGreatProg.lean LOADS. Nothing in Lean hashes anything: it is a label: what it is worth is what the hold of that sum in a sandbox is worth. -/
noncomputable def Tryz.pinned : Pinned := { name := "ytnjkhiafjcajaaagreat", sum := "2469778ac84ff2d9424fb5828f810b07bbb885a91544eea311fa5f37838266cd", checked := Tryz.checked }
namespace Rows
def none {H : Type} : Left H := { results := [], args := [] }

/-- 'kerbsidelaw19.SampleHistories': WHATEVER THE INPUT: true; the input reads as it did. -/
def sampleHistoriesSpec : ChangeSpec := { name := "sampleHistories", fn := fun _ => fun
  | [d1, d2, d3, d4] => { results := [.lit (.bool true)], args := [d1, d2, d3, d4] }
  | _ => none }
def sampleHistoriesRow : OpenClaim := { program := "ytnjkhiafjcajaaagreat", sum := "2469778ac84ff2d9424fb5828f810b07bbb885a91544eea311fa5f37838266cd", func := "kerbside/kerbsidelaw19.SampleHistories", spec := "sampleHistories", unfollowed := true, recurses := true, apart := false }
def SampleHistoriesSaid : Prop := sampleHistoriesRow.holds Tryz.pinned (OpenSpec.ofChange sampleHistoriesSpec)

/-- ITS FALSE NEIGHBOUR: 'it returns false'. Refute it at one input. -/
def sampleHistoriesWrong : ChangeSpec := { name := "sampleHistories", fn := fun _ => fun
  | [d1, d2, d3, d4] => { results := [.lit (.bool false)], args := [d1, d2, d3, d4] }
  | _ => none }
def SampleHistoriesWrongFalsely : Prop := sampleHistoriesRow.holds Tryz.pinned (OpenSpec.ofChange sampleHistoriesWrong)

/-- 'kerbsidelaw17.WeighNarrows': WHATEVER THE INPUT: true; the input reads as it did. -/
def weighNarrowsSpec : ChangeSpec := { name := "weighNarrows", fn := fun _ => fun
  | [d1, d2, d3, d4, d5] => { results := [.lit (.bool true)], args := [d1, d2, d3, d4, d5] }
  | _ => none }
def weighNarrowsRow : OpenClaim := { program := "ytnjkhiafjcajaaagreat", sum := "2469778ac84ff2d9424fb5828f810b07bbb885a91544eea311fa5f37838266cd", func := "kerbside/kerbsidelaw17.WeighNarrows", spec := "weighNarrows", unfollowed := true, recurses := true, apart := false }
def WeighNarrowsSaid : Prop := weighNarrowsRow.holds Tryz.pinned (OpenSpec.ofChange weighNarrowsSpec)

/-- ITS FALSE NEIGHBOUR: 'it returns false'. Refute it at one input. -/
def weighNarrowsWrong : ChangeSpec := { name := "weighNarrows", fn := fun _ => fun
  | [d1, d2, d3, d4, d5] => { results := [.lit (.bool false)], args := [d1, d2, d3, d4, d5] }
  | _ => none }
def WeighNarrowsWrongFalsely : Prop := weighNarrowsRow.holds Tryz.pinned (OpenSpec.ofChange weighNarrowsWrong)

/-- 'kerbsidelaw17.WeighAdds': WHATEVER THE INPUT: true; the input reads as it did. -/
def weighAddsSpec : ChangeSpec := { name := "weighAdds", fn := fun _ => fun
  | [d1, d2, d3] => { results := [.lit (.bool true)], args := [d1, d2, d3] }
  | _ => none }
def weighAddsRow : OpenClaim := { program := "ytnjkhiafjcajaaagreat", sum := "2469778ac84ff2d9424fb5828f810b07bbb885a91544eea311fa5f37838266cd", func := "kerbside/kerbsidelaw17.WeighAdds", spec := "weighAdds", unfollowed := true, recurses := true, apart := false }
def WeighAddsSaid : Prop := weighAddsRow.holds Tryz.pinned (OpenSpec.ofChange weighAddsSpec)

/-- ITS FALSE NEIGHBOUR: 'it returns false'. Refute it at one input. -/
def weighAddsWrong : ChangeSpec := { name := "weighAdds", fn := fun _ => fun
  | [d1, d2, d3] => { results := [.lit (.bool false)], args := [d1, d2, d3] }
  | _ => none }
def WeighAddsWrongFalsely : Prop := weighAddsRow.holds Tryz.pinned (OpenSpec.ofChange weighAddsWrong)

/-- 'kerbsidelaw17.WeighConserves': WHATEVER THE INPUT: true; the input reads as it did. -/
def weighConservesSpec : ChangeSpec := { name := "weighConserves", fn := fun _ => fun
  | [d] => { results := [.lit (.bool true)], args := [d] }
  | _ => none }
def weighConservesRow : OpenClaim := { program := "ytnjkhiafjcajaaagreat", sum := "2469778ac84ff2d9424fb5828f810b07bbb885a91544eea311fa5f37838266cd", func := "kerbside/kerbsidelaw17.WeighConserves", spec := "weighConserves", unfollowed := true, recurses := true, apart := false }
def WeighConservesSaid : Prop := weighConservesRow.holds Tryz.pinned (OpenSpec.ofChange weighConservesSpec)

/-- ITS FALSE NEIGHBOUR: 'it returns false'. Refute it at one input. -/
def weighConservesWrong : ChangeSpec := { name := "weighConserves", fn := fun _ => fun
  | [d] => { results := [.lit (.bool false)], args := [d] }
  | _ => none }
def WeighConservesWrongFalsely : Prop := weighConservesRow.holds Tryz.pinned (OpenSpec.ofChange weighConservesWrong)

/- THE SECOND FORM. 'bulk': how many values and letters a reading holds, each counted each time it is reached (what is shared counts as often as it is met; a slice's spare places count too). A statement '..UptoSaid' is the law's where the arguments, and the package variables that the reading takes, are together of bulk at most 1048576: NARROWER than '..Said'. Prove '..Said' where nothing that the law and all that it calls make is longer than what came in: it says more and counts as full. Else prove '..UptoSaid'. A law counts once. -/
mutual
def uptoBulk {H : Type} : DataW H → Nat
  | .lit (.string bytes) => bytes.length + 1
  | .lit _ => 1
  | .nil => 1
  | .ptr d => uptoBulk d + 1
  | .slice elems spare => uptoBulkAll elems + uptoBulkAll spare + 1
  | .agg parts => uptoBulkAll parts + 1
  | .iface _ d => uptoBulk d + 1
  | .map entries => uptoBulkEntries entries + 1
  | .held _ => 1
def uptoBulkAll {H : Type} : List (DataW H) → Nat
  | [] => 0
  | d :: r => uptoBulk d + uptoBulkAll r
def uptoBulkEntries {H : Type} : List (Lit × DataW H) → Nat
  | [] => 0
  | x :: r => uptoBulkEntry x + uptoBulkEntries r
def uptoBulkEntry {H : Type} : Lit × DataW H → Nat
  | (.string bytes, d) => bytes.length + uptoBulk d + 1
  | (_, d) => uptoBulk d + 1
 end
def uptoSmall : (H : Type) → List (DataW H) → Bool := fun _ ds => decide (uptoBulkAll ds ≤ 1048576)
def OpenSpec.upto (s : _root_.Go.ChangeSpec) : _root_.Go.OpenSpec := { _root_.Go.OpenSpec.ofChange s with cond := some uptoSmall }

/-- 'kerbsidelaw19.SampleHistories', WHERE WHAT IT READS IS OF BULK AT MOST 1048576: true; the input reads as it did. -/
def sampleHistoriesUptoRow : OpenClaim := { program := "ytnjkhiafjcajaaagreat", sum := "2469778ac84ff2d9424fb5828f810b07bbb885a91544eea311fa5f37838266cd", func := "kerbside/kerbsidelaw19.SampleHistories", spec := "sampleHistories", unfollowed := true, recurses := true, apart := false, narrowed := true }
def SampleHistoriesUptoSaid : Prop := sampleHistoriesUptoRow.holds Tryz.pinned (OpenSpec.upto sampleHistoriesSpec)

/-- 'kerbsidelaw17.WeighNarrows', WHERE WHAT IT READS IS OF BULK AT MOST 1048576: true; the input reads as it did. -/
def weighNarrowsUptoRow : OpenClaim := { program := "ytnjkhiafjcajaaagreat", sum := "2469778ac84ff2d9424fb5828f810b07bbb885a91544eea311fa5f37838266cd", func := "kerbside/kerbsidelaw17.WeighNarrows", spec := "weighNarrows", unfollowed := true, recurses := true, apart := false, narrowed := true }
def WeighNarrowsUptoSaid : Prop := weighNarrowsUptoRow.holds Tryz.pinned (OpenSpec.upto weighNarrowsSpec)

/-- 'kerbsidelaw17.WeighAdds', WHERE WHAT IT READS IS OF BULK AT MOST 1048576: true; the input reads as it did. -/
def weighAddsUptoRow : OpenClaim := { program := "ytnjkhiafjcajaaagreat", sum := "2469778ac84ff2d9424fb5828f810b07bbb885a91544eea311fa5f37838266cd", func := "kerbside/kerbsidelaw17.WeighAdds", spec := "weighAdds", unfollowed := true, recurses := true, apart := false, narrowed := true }
def WeighAddsUptoSaid : Prop := weighAddsUptoRow.holds Tryz.pinned (OpenSpec.upto weighAddsSpec)

/-- 'kerbsidelaw17.WeighConserves', WHERE WHAT IT READS IS OF BULK AT MOST 1048576: true; the input reads as it did. -/
def weighConservesUptoRow : OpenClaim := { program := "ytnjkhiafjcajaaagreat", sum := "2469778ac84ff2d9424fb5828f810b07bbb885a91544eea311fa5f37838266cd", func := "kerbside/kerbsidelaw17.WeighConserves", spec := "weighConserves", unfollowed := true, recurses := true, apart := false, narrowed := true }
def WeighConservesUptoSaid : Prop := weighConservesUptoRow.holds Tryz.pinned (OpenSpec.upto weighConservesSpec)

end Rows
end Go.Proofs.YtnjkhiafjcajaaaGreat
