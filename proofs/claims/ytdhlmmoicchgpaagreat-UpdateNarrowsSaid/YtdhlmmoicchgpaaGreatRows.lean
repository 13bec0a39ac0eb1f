/-
  No cell of these rows narrows 'for every input' (looked for: loops, veiled, ifaces, maps, wideKeys, modest, calm, conditions, laid).
  DERIVED. THE GIVEN ROWS OF THIS SEAT. 3 by the template 'for every input the law returns true; each argument reads behind the call as it read before'; 0 by the template 'total and deterministic' (their statements: YtdhlmmoicchgpaaGreatTotals.lean).
  GIVEN WITH THE SEED: the statements are not yours to turn. If you find one false, say at which input.
  Laid BY PROGRAM, IN A SANDBOX (cutbox-rows.mjs): the forced cells as the released guide's own fill.sh prints them over the translation 52294ff1a74dc955… (all of the seat's roots in one cut). By AI agents, Wed Nov 11 2026. No macro, syntax, notation, axiom, sorry.
-/
import Derived.Test.YtdhlmmoicchgpaaGreatChecked
import GoSem.Claim
import GoSem.ClaimJoined
import GoSem.ClaimMapViews
import Derived.JoinedTies
import Derived.KernelRfl
namespace Go.Proofs.YtdhlmmoicchgpaaGreat
/- THE CELL 'sum', in the pinned program and in every row, IS THE sha256 OF THE DUMP (.gsa) THAT YtdhlmmoicchgpaaGreatProg.lean LOADS. Nothing in Lean hashes anything: it is a label: what it is worth is what the hold of that sum in a sandbox is worth. -/
noncomputable def Tryz.pinned : Pinned := { name := "ytdhlmmoicchgpaagreat", sum := "52294ff1a74dc955c74ef3c149aa6fbd4da6b77a1d06e39f37b2254c741b8045", checked := Tryz.checked }
namespace Rows
def none {H : Type} : Left H := { results := [], args := [] }

/-- 'kerbsidelaw20.UpdateScratch': WHATEVER THE INPUT: true; the input reads as it did. -/
def updateScratchSpec : ChangeSpec := { name := "updateScratch", fn := fun _ => fun
  | [d1, d2, d3, d4] => { results := [.lit (.bool true)], args := [d1, d2, d3, d4] }
  | _ => none }
def updateScratchRow : OpenClaim := { program := "ytdhlmmoicchgpaagreat", sum := "52294ff1a74dc955c74ef3c149aa6fbd4da6b77a1d06e39f37b2254c741b8045", func := "kerbside/kerbsidelaw20.UpdateScratch", spec := "updateScratch", unfollowed := true, recurses := true, apart := false }
def UpdateScratchSaid : Prop := updateScratchRow.holds Tryz.pinned (OpenSpec.ofChange updateScratchSpec)

/-- ITS FALSE NEIGHBOUR: 'it returns false'. Refute it at one input. -/
def updateScratchWrong : ChangeSpec := { name := "updateScratch", fn := fun _ => fun
  | [d1, d2, d3, d4] => { results := [.lit (.bool false)], args := [d1, d2, d3, d4] }
  | _ => none }
def UpdateScratchWrongFalsely : Prop := updateScratchRow.holds Tryz.pinned (OpenSpec.ofChange updateScratchWrong)

/-- 'kerbsidelaw20.UpdateNarrows': WHATEVER THE INPUT: true; the input reads as it did. -/
def updateNarrowsSpec : ChangeSpec := { name := "updateNarrows", fn := fun _ => fun
  | [d1, d2, d3] => { results := [.lit (.bool true)], args := [d1, d2, d3] }
  | _ => none }
def updateNarrowsRow : OpenClaim := { program := "ytdhlmmoicchgpaagreat", sum := "52294ff1a74dc955c74ef3c149aa6fbd4da6b77a1d06e39f37b2254c741b8045", func := "kerbside/kerbsidelaw20.UpdateNarrows", spec := "updateNarrows", unfollowed := true, recurses := true, apart := false }
def UpdateNarrowsSaid : Prop := updateNarrowsRow.holds Tryz.pinned (OpenSpec.ofChange updateNarrowsSpec)

/-- ITS FALSE NEIGHBOUR: 'it returns false'. Refute it at one input. -/
def updateNarrowsWrong : ChangeSpec := { name := "updateNarrows", fn := fun _ => fun
  | [d1, d2, d3] => { results := [.lit (.bool false)], args := [d1, d2, d3] }
  | _ => none }
def UpdateNarrowsWrongFalsely : Prop := updateNarrowsRow.holds Tryz.pinned (OpenSpec.ofChange updateNarrowsWrong)

/-- 'kerbsidelaw20.UpdateOrder': WHATEVER THE INPUT: true; the input reads as it did. -/
def updateOrderSpec : ChangeSpec := { name := "updateOrder", fn := fun _ => fun
  | [d1, d2, d3, d4] => { results := [.lit (.bool true)], args := [d1, d2, d3, d4] }
  | _ => none }
def updateOrderRow : OpenClaim := { program := "ytdhlmmoicchgpaagreat", sum := "52294ff1a74dc955c74ef3c149aa6fbd4da6b77a1d06e39f37b2254c741b8045", func := "kerbside/kerbsidelaw20.UpdateOrder", spec := "updateOrder", unfollowed := true, recurses := true, apart := false }
def UpdateOrderSaid : Prop := updateOrderRow.holds Tryz.pinned (OpenSpec.ofChange updateOrderSpec)

/-- ITS FALSE NEIGHBOUR: 'it returns false'. Refute it at one input. -/
def updateOrderWrong : ChangeSpec := { name := "updateOrder", fn := fun _ => fun
  | [d1, d2, d3, d4] => { results := [.lit (.bool false)], args := [d1, d2, d3, d4] }
  | _ => none }
def UpdateOrderWrongFalsely : Prop := updateOrderRow.holds Tryz.pinned (OpenSpec.ofChange updateOrderWrong)

/- THE SECOND FORM. 'bulk': how many values and letters a reading holds, each counted each time it is reached (what is shared counts as often as it is met; a slice's spare places count too). A statement '..UptoSaid' is the law's where the arguments, and the package variables that the reading takes, are together of bulk at most 1048576: NARROWER than '..Said'. Prove '..Said' where nothing that the law and all that it calls make is longer than what came in: it says more and counts as full. Else prove '..UptoSaid'. A law counts once. -/
mutual
def uptoBulk {H : Type} : DataW H → Nat
  | .lit (.string bytes) => bytes.length + 1
  | .lit _ => 1
  | .nil => 1
  | .ptr d => uptoBulk d + 1
  | .slice elems spare => uptoBulkAll elems + uptoBulkAll spare + 1
  | .agg parts => uptoBulkAll parts + 1
  | .iface _ d => uptoBulk d + 1
  | .map entries => uptoBulkEntries entries + 1
  | .held _ => 1
def uptoBulkAll {H : Type} : List (DataW H) → Nat
  | [] => 0
  | d :: r => uptoBulk d + uptoBulkAll r
def uptoBulkEntries {H : Type} : List (Lit × DataW H) → Nat
  | [] => 0
  | x :: r => uptoBulkEntry x + uptoBulkEntries r
def uptoBulkEntry {H : Type} : Lit × DataW H → Nat
  | (.string bytes, d) => bytes.length + uptoBulk d + 1
  | (_, d) => uptoBulk d + 1
 end
def uptoSmall : (H : Type) → List (DataW H) → Bool := fun _ ds => decide (uptoBulkAll ds ≤ 1048576)
def OpenSpec.upto (s : _root_.Go.ChangeSpec) : _root_.Go.OpenSpec := { _root_.Go.OpenSpec.ofChange s with cond := some uptoSmall }

/-- 'kerbsidelaw20.UpdateScratch', WHERE WHAT IT READS IS OF BULK AT MOST 1048576: true; the input reads as it did. -/
def updateScratchUptoRow : OpenClaim := { program := "ytdhlmmoicchgpaagreat", sum := "52294ff1a74dc955c74ef3c149aa6fbd4da6b77a1d06e39f37b2254c741b8045", func := "kerbside/kerbsidelaw20.UpdateScratch", spec := "updateScratch", unfollowed := true, recurses := true, apart := false, narrowed := true }
def UpdateScratchUptoSaid : Prop := updateScratchUptoRow.holds Tryz.pinned (OpenSpec.upto updateScratchSpec)

/-- 'kerbsidelaw20.UpdateNarrows', WHERE WHAT IT READS IS OF BULK AT MOST 1048576: true; the input reads as it did. -/
def updateNarrowsUptoRow : OpenClaim := { program := "ytdhlmmoicchgpaagreat", sum := "52294ff1a74dc955c74ef3c149aa6fbd4da6b77a1d06e39f37b2254c741b8045", func := "kerbside/kerbsidelaw20.UpdateNarrows", spec := "updateNarrows", unfollowed := true, recurses := true, apart := false, narrowed := true }
def UpdateNarrowsUptoSaid : Prop := updateNarrowsUptoRow.holds Tryz.pinned (OpenSpec.upto updateNarrowsSpec)

/-- 'kerbsidelaw20.UpdateOrder', WHERE WHAT IT READS IS OF BULK AT MOST 1048576: true; the input reads as it did. -/
def updateOrderUptoRow : OpenClaim := { program := "ytdhlmmoicchgpaagreat", sum := "52294ff1a74dc955c74ef3c149aa6fbd4da6b77a1d06e39f37b2254c741b8045", func := "kerbside/kerbsidelaw20.UpdateOrder", spec := "updateOrder", unfollowed := true, recurses := true, apart := false, narrowed := true }
def UpdateOrderUptoSaid : Prop := updateOrderUptoRow.holds Tryz.pinned (OpenSpec.upto updateOrderSpec)

end Rows
end Go.Proofs.YtdhlmmoicchgpaaGreat
