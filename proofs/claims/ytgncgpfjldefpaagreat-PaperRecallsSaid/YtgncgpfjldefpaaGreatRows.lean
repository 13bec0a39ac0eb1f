/-
  No cell of these rows narrows 'for every input' (looked for: loops, veiled, ifaces, maps, wideKeys, modest, calm, conditions, laid).
  DERIVED. THE GIVEN ROWS OF THIS SEAT. 5 by the template 'for every input the law returns true; each argument reads behind the call as it read before'; 0 by the template 'total and deterministic' (their statements: YtgncgpfjldefpaaGreatTotals.lean).
  GIVEN WITH THE SEED: the statements are not yours to turn. If you find one false, say at which input.
  Laid BY PROGRAM, IN A SANDBOX (cutbox-rows.mjs): the forced cells as the released guide's own fill.sh prints them over the translation 4b40ec53e1ec4403… (all of the seat's roots in one cut). By AI agents, Wed Nov 11 2026. No macro, syntax, notation, axiom, sorry.
-/
import Derived.Test.YtgncgpfjldefpaaGreatChecked
import GoSem.Claim
import GoSem.ClaimJoined
import GoSem.ClaimMapViews
import Derived.JoinedTies
import Derived.KernelRfl
namespace Go.Proofs.YtgncgpfjldefpaaGreat
/- THE CELL 'sum', in the pinned program and in every row, IS THE sha256 OF THE DUMP (.gsa) THAT YtgncgpfjldefpaaGreatProg.lean LOADS. Nothing in Lean hashes anything: it is a label: what it is worth is what the hold of that sum in a sandbox is worth. -/
noncomputable def Tryz.pinned : Pinned := { name := "ytgncgpfjldefpaagreat", sum := "4b40ec53e1ec44032259e583c8ad081bb2b6453fda2744fa97c4a194ffecb4b2", checked := Tryz.checked }
namespace Rows
def none {H : Type} : Left H := { results := [], args := [] }

/-- 'kerbsidelaw42.PaperStands': WHATEVER THE INPUT: true; the input reads as it did. -/
def paperStandsSpec : ChangeSpec := { name := "paperStands", fn := fun _ => fun
  | [d1, d2, d3] => { results := [.lit (.bool true)], args := [d1, d2, d3] }
  | _ => none }
def paperStandsRow : OpenClaim := { program := "ytgncgpfjldefpaagreat", sum := "4b40ec53e1ec44032259e583c8ad081bb2b6453fda2744fa97c4a194ffecb4b2", func := "kerbside/kerbsidelaw42.PaperStands", spec := "paperStands", unfollowed := true, recurses := true, apart := false }
def PaperStandsSaid : Prop := paperStandsRow.holds Tryz.pinned (OpenSpec.ofChange paperStandsSpec)

/-- ITS FALSE NEIGHBOUR: 'it returns false'. Refute it at one input. -/
def paperStandsWrong : ChangeSpec := { name := "paperStands", fn := fun _ => fun
  | [d1, d2, d3] => { results := [.lit (.bool false)], args := [d1, d2, d3] }
  | _ => none }
def PaperStandsWrongFalsely : Prop := paperStandsRow.holds Tryz.pinned (OpenSpec.ofChange paperStandsWrong)

/-- 'kerbsidelaw42.PaperKeeps': WHATEVER THE INPUT: true; the input reads as it did. -/
def paperKeepsSpec : ChangeSpec := { name := "paperKeeps", fn := fun _ => fun
  | [d1, d2, d3, d4, d5] => { results := [.lit (.bool true)], args := [d1, d2, d3, d4, d5] }
  | _ => none }
def paperKeepsRow : OpenClaim := { program := "ytgncgpfjldefpaagreat", sum := "4b40ec53e1ec44032259e583c8ad081bb2b6453fda2744fa97c4a194ffecb4b2", func := "kerbside/kerbsidelaw42.PaperKeeps", spec := "paperKeeps", unfollowed := true, recurses := true, apart := false }
def PaperKeepsSaid : Prop := paperKeepsRow.holds Tryz.pinned (OpenSpec.ofChange paperKeepsSpec)

/-- ITS FALSE NEIGHBOUR: 'it returns false'. Refute it at one input. -/
def paperKeepsWrong : ChangeSpec := { name := "paperKeeps", fn := fun _ => fun
  | [d1, d2, d3, d4, d5] => { results := [.lit (.bool false)], args := [d1, d2, d3, d4, d5] }
  | _ => none }
def PaperKeepsWrongFalsely : Prop := paperKeepsRow.holds Tryz.pinned (OpenSpec.ofChange paperKeepsWrong)

/-- 'kerbsidelaw42.PaperBack': WHATEVER THE INPUT: true; the input reads as it did. -/
def paperBackSpec : ChangeSpec := { name := "paperBack", fn := fun _ => fun
  | [d1, d2, d3, d4] => { results := [.lit (.bool true)], args := [d1, d2, d3, d4] }
  | _ => none }
def paperBackRow : OpenClaim := { program := "ytgncgpfjldefpaagreat", sum := "4b40ec53e1ec44032259e583c8ad081bb2b6453fda2744fa97c4a194ffecb4b2", func := "kerbside/kerbsidelaw42.PaperBack", spec := "paperBack", unfollowed := true, recurses := true, apart := false }
def PaperBackSaid : Prop := paperBackRow.holds Tryz.pinned (OpenSpec.ofChange paperBackSpec)

/-- ITS FALSE NEIGHBOUR: 'it returns false'. Refute it at one input. -/
def paperBackWrong : ChangeSpec := { name := "paperBack", fn := fun _ => fun
  | [d1, d2, d3, d4] => { results := [.lit (.bool false)], args := [d1, d2, d3, d4] }
  | _ => none }
def PaperBackWrongFalsely : Prop := paperBackRow.holds Tryz.pinned (OpenSpec.ofChange paperBackWrong)

/-- 'kerbsidelaw42.PaperRecalls': WHATEVER THE INPUT: true; the input reads as it did. -/
def paperRecallsSpec : ChangeSpec := { name := "paperRecalls", fn := fun _ => fun
  | [d1, d2, d3, d4, d5] => { results := [.lit (.bool true)], args := [d1, d2, d3, d4, d5] }
  | _ => none }
def paperRecallsRow : OpenClaim := { program := "ytgncgpfjldefpaagreat", sum := "4b40ec53e1ec44032259e583c8ad081bb2b6453fda2744fa97c4a194ffecb4b2", func := "kerbside/kerbsidelaw42.PaperRecalls", spec := "paperRecalls", unfollowed := true, recurses := true, apart := false }
def PaperRecallsSaid : Prop := paperRecallsRow.holds Tryz.pinned (OpenSpec.ofChange paperRecallsSpec)

/-- ITS FALSE NEIGHBOUR: 'it returns false'. Refute it at one input. -/
def paperRecallsWrong : ChangeSpec := { name := "paperRecalls", fn := fun _ => fun
  | [d1, d2, d3, d4, d5] => { results := [.lit (.bool false)], args := [d1, d2, d3, d4, d5] }
  | _ => none }
def PaperRecallsWrongFalsely : Prop := paperRecallsRow.holds Tryz.pinned (OpenSpec.ofChange paperRecallsWrong)

/-- 'kerbsidelaw42.PaperNever': WHATEVER THE INPUT: true; the input reads as it did. -/
def paperNeverSpec : ChangeSpec := { name := "paperNever", fn := fun _ => fun
  | [d1, d2, d3] => { results := [.lit (.bool true)], args := [d1, d2, d3] }
  | _ => none }
def paperNeverRow : OpenClaim := { program := "ytgncgpfjldefpaagreat", sum := "4b40ec53e1ec44032259e583c8ad081bb2b6453fda2744fa97c4a194ffecb4b2", func := "kerbside/kerbsidelaw42.PaperNever", spec := "paperNever", unfollowed := true, recurses := true, apart := false }
def PaperNeverSaid : Prop := paperNeverRow.holds Tryz.pinned (OpenSpec.ofChange paperNeverSpec)

/-- ITS FALSE NEIGHBOUR: 'it returns false'. Refute it at one input. -/
def paperNeverWrong : ChangeSpec := { name := "paperNever", fn := fun _ => fun
  | [d1, d2, d3] => { results := [.lit (.bool false)], args := [d1, d2, d3] }
  | _ => none }
def PaperNeverWrongFalsely : Prop := paperNeverRow.holds Tryz.pinned (OpenSpec.ofChange paperNeverWrong)

/- THE SECOND FORM. 'bulk': how many values and letters a reading holds, each counted each time it is reached (what is shared counts as often as it is met; a slice's spare places count too). A statement '..UptoSaid' is the law's where the arguments, and the package variables that the reading takes, are together of bulk at most 1048576: NARROWER than '..Said'. Prove '..Said' where nothing that the law and all that it calls make is longer than what came in: it says more and counts as full. Else prove '..UptoSaid'. A law counts once. -/
mutual
def uptoBulk {H : Type} : DataW H → Nat
  | .lit (.string bytes) => bytes.length + 1
  | .lit _ => 1
  | .nil => 1
  | .ptr d => uptoBulk d + 1
  | .slice elems spare => uptoBulkAll elems + uptoBulkAll spare + 1
  | .agg parts => uptoBulkAll parts + 1
  | .iface _ d => uptoBulk d + 1
  | .map entries => uptoBulkEntries entries + 1
  | .held _ => 1
def uptoBulkAll {H : Type} : List (DataW H) → Nat
  | [] => 0
  | d :: r => uptoBulk d + uptoBulkAll r
def uptoBulkEntries {H : Type} : List (Lit × DataW H) → Nat
  | [] => 0
  | x :: r => uptoBulkEntry x + uptoBulkEntries r
def uptoBulkEntry {H : Type} : Lit × DataW H → Nat
  | (.string bytes, d) => bytes.length + uptoBulk d + 1
  | (_, d) => uptoBulk d + 1
 end
def uptoSmall : (H : Type) → List (DataW H) → Bool := fun _ ds => decide (uptoBulkAll ds ≤ 1048576)
def OpenSpec.upto (s : _root_.Go.ChangeSpec) : _root_.Go.OpenSpec := { _root_.Go.OpenSpec.ofChange s with cond := some uptoSmall }

/-- 'kerbsidelaw42.PaperStands', WHERE WHAT IT READS IS OF BULK AT MOST 1048576: true; the input reads as it did. -/
def paperStandsUptoRow : OpenClaim := { program := "ytgncgpfjldefpaagreat", sum := "4b40ec53e1ec44032259e583c8ad081bb2b6453fda2744fa97c4a194ffecb4b2", func := "kerbside/kerbsidelaw42.PaperStands", spec := "paperStands", unfollowed := true, recurses := true, apart := false, narrowed := true }
def PaperStandsUptoSaid : Prop := paperStandsUptoRow.holds Tryz.pinned (OpenSpec.upto paperStandsSpec)

/-- 'kerbsidelaw42.PaperKeeps', WHERE WHAT IT READS IS OF BULK AT MOST 1048576: true; the input reads as it did. -/
def paperKeepsUptoRow : OpenClaim := { program := "ytgncgpfjldefpaagreat", sum := "4b40ec53e1ec44032259e583c8ad081bb2b6453fda2744fa97c4a194ffecb4b2", func := "kerbside/kerbsidelaw42.PaperKeeps", spec := "paperKeeps", unfollowed := true, recurses := true, apart := false, narrowed := true }
def PaperKeepsUptoSaid : Prop := paperKeepsUptoRow.holds Tryz.pinned (OpenSpec.upto paperKeepsSpec)

/-- 'kerbsidelaw42.PaperBack', WHERE WHAT IT READS IS OF BULK AT MOST 1048576: true; the input reads as it did. -/
def paperBackUptoRow : OpenClaim := { program := "ytgncgpfjldefpaagreat", sum := "4b40ec53e1ec44032259e583c8ad081bb2b6453fda2744fa97c4a194ffecb4b2", func := "kerbside/kerbsidelaw42.PaperBack", spec := "paperBack", unfollowed := true, recurses := true, apart := false, narrowed := true }
def PaperBackUptoSaid : Prop := paperBackUptoRow.holds Tryz.pinned (OpenSpec.upto paperBackSpec)

/-- 'kerbsidelaw42.PaperRecalls', WHERE WHAT IT READS IS OF BULK AT MOST 1048576: true; the input reads as it did. -/
def paperRecallsUptoRow : OpenClaim := { program := "ytgncgpfjldefpaagreat", sum := "4b40ec53e1ec44032259e583c8ad081bb2b6453fda2744fa97c4a194ffecb4b2", func := "kerbside/kerbsidelaw42.PaperRecalls", spec := "paperRecalls", unfollowed := true, recurses := true, apart := false, narrowed := true }
def PaperRecallsUptoSaid : Prop := paperRecallsUptoRow.holds Tryz.pinned (OpenSpec.upto paperRecallsSpec)

/-- 'kerbsidelaw42.PaperNever', WHERE WHAT IT READS IS OF BULK AT MOST 1048576: true; the input reads as it did. -/
def paperNeverUptoRow : OpenClaim := { program := "ytgncgpfjldefpaagreat", sum := "4b40ec53e1ec44032259e583c8ad081bb2b6453fda2744fa97c4a194ffecb4b2", func := "kerbside/kerbsidelaw42.PaperNever", spec := "paperNever", unfollowed := true, recurses := true, apart := false, narrowed := true }
def PaperNeverUptoSaid : Prop := paperNeverUptoRow.holds Tryz.pinned (OpenSpec.upto paperNeverSpec)

end Rows
end Go.Proofs.YtgncgpfjldefpaaGreat
