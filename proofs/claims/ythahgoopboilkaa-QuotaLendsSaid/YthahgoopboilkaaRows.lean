/-
  No cell of these rows narrows 'for every input' (looked for: loops, veiled, ifaces, maps, wideKeys, modest, calm, conditions, laid).
  DERIVED. THE GIVEN ROWS OF THIS SEAT. 3 by the template 'for every input the law returns true; each argument reads behind the call as it read before'; 0 by the template 'total and deterministic' (their statements: YthahgoopboilkaaTotals.lean).
  GIVEN WITH THE SEED: the statements are not yours to turn. If you find one false, say at which input.
  Laid BY PROGRAM, IN A SANDBOX (cutbox-rows.mjs): the forced cells as the released guide's own fill.sh prints them over the translation 271a3555eea4ceb3… (all of the seat's roots in one cut). By AI agents, Wed Nov 11 2026. No macro, syntax, notation, axiom, sorry.
-/
import Derived.Test.YthahgoopboilkaaChecked
import GoSem.Claim
import GoSem.ClaimJoined
import GoSem.ClaimMapViews
import Derived.JoinedTies
import Derived.KernelRfl
namespace Go.Proofs.Ythahgoopboilkaa
/- THE CELL 'sum', in the pinned program and in every row, IS THE sha256 OF THE DUMP (.gsa) THAT YthahgoopboilkaaProg.lean LOADS. Nothing in Lean hashes anything: it is a label: what it is worth is what the hold of that sum in a sandbox is worth. -/
noncomputable def Try.pinned : Pinned := { name := "ythahgoopboilkaa", sum := "271a3555eea4ceb3cecd5cca9b7700a3c8effa7768762b41eb210cd2e291bc5c", checked := Try.checked }
namespace Rows
def none {H : Type} : Left H := { results := [], args := [] }

/-- 'kerbsidelaw45.QuotaTrades': WHATEVER THE INPUT: true; the input reads as it did. -/
def quotaTradesSpec : ChangeSpec := { name := "quotaTrades", fn := fun _ => fun
  | [d1, d2, d3, d4, d5, d6] => { results := [.lit (.bool true)], args := [d1, d2, d3, d4, d5, d6] }
  | _ => none }
def quotaTradesRow : OpenClaim := { program := "ythahgoopboilkaa", sum := "271a3555eea4ceb3cecd5cca9b7700a3c8effa7768762b41eb210cd2e291bc5c", func := "kerbside/kerbsidelaw45.QuotaTrades", spec := "quotaTrades", unfollowed := true, recurses := true, plainKeys := false, apart := false }
def QuotaTradesSaid : Prop := quotaTradesRow.holds Try.pinned (OpenSpec.ofChange quotaTradesSpec)

/-- ITS FALSE NEIGHBOUR: 'it returns false'. Refute it at one input. -/
def quotaTradesWrong : ChangeSpec := { name := "quotaTrades", fn := fun _ => fun
  | [d1, d2, d3, d4, d5, d6] => { results := [.lit (.bool false)], args := [d1, d2, d3, d4, d5, d6] }
  | _ => none }
def QuotaTradesWrongFalsely : Prop := quotaTradesRow.holds Try.pinned (OpenSpec.ofChange quotaTradesWrong)

/-- 'kerbsidelaw45.QuotaTurns': WHATEVER THE INPUT: true; the input reads as it did. -/
def quotaTurnsSpec : ChangeSpec := { name := "quotaTurns", fn := fun _ => fun
  | [d1, d2, d3, d4] => { results := [.lit (.bool true)], args := [d1, d2, d3, d4] }
  | _ => none }
def quotaTurnsRow : OpenClaim := { program := "ythahgoopboilkaa", sum := "271a3555eea4ceb3cecd5cca9b7700a3c8effa7768762b41eb210cd2e291bc5c", func := "kerbside/kerbsidelaw45.QuotaTurns", spec := "quotaTurns", unfollowed := true, recurses := true, plainKeys := false, apart := false }
def QuotaTurnsSaid : Prop := quotaTurnsRow.holds Try.pinned (OpenSpec.ofChange quotaTurnsSpec)

/-- ITS FALSE NEIGHBOUR: 'it returns false'. Refute it at one input. -/
def quotaTurnsWrong : ChangeSpec := { name := "quotaTurns", fn := fun _ => fun
  | [d1, d2, d3, d4] => { results := [.lit (.bool false)], args := [d1, d2, d3, d4] }
  | _ => none }
def QuotaTurnsWrongFalsely : Prop := quotaTurnsRow.holds Try.pinned (OpenSpec.ofChange quotaTurnsWrong)

/-- 'kerbsidelaw45.QuotaLends': WHATEVER THE INPUT: true; the input reads as it did. -/
def quotaLendsSpec : ChangeSpec := { name := "quotaLends", fn := fun _ => fun
  | [d1, d2, d3, d4] => { results := [.lit (.bool true)], args := [d1, d2, d3, d4] }
  | _ => none }
def quotaLendsRow : OpenClaim := { program := "ythahgoopboilkaa", sum := "271a3555eea4ceb3cecd5cca9b7700a3c8effa7768762b41eb210cd2e291bc5c", func := "kerbside/kerbsidelaw45.QuotaLends", spec := "quotaLends", unfollowed := true, recurses := true, plainKeys := false, apart := false }
def QuotaLendsSaid : Prop := quotaLendsRow.holds Try.pinned (OpenSpec.ofChange quotaLendsSpec)

/-- ITS FALSE NEIGHBOUR: 'it returns false'. Refute it at one input. -/
def quotaLendsWrong : ChangeSpec := { name := "quotaLends", fn := fun _ => fun
  | [d1, d2, d3, d4] => { results := [.lit (.bool false)], args := [d1, d2, d3, d4] }
  | _ => none }
def QuotaLendsWrongFalsely : Prop := quotaLendsRow.holds Try.pinned (OpenSpec.ofChange quotaLendsWrong)

/- THE SECOND FORM. 'bulk': how many values and letters a reading holds, each counted each time it is reached (what is shared counts as often as it is met; a slice's spare places count too). A statement '..UptoSaid' is the law's where the arguments, and the package variables that the reading takes, are together of bulk at most 1048576: NARROWER than '..Said'. Prove '..Said' where nothing that the law and all that it calls make is longer than what came in: it says more and counts as full. Else prove '..UptoSaid'. A law counts once. -/
mutual
def uptoBulk {H : Type} : DataW H → Nat
  | .lit (.string bytes) => bytes.length + 1
  | .lit _ => 1
  | .nil => 1
  | .ptr d => uptoBulk d + 1
  | .slice elems spare => uptoBulkAll elems + uptoBulkAll spare + 1
  | .agg parts => uptoBulkAll parts + 1
  | .iface _ d => uptoBulk d + 1
  | .map entries => uptoBulkEntries entries + 1
  | .held _ => 1
def uptoBulkAll {H : Type} : List (DataW H) → Nat
  | [] => 0
  | d :: r => uptoBulk d + uptoBulkAll r
def uptoBulkEntries {H : Type} : List (Lit × DataW H) → Nat
  | [] => 0
  | x :: r => uptoBulkEntry x + uptoBulkEntries r
def uptoBulkEntry {H : Type} : Lit × DataW H → Nat
  | (.string bytes, d) => bytes.length + uptoBulk d + 1
  | (_, d) => uptoBulk d + 1
 end
def uptoSmall : (H : Type) → List (DataW H) → Bool := fun _ ds => decide (uptoBulkAll ds ≤ 1048576)
def OpenSpec.upto (s : _root_.Go.ChangeSpec) : _root_.Go.OpenSpec := { _root_.Go.OpenSpec.ofChange s with cond := some uptoSmall }

/-- 'kerbsidelaw45.QuotaTrades', WHERE WHAT IT READS IS OF BULK AT MOST 1048576: true; the input reads as it did. -/
def quotaTradesUptoRow : OpenClaim := { program := "ythahgoopboilkaa", sum := "271a3555eea4ceb3cecd5cca9b7700a3c8effa7768762b41eb210cd2e291bc5c", func := "kerbside/kerbsidelaw45.QuotaTrades", spec := "quotaTrades", unfollowed := true, recurses := true, plainKeys := false, apart := false, narrowed := true }
def QuotaTradesUptoSaid : Prop := quotaTradesUptoRow.holds Try.pinned (OpenSpec.upto quotaTradesSpec)

/-- 'kerbsidelaw45.QuotaTurns', WHERE WHAT IT READS IS OF BULK AT MOST 1048576: true; the input reads as it did. -/
def quotaTurnsUptoRow : OpenClaim := { program := "ythahgoopboilkaa", sum := "271a3555eea4ceb3cecd5cca9b7700a3c8effa7768762b41eb210cd2e291bc5c", func := "kerbside/kerbsidelaw45.QuotaTurns", spec := "quotaTurns", unfollowed := true, recurses := true, plainKeys := false, apart := false, narrowed := true }
def QuotaTurnsUptoSaid : Prop := quotaTurnsUptoRow.holds Try.pinned (OpenSpec.upto quotaTurnsSpec)

/-- 'kerbsidelaw45.QuotaLends', WHERE WHAT IT READS IS OF BULK AT MOST 1048576: true; the input reads as it did. -/
def quotaLendsUptoRow : OpenClaim := { program := "ythahgoopboilkaa", sum := "271a3555eea4ceb3cecd5cca9b7700a3c8effa7768762b41eb210cd2e291bc5c", func := "kerbside/kerbsidelaw45.QuotaLends", spec := "quotaLends", unfollowed := true, recurses := true, plainKeys := false, apart := false, narrowed := true }
def QuotaLendsUptoSaid : Prop := quotaLendsUptoRow.holds Try.pinned (OpenSpec.upto quotaLendsSpec)

end Rows
end Go.Proofs.Ythahgoopboilkaa
