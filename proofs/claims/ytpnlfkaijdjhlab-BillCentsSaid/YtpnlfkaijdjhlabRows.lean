/-
  No cell of these rows narrows 'for every input' (looked for: loops, veiled, ifaces, maps, wideKeys, modest, calm, conditions, laid).
  DERIVED. THE GIVEN ROWS OF THIS SEAT. 4 by the template 'for every input the law returns true; each argument reads behind the call as it read before'; 0 by the template 'total and deterministic' (their statements: YtpnlfkaijdjhlabTotals.lean).
  GIVEN WITH THE SEED: the statements are not yours to turn. If you find one false, say at which input.
  Laid BY PROGRAM, IN A SANDBOX (cutbox-rows.mjs): the forced cells as the released guide's own fill.sh prints them over the translation 94912c7865db5258… (all of the seat's roots in one cut). By AI agents, Wed Nov 11 2026. No macro, syntax, notation, axiom, sorry.
-/
import Derived.Test.YtpnlfkaijdjhlabChecked
import GoSem.Claim
import GoSem.ClaimJoined
import GoSem.ClaimMapViews
import Derived.JoinedTies
import Derived.KernelRfl
namespace Go.Proofs.Ytpnlfkaijdjhlab
/- THE CELL 'sum', in the pinned program and in every row, IS THE sha256 OF THE DUMP (.gsa) THAT YtpnlfkaijdjhlabProg.lean LOADS. Nothing in Lean hashes anything: it is a label: what it is worth is what the hold of that sum in a sandbox is worth. -/
noncomputable def Try.pinned : Pinned := { name := "ytpnlfkaijdjhlab", sum := "94912c7865db52589d42b0b5ed44dea659d0427afd0855226486fa3ee0374d2e", checked := Try.checked }
namespace Rows
def none {H : Type} : Left H := { results := [], args := [] }

/-- 'kerbsidelaw39.BillTells': WHATEVER THE INPUT: true; the input reads as it did. -/
def billTellsSpec : ChangeSpec := { name := "billTells", fn := fun _ => fun
  | [d1, d2, d3, d4, d5, d6, d7] => { results := [.lit (.bool true)], args := [d1, d2, d3, d4, d5, d6, d7] }
  | _ => none }
def billTellsRow : OpenClaim := { program := "ytpnlfkaijdjhlab", sum := "94912c7865db52589d42b0b5ed44dea659d0427afd0855226486fa3ee0374d2e", func := "kerbside/kerbsidelaw39.BillTells", spec := "billTells", plainKeys := false, apart := false }
def BillTellsSaid : Prop := billTellsRow.holds Try.pinned (OpenSpec.ofChange billTellsSpec)

/-- ITS FALSE NEIGHBOUR: 'it returns false'. Refute it at one input. -/
def billTellsWrong : ChangeSpec := { name := "billTells", fn := fun _ => fun
  | [d1, d2, d3, d4, d5, d6, d7] => { results := [.lit (.bool false)], args := [d1, d2, d3, d4, d5, d6, d7] }
  | _ => none }
def BillTellsWrongFalsely : Prop := billTellsRow.holds Try.pinned (OpenSpec.ofChange billTellsWrong)

/-- 'kerbsidelaw39.BillPosts': WHATEVER THE INPUT: true; the input reads as it did. -/
def billPostsSpec : ChangeSpec := { name := "billPosts", fn := fun _ => fun
  | [d1, d2, d3, d4, d5, d6] => { results := [.lit (.bool true)], args := [d1, d2, d3, d4, d5, d6] }
  | _ => none }
def billPostsRow : OpenClaim := { program := "ytpnlfkaijdjhlab", sum := "94912c7865db52589d42b0b5ed44dea659d0427afd0855226486fa3ee0374d2e", func := "kerbside/kerbsidelaw39.BillPosts", spec := "billPosts", plainKeys := false, apart := false }
def BillPostsSaid : Prop := billPostsRow.holds Try.pinned (OpenSpec.ofChange billPostsSpec)

/-- ITS FALSE NEIGHBOUR: 'it returns false'. Refute it at one input. -/
def billPostsWrong : ChangeSpec := { name := "billPosts", fn := fun _ => fun
  | [d1, d2, d3, d4, d5, d6] => { results := [.lit (.bool false)], args := [d1, d2, d3, d4, d5, d6] }
  | _ => none }
def BillPostsWrongFalsely : Prop := billPostsRow.holds Try.pinned (OpenSpec.ofChange billPostsWrong)

/-- 'kerbsidelaw39.BillCents': WHATEVER THE INPUT: true; the input reads as it did. -/
def billCentsSpec : ChangeSpec := { name := "billCents", fn := fun _ => fun
  | [d1, d2, d3, d4] => { results := [.lit (.bool true)], args := [d1, d2, d3, d4] }
  | _ => none }
def billCentsRow : OpenClaim := { program := "ytpnlfkaijdjhlab", sum := "94912c7865db52589d42b0b5ed44dea659d0427afd0855226486fa3ee0374d2e", func := "kerbside/kerbsidelaw39.BillCents", spec := "billCents", plainKeys := false, apart := false }
def BillCentsSaid : Prop := billCentsRow.holds Try.pinned (OpenSpec.ofChange billCentsSpec)

/-- ITS FALSE NEIGHBOUR: 'it returns false'. Refute it at one input. -/
def billCentsWrong : ChangeSpec := { name := "billCents", fn := fun _ => fun
  | [d1, d2, d3, d4] => { results := [.lit (.bool false)], args := [d1, d2, d3, d4] }
  | _ => none }
def BillCentsWrongFalsely : Prop := billCentsRow.holds Try.pinned (OpenSpec.ofChange billCentsWrong)

/-- 'kerbsidelaw45.QuotaTrades': WHATEVER THE INPUT: true; the input reads as it did. -/
def quotaTradesSpec : ChangeSpec := { name := "quotaTrades", fn := fun _ => fun
  | [d1, d2, d3, d4, d5, d6] => { results := [.lit (.bool true)], args := [d1, d2, d3, d4, d5, d6] }
  | _ => none }
def quotaTradesRow : OpenClaim := { program := "ytpnlfkaijdjhlab", sum := "94912c7865db52589d42b0b5ed44dea659d0427afd0855226486fa3ee0374d2e", func := "kerbside/kerbsidelaw45.QuotaTrades", spec := "quotaTrades", unfollowed := true, recurses := true, plainKeys := false, apart := false }
def QuotaTradesSaid : Prop := quotaTradesRow.holds Try.pinned (OpenSpec.ofChange quotaTradesSpec)

/-- ITS FALSE NEIGHBOUR: 'it returns false'. Refute it at one input. -/
def quotaTradesWrong : ChangeSpec := { name := "quotaTrades", fn := fun _ => fun
  | [d1, d2, d3, d4, d5, d6] => { results := [.lit (.bool false)], args := [d1, d2, d3, d4, d5, d6] }
  | _ => none }
def QuotaTradesWrongFalsely : Prop := quotaTradesRow.holds Try.pinned (OpenSpec.ofChange quotaTradesWrong)

/- THE SECOND FORM. 'bulk': how many values and letters a reading holds, each counted each time it is reached (what is shared counts as often as it is met; a slice's spare places count too). A statement '..UptoSaid' is the law's where the arguments, and the package variables that the reading takes, are together of bulk at most 1048576: NARROWER than '..Said'. Prove '..Said' where nothing that the law and all that it calls make is longer than what came in: it says more and counts as full. Else prove '..UptoSaid'. A law counts once. -/
mutual
def uptoBulk {H : Type} : DataW H → Nat
  | .lit (.string bytes) => bytes.length + 1
  | .lit _ => 1
  | .nil => 1
  | .ptr d => uptoBulk d + 1
  | .slice elems spare => uptoBulkAll elems + uptoBulkAll spare + 1
  | .agg parts => uptoBulkAll parts + 1
  | .iface _ d => uptoBulk d + 1
  | .map entries => uptoBulkEntries entries + 1
  | .held _ => 1
def uptoBulkAll {H : Type} : List (DataW H) → Nat
  | [] => 0
  | d :: r => uptoBulk d + uptoBulkAll r
def uptoBulkEntries {H : Type} : List (Lit × DataW H) → Nat
  | [] => 0
  | x :: r => uptoBulkEntry x + uptoBulkEntries r
def uptoBulkEntry {H : Type} : Lit × DataW H → Nat
  | (.string bytes, d) => bytes.length + uptoBulk d + 1
  | (_, d) => uptoBulk d + 1
 end
def uptoSmall : (H : Type) → List (DataW H) → Bool := fun _ ds => decide (uptoBulkAll ds ≤ 1048576)
def OpenSpec.upto (s : _root_.Go.ChangeSpec) : _root_.Go.OpenSpec := { _root_.Go.OpenSpec.ofChange s with cond := some uptoSmall }

/-- 'kerbsidelaw39.BillTells', WHERE WHAT IT READS IS OF BULK AT MOST 1048576: true; the input reads as it did. -/
def billTellsUptoRow : OpenClaim := { program := "ytpnlfkaijdjhlab", sum := "94912c7865db52589d42b0b5ed44dea659d0427afd0855226486fa3ee0374d2e", func := "kerbside/kerbsidelaw39.BillTells", spec := "billTells", plainKeys := false, apart := false, narrowed := true }
def BillTellsUptoSaid : Prop := billTellsUptoRow.holds Try.pinned (OpenSpec.upto billTellsSpec)

/-- 'kerbsidelaw39.BillPosts', WHERE WHAT IT READS IS OF BULK AT MOST 1048576: true; the input reads as it did. -/
def billPostsUptoRow : OpenClaim := { program := "ytpnlfkaijdjhlab", sum := "94912c7865db52589d42b0b5ed44dea659d0427afd0855226486fa3ee0374d2e", func := "kerbside/kerbsidelaw39.BillPosts", spec := "billPosts", plainKeys := false, apart := false, narrowed := true }
def BillPostsUptoSaid : Prop := billPostsUptoRow.holds Try.pinned (OpenSpec.upto billPostsSpec)

/-- 'kerbsidelaw39.BillCents', WHERE WHAT IT READS IS OF BULK AT MOST 1048576: true; the input reads as it did. -/
def billCentsUptoRow : OpenClaim := { program := "ytpnlfkaijdjhlab", sum := "94912c7865db52589d42b0b5ed44dea659d0427afd0855226486fa3ee0374d2e", func := "kerbside/kerbsidelaw39.BillCents", spec := "billCents", plainKeys := false, apart := false, narrowed := true }
def BillCentsUptoSaid : Prop := billCentsUptoRow.holds Try.pinned (OpenSpec.upto billCentsSpec)

/-- 'kerbsidelaw45.QuotaTrades', WHERE WHAT IT READS IS OF BULK AT MOST 1048576: true; the input reads as it did. -/
def quotaTradesUptoRow : OpenClaim := { program := "ytpnlfkaijdjhlab", sum := "94912c7865db52589d42b0b5ed44dea659d0427afd0855226486fa3ee0374d2e", func := "kerbside/kerbsidelaw45.QuotaTrades", spec := "quotaTrades", unfollowed := true, recurses := true, plainKeys := false, apart := false, narrowed := true }
def QuotaTradesUptoSaid : Prop := quotaTradesUptoRow.holds Try.pinned (OpenSpec.upto quotaTradesSpec)

end Rows
end Go.Proofs.Ytpnlfkaijdjhlab
