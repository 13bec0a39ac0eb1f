/-
  No cell of these rows narrows 'for every input' (looked for: loops, veiled, ifaces, maps, wideKeys, modest, calm, conditions, laid).
  DERIVED. THE GIVEN ROWS OF THIS SEAT. 4 by the template 'for every input the law returns true; each argument reads behind the call as it read before'; 0 by the template 'total and deterministic' (their statements: YtpnlfkaijdjhlaaTotals.lean).
  GIVEN WITH THE SEED: the statements are not yours to turn. If you find one false, say at which input.
  Laid BY PROGRAM, IN A SANDBOX (cutbox-rows.mjs): the forced cells as the released guide's own fill.sh prints them over the translation bc5ff59a497d29fc… (all of the seat's roots in one cut). By AI agents, Wed Nov 11 2026. No macro, syntax, notation, axiom, sorry.
-/
import Derived.Test.YtpnlfkaijdjhlaaChecked
import GoSem.Claim
import GoSem.ClaimJoined
import GoSem.ClaimMapViews
import Derived.JoinedTies
import Derived.KernelRfl
namespace Go.Proofs.Ytpnlfkaijdjhlaa
/- THE CELL 'sum', in the pinned program and in every row, IS THE sha256 OF THE DUMP (.gsa) THAT YtpnlfkaijdjhlaaProg.lean LOADS. Nothing in Lean hashes anything: it is a label: what it is worth is what the hold of that sum in a sandbox is worth. -/
noncomputable def Try.pinned : Pinned := { name := "ytpnlfkaijdjhlaa", sum := "bc5ff59a497d29fc0ff33398e71ff151ac3b2f05fee8466205bf9563826c2d1d", checked := Try.checked }
namespace Rows
def none {H : Type} : Left H := { results := [], args := [] }

/-- 'kerbsidelaw19.SampleTells': WHATEVER THE INPUT: true; the input reads as it did. -/
def sampleTellsSpec : ChangeSpec := { name := "sampleTells", fn := fun _ => fun
  | [d1, d2, d3, d4] => { results := [.lit (.bool true)], args := [d1, d2, d3, d4] }
  | _ => none }
def sampleTellsRow : OpenClaim := { program := "ytpnlfkaijdjhlaa", sum := "bc5ff59a497d29fc0ff33398e71ff151ac3b2f05fee8466205bf9563826c2d1d", func := "kerbside/kerbsidelaw19.SampleTells", spec := "sampleTells", unfollowed := true, recurses := true, apart := false }
def SampleTellsSaid : Prop := sampleTellsRow.holds Try.pinned (OpenSpec.ofChange sampleTellsSpec)

/-- ITS FALSE NEIGHBOUR: 'it returns false'. Refute it at one input. -/
def sampleTellsWrong : ChangeSpec := { name := "sampleTells", fn := fun _ => fun
  | [d1, d2, d3, d4] => { results := [.lit (.bool false)], args := [d1, d2, d3, d4] }
  | _ => none }
def SampleTellsWrongFalsely : Prop := sampleTellsRow.holds Try.pinned (OpenSpec.ofChange sampleTellsWrong)

/-- 'kerbsidelaw19.SampleShares': WHATEVER THE INPUT: true; the input reads as it did. -/
def sampleSharesSpec : ChangeSpec := { name := "sampleShares", fn := fun _ => fun
  | [d1, d2] => { results := [.lit (.bool true)], args := [d1, d2] }
  | _ => none }
def sampleSharesRow : OpenClaim := { program := "ytpnlfkaijdjhlaa", sum := "bc5ff59a497d29fc0ff33398e71ff151ac3b2f05fee8466205bf9563826c2d1d", func := "kerbside/kerbsidelaw19.SampleShares", spec := "sampleShares", unfollowed := true, recurses := true, apart := false }
def SampleSharesSaid : Prop := sampleSharesRow.holds Try.pinned (OpenSpec.ofChange sampleSharesSpec)

/-- ITS FALSE NEIGHBOUR: 'it returns false'. Refute it at one input. -/
def sampleSharesWrong : ChangeSpec := { name := "sampleShares", fn := fun _ => fun
  | [d1, d2] => { results := [.lit (.bool false)], args := [d1, d2] }
  | _ => none }
def SampleSharesWrongFalsely : Prop := sampleSharesRow.holds Try.pinned (OpenSpec.ofChange sampleSharesWrong)

/-- 'kerbsidelaw19.SampleSlack': WHATEVER THE INPUT: true; the input reads as it did. -/
def sampleSlackSpec : ChangeSpec := { name := "sampleSlack", fn := fun _ => fun
  | [d1, d2] => { results := [.lit (.bool true)], args := [d1, d2] }
  | _ => none }
def sampleSlackRow : OpenClaim := { program := "ytpnlfkaijdjhlaa", sum := "bc5ff59a497d29fc0ff33398e71ff151ac3b2f05fee8466205bf9563826c2d1d", func := "kerbside/kerbsidelaw19.SampleSlack", spec := "sampleSlack", unfollowed := true, recurses := true, apart := false }
def SampleSlackSaid : Prop := sampleSlackRow.holds Try.pinned (OpenSpec.ofChange sampleSlackSpec)

/-- ITS FALSE NEIGHBOUR: 'it returns false'. Refute it at one input. -/
def sampleSlackWrong : ChangeSpec := { name := "sampleSlack", fn := fun _ => fun
  | [d1, d2] => { results := [.lit (.bool false)], args := [d1, d2] }
  | _ => none }
def SampleSlackWrongFalsely : Prop := sampleSlackRow.holds Try.pinned (OpenSpec.ofChange sampleSlackWrong)

/-- 'kerbsidelaw19.SampleRecipes': WHATEVER THE INPUT: true; the input reads as it did. -/
def sampleRecipesSpec : ChangeSpec := { name := "sampleRecipes", fn := fun _ => fun
  | [d1, d2] => { results := [.lit (.bool true)], args := [d1, d2] }
  | _ => none }
def sampleRecipesRow : OpenClaim := { program := "ytpnlfkaijdjhlaa", sum := "bc5ff59a497d29fc0ff33398e71ff151ac3b2f05fee8466205bf9563826c2d1d", func := "kerbside/kerbsidelaw19.SampleRecipes", spec := "sampleRecipes", unfollowed := true, recurses := true, apart := false }
def SampleRecipesSaid : Prop := sampleRecipesRow.holds Try.pinned (OpenSpec.ofChange sampleRecipesSpec)

/-- ITS FALSE NEIGHBOUR: 'it returns false'. Refute it at one input. -/
def sampleRecipesWrong : ChangeSpec := { name := "sampleRecipes", fn := fun _ => fun
  | [d1, d2] => { results := [.lit (.bool false)], args := [d1, d2] }
  | _ => none }
def SampleRecipesWrongFalsely : Prop := sampleRecipesRow.holds Try.pinned (OpenSpec.ofChange sampleRecipesWrong)

/- THE SECOND FORM. 'bulk': how many values and letters a reading holds, each counted each time it is reached (what is shared counts as often as it is met; a slice's spare places count too). A statement '..UptoSaid' is the law's where the arguments, and the package variables that the reading takes, are together of bulk at most 1048576: NARROWER than '..Said'. Prove '..Said' where nothing that the law and all that it calls make is longer than what came in: it says more and counts as full. Else prove '..UptoSaid'. A law counts once. -/
mutual
def uptoBulk {H : Type} : DataW H → Nat
  | .lit (.string bytes) => bytes.length + 1
  | .lit _ => 1
  | .nil => 1
  | .ptr d => uptoBulk d + 1
  | .slice elems spare => uptoBulkAll elems + uptoBulkAll spare + 1
  | .agg parts => uptoBulkAll parts + 1
  | .iface _ d => uptoBulk d + 1
  | .map entries => uptoBulkEntries entries + 1
  | .held _ => 1
def uptoBulkAll {H : Type} : List (DataW H) → Nat
  | [] => 0
  | d :: r => uptoBulk d + uptoBulkAll r
def uptoBulkEntries {H : Type} : List (Lit × DataW H) → Nat
  | [] => 0
  | x :: r => uptoBulkEntry x + uptoBulkEntries r
def uptoBulkEntry {H : Type} : Lit × DataW H → Nat
  | (.string bytes, d) => bytes.length + uptoBulk d + 1
  | (_, d) => uptoBulk d + 1
 end
def uptoSmall : (H : Type) → List (DataW H) → Bool := fun _ ds => decide (uptoBulkAll ds ≤ 1048576)
def OpenSpec.upto (s : _root_.Go.ChangeSpec) : _root_.Go.OpenSpec := { _root_.Go.OpenSpec.ofChange s with cond := some uptoSmall }

/-- 'kerbsidelaw19.SampleTells', WHERE WHAT IT READS IS OF BULK AT MOST 1048576: true; the input reads as it did. -/
def sampleTellsUptoRow : OpenClaim := { program := "ytpnlfkaijdjhlaa", sum := "bc5ff59a497d29fc0ff33398e71ff151ac3b2f05fee8466205bf9563826c2d1d", func := "kerbside/kerbsidelaw19.SampleTells", spec := "sampleTells", unfollowed := true, recurses := true, apart := false, narrowed := true }
def SampleTellsUptoSaid : Prop := sampleTellsUptoRow.holds Try.pinned (OpenSpec.upto sampleTellsSpec)

/-- 'kerbsidelaw19.SampleShares', WHERE WHAT IT READS IS OF BULK AT MOST 1048576: true; the input reads as it did. -/
def sampleSharesUptoRow : OpenClaim := { program := "ytpnlfkaijdjhlaa", sum := "bc5ff59a497d29fc0ff33398e71ff151ac3b2f05fee8466205bf9563826c2d1d", func := "kerbside/kerbsidelaw19.SampleShares", spec := "sampleShares", unfollowed := true, recurses := true, apart := false, narrowed := true }
def SampleSharesUptoSaid : Prop := sampleSharesUptoRow.holds Try.pinned (OpenSpec.upto sampleSharesSpec)

/-- 'kerbsidelaw19.SampleSlack', WHERE WHAT IT READS IS OF BULK AT MOST 1048576: true; the input reads as it did. -/
def sampleSlackUptoRow : OpenClaim := { program := "ytpnlfkaijdjhlaa", sum := "bc5ff59a497d29fc0ff33398e71ff151ac3b2f05fee8466205bf9563826c2d1d", func := "kerbside/kerbsidelaw19.SampleSlack", spec := "sampleSlack", unfollowed := true, recurses := true, apart := false, narrowed := true }
def SampleSlackUptoSaid : Prop := sampleSlackUptoRow.holds Try.pinned (OpenSpec.upto sampleSlackSpec)

/-- 'kerbsidelaw19.SampleRecipes', WHERE WHAT IT READS IS OF BULK AT MOST 1048576: true; the input reads as it did. -/
def sampleRecipesUptoRow : OpenClaim := { program := "ytpnlfkaijdjhlaa", sum := "bc5ff59a497d29fc0ff33398e71ff151ac3b2f05fee8466205bf9563826c2d1d", func := "kerbside/kerbsidelaw19.SampleRecipes", spec := "sampleRecipes", unfollowed := true, recurses := true, apart := false, narrowed := true }
def SampleRecipesUptoSaid : Prop := sampleRecipesUptoRow.holds Try.pinned (OpenSpec.upto sampleRecipesSpec)

end Rows
end Go.Proofs.Ytpnlfkaijdjhlaa
