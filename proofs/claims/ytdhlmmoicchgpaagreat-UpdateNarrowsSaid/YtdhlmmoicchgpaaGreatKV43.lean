/- A part of the proof. No further condition. -/
import Derived.Test.YtdhlmmoicchgpaaGreatKV42
set_option linter.all false
set_option maxRecDepth 10000000
set_option maxHeartbeats 16000000
namespace Go.Proofs.YtdhlmmoicchgpaaGreat
section
open Go.Abs
attribute [local go_sem] Evid.iv Evid.c ints ic
section
variable{L:Abs.Rows}{A Q B:Nat}{e:Evid}{qs:List (List (Int×Int))}{a:List (Int×Int)}{p:Bool}{x y:IV}{c:List IV}
