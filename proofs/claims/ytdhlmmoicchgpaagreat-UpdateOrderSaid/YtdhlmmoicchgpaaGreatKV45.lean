/- A part of the proof. No further condition. -/
import Derived.Test.YtdhlmmoicchgpaaGreatKV44
set_option linter.all false
set_option maxRecDepth 10000000
set_option maxHeartbeats 16000000
namespace Go.Proofs.YtdhlmmoicchgpaaGreat
section
open Go.Abs
attribute [local go_sem] ints ic Stp.cl Move.c Cert.c Recall.c Purity.c
section
variable{e:Evid}{qs:List (List (Int×Int))}{xs:List Stp}{a:List (Int×Int)}
