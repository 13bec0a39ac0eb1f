/- A part of the proof. No further condition. -/
import Derived.Test.YtjcjcpebocbonaaGreatKY47
set_option linter.all false
set_option maxRecDepth 10000000
set_option maxHeartbeats 16000000
namespace Go.Proofs.YtjcjcpebocbonaaGreat
section
set_option maxRecDepth 1000000
open Go.Abs
attribute [local go_sem] ints ic Bat.c Pap.c Led.c bl
