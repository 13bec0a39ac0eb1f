/- A part of the proof. No further condition. -/
import Derived.Test.YtgncgpfjldefpaaGreatKR41
set_option linter.all false
set_option maxRecDepth 10000000
set_option maxHeartbeats 16000000
namespace Go.Proofs.YtgncgpfjldefpaaGreat
section
open Go.Abs
open Go.LP (Dic Rw RT Ov OvRw tsum Sol IsMin NoMin Bds)
attribute [local go_sem] ints ic big frac fc zc
