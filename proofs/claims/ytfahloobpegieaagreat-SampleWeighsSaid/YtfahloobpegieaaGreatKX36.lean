/- A part of the proof. No further condition. -/
import Derived.Test.YtfahloobpegieaaGreatKX16
set_option linter.all false
set_option maxRecDepth 100000
namespace Go.Proofs.YtfahloobpegieaaGreat
section
open Go.Abs
attribute [local go_sem] Evid.iv Evid.c Place.c Move.c Cert.c Recall.c Purity.c Sample.c Recipe.c ints ic
end
end Go.Proofs.YtfahloobpegieaaGreat
