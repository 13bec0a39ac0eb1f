/- What every seat's texts begin with. -/
import Derived.Test.YtpnlfkaijdjhlaaTab
import Derived.IntWalk
namespace Go.Proofs.Ytpnlfkaijdjhlaa
set_option linter.all false
open Go.Abs

def ic (n : Int) : List IV := [.int n]
def ints (l : List Int) : IV := .sl (l.map ic)
theorem i64_ok {n : Int} (h : -9223372036854775808 ≤ n ∧ n ≤ 9223372036854775807) : IntKind.i64.wrap n = n := IntWalk.i64_in n h
end Go.Proofs.Ytpnlfkaijdjhlaa
