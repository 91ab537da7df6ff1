/- Plain laws of the functions on numbers: what the program computes is what the reference computes. -/
import Derived.Test.YtfhnlkinjbakgaaGreatMsReal
import Derived.Test.YtfhnlkinjbakgaaGreatMsQzlzmznzo
import Derived.Test.YtfhnlkinjbakgaaGreatMsF4
set_option linter.unusedVariables false
set_option linter.unusedSimpArgs false
namespace Go.Proofs.YtfhnlkinjbakgaaGreat.Abs
open Go
def Bd (N : Int) (z : Iv) : Prop:=S_l04Ok z = true ∧ -N ≤ z.lo.val ∧ z.hi.val ≤ N
def Bo (N : Int) (z : Iv) : Prop:=S_l04Ok z = true → -N ≤ z.lo.val ∧ z.hi.val ≤ N
theorem Bo.whole (N : Int) : Bo N S_l04Whole:=fun h=>absurd h (by decide)
end Go.Proofs.YtfhnlkinjbakgaaGreat.Abs
