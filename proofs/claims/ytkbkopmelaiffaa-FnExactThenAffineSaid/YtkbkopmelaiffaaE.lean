/- Which structs the program compares. -/
import Derived.Test.YtkbkopmelaiffaaAbsR
import Derived.Test.YtkbkopmelaiffaaProg
set_option linter.unusedVariables false
set_option linter.unusedSimpArgs false
namespace Go.Proofs.Ytkbkopmelaiffaa.Abs
open Go Go.RowKit

def E : Eqs := fun T x y => if T = 93 then eq2 .i64 .u64 x y else none
theorem E_ok : EqsOk Try.prog E := fun T x y b h => by
  unfold E at h
  split at h
  · rename_i e; subst e; exact fun ox oy w => eq2_ok (by kernel_rfl) h ox oy w
  cases h
theorem mixed : Try.prog.follows .mixedOrders = true := by kernel_rfl

end Go.Proofs.Ytkbkopmelaiffaa.Abs
