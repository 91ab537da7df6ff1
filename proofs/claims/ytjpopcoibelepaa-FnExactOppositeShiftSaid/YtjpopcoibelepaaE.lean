/- Which structs the program compares. -/
import Derived.Test.YtjpopcoibelepaaAbsR
import Derived.Test.YtjpopcoibelepaaProg
set_option linter.unusedVariables false
set_option linter.unusedSimpArgs false
namespace Go.Proofs.Ytjpopcoibelepaa.Abs
open Go Go.RowKit

def E : Eqs := fun T x y => none
theorem E_ok : EqsOk Try.prog E := fun T x y b h => by
  unfold E at h
  cases h
theorem mixed : Try.prog.follows .mixedOrders = true := by kernel_rfl

end Go.Proofs.Ytjpopcoibelepaa.Abs
