/- The abstract machine: structs of whole numbers, however nested, compared. -/
import Derived.Test.YtbipmdgocmdgdaaGreatCsAbs9
namespace Go.Proofs.YtbipmdgocmdgdaaGreat.Abs
open Go Go.RowKit
variable {P : Program}
end Go.Proofs.YtbipmdgocmdgdaaGreat.Abs
