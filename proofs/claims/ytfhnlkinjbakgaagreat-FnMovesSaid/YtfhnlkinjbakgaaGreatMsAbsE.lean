/- The abstract machine: structs of whole numbers, however nested, compared. -/
import Derived.Test.YtfhnlkinjbakgaaGreatMsAbs9
namespace Go.Proofs.YtfhnlkinjbakgaaGreat.Abs
open Go Go.RowKit
variable {P : Program}
end Go.Proofs.YtfhnlkinjbakgaaGreat.Abs
