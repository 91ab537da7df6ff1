/- The abstract machine: structs of whole numbers, however nested, compared. -/
import Derived.Test.YtcdkepbgjgcjfaaGreatTsAbs9
namespace Go.Proofs.YtcdkepbgjgcjfaaGreat.Abs
open Go Go.RowKit
variable {P : Program}
end Go.Proofs.YtcdkepbgjgcjfaaGreat.Abs
