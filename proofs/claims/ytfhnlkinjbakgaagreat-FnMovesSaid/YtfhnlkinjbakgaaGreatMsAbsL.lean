/- A law's arguments: what a struct of whole numbers is when it comes in. -/
import Derived.Test.YtfhnlkinjbakgaaGreatMsAbsR
import Derived.WalkKit
import Derived.ProofKit
import Derived.OpenShut
import Derived.ShutString
import Derived.ChangeOld
import Derived.Below
import Derived.SizedLaws
namespace Go.Proofs.YtfhnlkinjbakgaaGreat.Abs
open Go Go.RowKit
end Go.Proofs.YtfhnlkinjbakgaaGreat.Abs
