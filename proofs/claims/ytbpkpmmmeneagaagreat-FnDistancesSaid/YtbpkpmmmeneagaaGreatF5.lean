/- The functions, on numbers; part 5 (written by w.py). -/
import Derived.Test.YtbpkpmmmeneagaaGreatF4
set_option linter.unusedVariables false
set_option linter.unusedSimpArgs false
namespace Go.Proofs.YtbpkpmmmeneagaaGreat.Abs
open Go Go.RowKit






end Go.Proofs.YtbpkpmmmeneagaaGreat.Abs
