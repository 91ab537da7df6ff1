/- The functions, on numbers; part 4 (written by w.py). -/
import Derived.Test.YtcdkepbgjgcjfaaGreatPsF3
set_option linter.unusedVariables false
set_option linter.unusedSimpArgs false
namespace Go.Proofs.YtcdkepbgjgcjfaaGreat.Abs
open Go Go.RowKit


end Go.Proofs.YtcdkepbgjgcjfaaGreat.Abs
