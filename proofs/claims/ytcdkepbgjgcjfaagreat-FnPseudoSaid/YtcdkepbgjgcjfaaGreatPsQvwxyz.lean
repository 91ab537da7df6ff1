/- Plain laws of the functions on numbers: what the program computes is what the reference computes. -/
import Derived.Test.YtcdkepbgjgcjfaaGreatPsQmnop
import Derived.Test.YtcdkepbgjgcjfaaGreatPsFx
set_option linter.unusedVariables false
set_option linter.unusedSimpArgs false
namespace Go.Proofs.YtcdkepbgjgcjfaaGreat.Abs
open Go

def nr (m : Int) (x : I64) : Prop := -m ≤ x.val ∧ x.val ≤ m

end Go.Proofs.YtcdkepbgjgcjfaaGreat.Abs
