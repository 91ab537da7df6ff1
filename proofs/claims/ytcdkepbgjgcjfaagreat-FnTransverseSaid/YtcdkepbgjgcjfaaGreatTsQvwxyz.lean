/- Plain laws of the functions on numbers: what the program computes is what the reference computes. -/
import Derived.Test.YtcdkepbgjgcjfaaGreatTsQstu
import Derived.Test.YtcdkepbgjgcjfaaGreatTsFx
set_option linter.unusedVariables false
set_option linter.unusedSimpArgs false
namespace Go.Proofs.YtcdkepbgjgcjfaaGreat.Abs
open Go
def N3 (c : I64) : Prop:=(c.val == 3) = false
def P2 (r : Pn × I64) : Prop:=N3 r.2
def V (q : Pt) (r : Pn × I64) : Prop:=(r.2.val != 0) = false → S_l11Ok q = true
def nr (m : Int) (x : I64) : Prop:=-m ≤ x.val ∧ x.val ≤ m
end Go.Proofs.YtcdkepbgjgcjfaaGreat.Abs
