/- Plain laws of the functions on numbers: what the program computes is what the reference computes. -/
import Derived.Test.YtfhnlkinjbakgaaGreatMsQmnop
import Derived.Test.YtfhnlkinjbakgaaGreatMsF4
set_option linter.unusedVariables false
set_option linter.unusedSimpArgs false
namespace Go.Proofs.YtfhnlkinjbakgaaGreat.Abs
open Go
theorem eq_SinAt (n : I64) : I_SinAt n = S_SinAt n:=by
  unfold I_SinAt S_SinAt
  simp only [bindP_e,eq_circleValue]
theorem eq_CosAt (n : I64) : I_CosAt n = S_CosAt n:=by
  unfold I_CosAt S_CosAt
  simp only [bindP_e,eq_circleValue]
end Go.Proofs.YtfhnlkinjbakgaaGreat.Abs
