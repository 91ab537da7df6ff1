/- Plain laws of the functions on numbers: what the program computes is what the reference computes. -/
import Derived.Test.YtfhnlkinjbakgaaGreatMsQqr
import Derived.Test.YtfhnlkinjbakgaaGreatMsF4
set_option linter.unusedVariables false
set_option linter.unusedSimpArgs false
namespace Go.Proofs.YtfhnlkinjbakgaaGreat.Abs
open Go
theorem spec_whole (x : Iv) : S_IsWhole x = !S_l04Ok x:=by
  unfold S_IsWhole
  simp only [bindP_e]
theorem l11_of {p : Pt} (h : -900000000 ≤ p.lat.val ∧ p.lat.val ≤ 900000000 ∧ -1800000000 < p.lon.val ∧ p.lon.val ≤ 1800000000) : S_l11Ok p = true:=by
  unfold S_l11Ok
  simp only [bindP_e,sp_in,c64_v]
  rw [decide_eq_true h.1,decide_eq_true h.2.1,decide_eq_true (by omega : -1799999999 ≤ p.lon.val),decide_eq_true h.2.2.2]
  rfl
end Go.Proofs.YtfhnlkinjbakgaaGreat.Abs
