/- Plain laws of the functions on numbers: what the program computes is what the reference computes. -/
import Derived.Test.YtcdkepbgjgcjfaaGreatDsQmnop
import Derived.Test.YtcdkepbgjgcjfaaGreatDsF3
set_option linter.unusedVariables false
set_option linter.unusedSimpArgs false
namespace Go.Proofs.YtcdkepbgjgcjfaaGreat.Abs
open Go

theorem eq_LonOf {p : Pt} (h : F_spec_l11Ok p = true) : F_impl_LonOf p = F_spec_RadiansOf p.lon := by
  unfold F_impl_LonOf
  simp only [bindP_e, eq_ValidPoint, h, Bool.not_true, cond_f, eq_RadiansOf]

theorem eq_vectorOf {p : Pt} (h : F_spec_l11Ok p = true) : F_impl_vectorOf p = F_spec_l15Vec p := by
  unfold F_impl_vectorOf F_spec_l15Vec
  simp only [bindP_e, eq_LatOf h, eq_LonOf h, eq_CosI, eq_SinI, eq_MulI]

theorem eq_AngleBetween (p q : Pt) : F_impl_AngleBetween p q = F_spec_AngleBetween p q := by
  unfold F_impl_AngleBetween F_spec_AngleBetween F_spec_l15Angle F_impl_areValid
  simp only [bindP_e, eq_ValidPoint]
  cases h1 : F_spec_l11Ok p with
  | false => simp only [Bool.not_false, cond_t, cond_f]
  | true =>
    cases h2 : F_spec_l11Ok q with
    | false => simp only [Bool.not_false, Bool.not_true, cond_t, cond_f]
    | true => simp only [Bool.not_true, cond_t, cond_f, eq_vectorOf h1, eq_vectorOf h2, eq_CrossV, eq_NormV, eq_DotV, eq_DirectionI, eq_knownI]

/-- A projected point is valid. -/
def V (q : Pt) (r : Pn × I64) : Prop := (r.2.val != 0) = false → F_spec_l11Ok q = true

def nr (m : Int) (x : I64) : Prop := -m ≤ x.val ∧ x.val ≤ m

end Go.Proofs.YtcdkepbgjgcjfaaGreat.Abs
