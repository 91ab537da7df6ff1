/- Plain laws of the functions on numbers: what the program computes is what the reference computes. -/
import Derived.Test.YtjbdilphncpceaaGreatQv
import Derived.Test.YtjbdilphncpceaaGreatF5
set_option linter.unusedVariables false
set_option linter.unusedSimpArgs false
namespace Go.Proofs.YtjbdilphncpceaaGreat.Abs
open Go

theorem eq_FamilyOf (k : I64) : F_impl_FamilyOf k = F_spec_l22Family k := by
  unfold F_impl_FamilyOf F_spec_l22Family F_impl_isCylindrical F_impl_isAzimuthal F_impl_isConic F_impl_isPseudo
  simp only [bindP_e, eq_in]

end Go.Proofs.YtjbdilphncpceaaGreat.Abs
