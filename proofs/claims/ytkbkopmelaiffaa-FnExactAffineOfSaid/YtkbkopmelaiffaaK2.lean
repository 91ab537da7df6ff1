/- The program's functions are these; part 2 (written by w.py). -/
import Derived.Test.YtkbkopmelaiffaaK1
import Derived.Test.YtkbkopmelaiffaaF2
set_option linter.unusedVariables false
set_option linter.unusedSimpArgs false
namespace Go.Proofs.Ytkbkopmelaiffaa.Abs
open Go Go.RowKit

theorem ok_impl_dividedV (a0 : Vc) (a1 : Iv) : Fun Try.prog 63 [] #[vVc a0, vIv a1] (vVc (F_impl_dividedV a0 a1)) [] := by
  refine Fun.ofH 400 E_ok mixed Try.func63 (by kernel_rfl) (by kernel_rfl) ?_
  unfold F_impl_dividedV
  refine Run.bH (e := vIv) (gv := vVc) (by kernel_rfl) (by kernel_rfl) (ok_impl_DivI _ _) (fun _ => rfl) fun r1 => ?_
  refine Run.bH (e := vIv) (gv := vVc) (by kernel_rfl) (by kernel_rfl) (ok_impl_DivI _ _) (fun _ => rfl) fun r2 => ?_
  refine Run.bH (e := vIv) (gv := vVc) (by kernel_rfl) (by kernel_rfl) (ok_impl_DivI _ _) (fun _ => rfl) fun r3 => ?_
  exact Run.rh (k := 0) (by kernel_rfl) (by kernel_rfl)

theorem ok_impl_InverseM (a0 : Mt) : Fun Try.prog 36 [] #[vMt a0] (vT_Mt_B (F_impl_InverseM a0)) [] := by
  refine Fun.ofH 400 E_ok mixed Try.func36 (by kernel_rfl) (by kernel_rfl) ?_
  unfold F_impl_InverseM
  refine Run.bH (e := vVc) (gv := vT_Mt_B) (by kernel_rfl) (by kernel_rfl) (ok_impl_CrossV _ _) (fun _ => rfl) fun r1 => ?_
  refine Run.bH (e := vVc) (gv := vT_Mt_B) (by kernel_rfl) (by kernel_rfl) (ok_impl_CrossV _ _) (fun _ => rfl) fun r2 => ?_
  refine Run.bH (e := vVc) (gv := vT_Mt_B) (by kernel_rfl) (by kernel_rfl) (ok_impl_CrossV _ _) (fun _ => rfl) fun r3 => ?_
  refine Run.bH (e := vIv) (gv := vT_Mt_B) (by kernel_rfl) (by kernel_rfl) (ok_impl_DotV _ _) (fun _ => rfl) fun r4 => ?_
  refine Run.bH (e := vB) (gv := vT_Mt_B) (by kernel_rfl) (by kernel_rfl) (ok_impl_HasI _ _) (fun _ => rfl) fun r5 => ?_
  refine Run.jH (gv := vT_Mt_B) (by kernel_rfl) (?_) (?_)
  · exact Run.rh (k := 0) (by kernel_rfl) (by kernel_rfl)
  · refine Run.bH (e := vMt) (gv := vT_Mt_B) (by kernel_rfl) (by kernel_rfl) (ok_impl_transposed _) (fun _ => rfl) fun r6 => ?_
    refine Run.bH (e := vVc) (gv := vT_Mt_B) (by kernel_rfl) (by kernel_rfl) (ok_impl_dividedV _ _) (fun _ => rfl) fun r7 => ?_
    refine Run.bH (e := vVc) (gv := vT_Mt_B) (by kernel_rfl) (by kernel_rfl) (ok_impl_dividedV _ _) (fun _ => rfl) fun r8 => ?_
    refine Run.bH (e := vVc) (gv := vT_Mt_B) (by kernel_rfl) (by kernel_rfl) (ok_impl_dividedV _ _) (fun _ => rfl) fun r9 => ?_
    exact Run.rh (k := 0) (by kernel_rfl) (by kernel_rfl)

theorem ok_impl_InvertAffine (a0 : Af) : Fun Try.prog 19 [] #[vAf a0] (vT_Af_B (F_impl_InvertAffine a0)) [] := by
  refine Fun.ofH 400 E_ok mixed Try.func19 (by kernel_rfl) (by kernel_rfl) ?_
  unfold F_impl_InvertAffine
  refine Run.bH (e := vT_Mt_B) (gv := vT_Af_B) (by kernel_rfl) (by kernel_rfl) (ok_impl_InverseM _) (fun _ => rfl) fun r1 => ?_
  refine Run.jH (gv := vT_Af_B) (by kernel_rfl) (?_) (?_)
  · exact Run.rh (k := 0) (by kernel_rfl) (by kernel_rfl)
  · refine Run.bH (e := vVc) (gv := vT_Af_B) (by kernel_rfl) (by kernel_rfl) (ok_impl_ApplyM _ _) (fun _ => rfl) fun r2 => ?_
    refine Run.bH (e := vIv) (gv := vT_Af_B) (by kernel_rfl) (by kernel_rfl) (ok_impl_NegI _) (fun _ => rfl) fun r3 => ?_
    refine Run.bH (e := vIv) (gv := vT_Af_B) (by kernel_rfl) (by kernel_rfl) (ok_impl_NegI _) (fun _ => rfl) fun r4 => ?_
    refine Run.bH (e := vIv) (gv := vT_Af_B) (by kernel_rfl) (by kernel_rfl) (ok_impl_NegI _) (fun _ => rfl) fun r5 => ?_
    exact Run.rh (k := 0) (by kernel_rfl) (by kernel_rfl)

theorem ok_laws_FnExactInvertAffine (a0 : Af) : Fun Try.prog 6 [] #[vAf a0] (vB (F_laws_FnExactInvertAffine a0)) [] := by
  refine Fun.ofH 400 E_ok mixed Try.func6 (by kernel_rfl) (by kernel_rfl) ?_
  unfold F_laws_FnExactInvertAffine
  refine Run.bH (e := vAf) (gv := vB) (by kernel_rfl) (by kernel_rfl) (ok_laws_toAffine _) (fun _ => rfl) fun r1 => ?_
  refine Run.bH (e := vT_Af_B) (gv := vB) (by kernel_rfl) (by kernel_rfl) (ok_spec_InvertAffine _) (fun _ => rfl) fun r2 => ?_
  refine Run.bH (e := vAf) (gv := vB) (by kernel_rfl) (by kernel_rfl) (ok_laws_toAffine _) (fun _ => rfl) fun r3 => ?_
  refine Run.bH (e := vT_Af_B) (gv := vB) (by kernel_rfl) (by kernel_rfl) (ok_impl_InvertAffine _) (fun _ => rfl) fun r4 => ?_
  refine Run.bH (e := vB) (gv := vB) (by kernel_rfl) (by kernel_rfl) (ok_laws_eqAffine _ _) (fun _ => rfl) fun r5 => ?_
  refine Run.jH (gv := vB) (by kernel_rfl) (?_) (?_)
  · refine Run.p [true, true, true, true] (by kernel_rfl) ?_
    exact Run.rh (k := 0) (by kernel_rfl) (by kernel_rfl)
  · refine Run.p [false, false, false] (by kernel_rfl) ?_
    refine Run.jH (gv := vB) (by kernel_rfl) (?_) (?_)
    · exact Run.rh (k := 0) (by kernel_rfl) (by kernel_rfl)
    · exact Run.rh (k := 0) (by kernel_rfl) (by kernel_rfl)

end Go.Proofs.Ytkbkopmelaiffaa.Abs
