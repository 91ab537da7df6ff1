/- The program's functions are these; part 1 (written by w.py). -/
import Derived.Test.YtkbkopmelaiffaaK0
import Derived.Test.YtkbkopmelaiffaaF1
set_option linter.unusedVariables false
set_option linter.unusedSimpArgs false
namespace Go.Proofs.Ytkbkopmelaiffaa.Abs
open Go Go.RowKit

theorem ok_laws_eqAffine (a0 : Af) (a1 : Af) : Fun Try.prog 14 [] #[vAf a0, vAf a1] (vB (F_laws_eqAffine a0 a1)) [] := by
  refine Fun.ofH 400 E_ok mixed Try.func14 (by kernel_rfl) (by kernel_rfl) ?_
  unfold F_laws_eqAffine
  refine Run.bH (e := vB) (gv := vB) (by kernel_rfl) (by kernel_rfl) (ok_laws_eqMat _ _) (fun _ => rfl) fun r1 => ?_
  refine Run.jH (gv := vB) (by kernel_rfl) (?_) (?_)
  · exact Run.rh (k := 0) (by kernel_rfl) (by kernel_rfl)
  · refine Run.bH (e := vB) (gv := vB) (by kernel_rfl) (by kernel_rfl) (ok_laws_eqVec _ _) (fun _ => rfl) fun r2 => ?_
    refine Run.jH (gv := vB) (by kernel_rfl) (?_) (?_)
    · exact Run.rh (k := 0) (by kernel_rfl) (by kernel_rfl)
    · exact Run.rh (k := 0) (by kernel_rfl) (by kernel_rfl)

theorem ok_laws_FnExactThenAffine (a0 : Af) (a1 : Af) : Fun Try.prog 4 [] #[vAf a0, vAf a1] (vB (F_laws_FnExactThenAffine a0 a1)) [] := by
  refine Fun.ofH 400 E_ok mixed Try.func4 (by kernel_rfl) (by kernel_rfl) ?_
  unfold F_laws_FnExactThenAffine
  refine Run.bH (e := vAf) (gv := vB) (by kernel_rfl) (by kernel_rfl) (ok_laws_toAffine _) (fun _ => rfl) fun r1 => ?_
  refine Run.bH (e := vAf) (gv := vB) (by kernel_rfl) (by kernel_rfl) (ok_laws_toAffine _) (fun _ => rfl) fun r2 => ?_
  refine Run.bH (e := vAf) (gv := vB) (by kernel_rfl) (by kernel_rfl) (ok_spec_ThenAffine _ _) (fun _ => rfl) fun r3 => ?_
  refine Run.bH (e := vAf) (gv := vB) (by kernel_rfl) (by kernel_rfl) (ok_laws_toAffine _) (fun _ => rfl) fun r4 => ?_
  refine Run.bH (e := vAf) (gv := vB) (by kernel_rfl) (by kernel_rfl) (ok_laws_toAffine _) (fun _ => rfl) fun r5 => ?_
  refine Run.bH (e := vAf) (gv := vB) (by kernel_rfl) (by kernel_rfl) (ok_impl_ThenAffine _ _) (fun _ => rfl) fun r6 => ?_
  refine Run.bH (e := vB) (gv := vB) (by kernel_rfl) (by kernel_rfl) (ok_laws_eqAffine _ _) (fun _ => rfl) fun r7 => ?_
  refine Run.jH (gv := vB) (by kernel_rfl) (?_) (?_)
  · exact Run.rh (k := 0) (by kernel_rfl) (by kernel_rfl)
  · exact Run.rh (k := 0) (by kernel_rfl) (by kernel_rfl)

theorem ok_laws_toShift (a0 : Sf) : Fun Try.prog 16 [] #[vSf a0] (vSf (F_laws_toShift a0)) [] := by
  refine Fun.ofH 400 E_ok mixed Try.func16 (by kernel_rfl) (by kernel_rfl) ?_
  unfold F_laws_toShift
  exact Run.rh (k := 0) (by kernel_rfl) (by kernel_rfl)

theorem ok_spec_l23Ok__pSf (b0 : Sf) : Fun Try.prog 30 [(#[.int .i64 b0.tx.val, .int .i64 b0.ty.val, .int .i64 b0.tz.val, .int .i64 b0.rx.val, .int .i64 b0.ry.val, .int .i64 b0.rz.val, .int .i64 b0.sc.val], 49)] #[.pointer (some ⟨0, 0, none⟩)] (vB (F_spec_l23Ok__pSf b0)) [(#[.int .i64 b0.tx.val, .int .i64 b0.ty.val, .int .i64 b0.tz.val, .int .i64 b0.rx.val, .int .i64 b0.ry.val, .int .i64 b0.rz.val, .int .i64 b0.sc.val], 49)] := by
  refine Fun.ofH 400 E_ok mixed Try.func30 (by kernel_rfl) (by kernel_rfl) ?_
  unfold F_spec_l23Ok__pSf
  refine Run.u 400 E_ok mixed Try.func30 ?_
  refine Run.p [true, true] (by kernel_rfl) ?_
  refine Run.bH (e := vB) (gv := vB) (by kernel_rfl) (by kernel_rfl) (ok_spec_l00In _ _ _) (fun _ => rfl) fun r1 => ?_
  refine Run.jH (gv := vB) (by kernel_rfl) (?_) (?_)
  · refine Run.p [true, true, true, true, true, true, true] (by kernel_rfl) ?_
    exact Run.rh (k := 1) (by kernel_rfl) (by kernel_rfl)
  · refine Run.p [false, false, true, false, false] (by kernel_rfl) ?_
    refine Run.bH (e := vB) (gv := vB) (by kernel_rfl) (by kernel_rfl) (ok_spec_l00In _ _ _) (fun _ => rfl) fun r2 => ?_
    refine Run.p [false, false] (by kernel_rfl) ?_
    refine Run.jH (gv := vB) (by kernel_rfl) (?_) (?_)
    · exact Run.rh (k := 1) (by kernel_rfl) (by kernel_rfl)
    · refine Run.u 400 E_ok mixed Try.func30 ?_
      refine Run.p [true, true] (by kernel_rfl) ?_
      refine Run.bH (e := vB) (gv := vB) (by kernel_rfl) (by kernel_rfl) (ok_spec_l00In _ _ _) (fun _ => rfl) fun r3 => ?_
      refine Run.jH (gv := vB) (by kernel_rfl) (?_) (?_)
      · refine Run.p [true, true, true, true, true, true, true] (by kernel_rfl) ?_
        exact Run.rh (k := 1) (by kernel_rfl) (by kernel_rfl)
      · refine Run.p [false, false, true, false, false] (by kernel_rfl) ?_
        refine Run.bH (e := vB) (gv := vB) (by kernel_rfl) (by kernel_rfl) (ok_spec_l00In _ _ _) (fun _ => rfl) fun r4 => ?_
        refine Run.p [false, false] (by kernel_rfl) ?_
        refine Run.jH (gv := vB) (by kernel_rfl) (?_) (?_)
        · exact Run.rh (k := 1) (by kernel_rfl) (by kernel_rfl)
        · refine Run.u 400 E_ok mixed Try.func30 ?_
          refine Run.p [true, true] (by kernel_rfl) ?_
          refine Run.bH (e := vB) (gv := vB) (by kernel_rfl) (by kernel_rfl) (ok_spec_l00In _ _ _) (fun _ => rfl) fun r5 => ?_
          refine Run.jH (gv := vB) (by kernel_rfl) (?_) (?_)
          · refine Run.p [true, true, true, true, true, true, true] (by kernel_rfl) ?_
            exact Run.rh (k := 1) (by kernel_rfl) (by kernel_rfl)
          · refine Run.p [false, false, true, false, false] (by kernel_rfl) ?_
            refine Run.bH (e := vB) (gv := vB) (by kernel_rfl) (by kernel_rfl) (ok_spec_l00In _ _ _) (fun _ => rfl) fun r6 => ?_
            refine Run.p [false, false] (by kernel_rfl) ?_
            refine Run.jH (gv := vB) (by kernel_rfl) (?_) (?_)
            · exact Run.rh (k := 1) (by kernel_rfl) (by kernel_rfl)
            · refine Run.u 400 E_ok mixed Try.func30 ?_
              refine Run.p [false] (by kernel_rfl) ?_
              refine Run.bH (e := vB) (gv := vB) (by kernel_rfl) (by kernel_rfl) (ok_spec_l00In _ _ _) (fun _ => rfl) fun r7 => ?_
              exact Run.rh (k := 1) (by kernel_rfl) (by kernel_rfl)

theorem ok_spec_Integer (a0 : I64) : Fun Try.prog 45 [] #[vI a0] (vIv (F_spec_Integer a0)) [] := by
  refine Fun.ofH 400 E_ok mixed Try.func45 (by kernel_rfl) (by kernel_rfl) ?_
  unfold F_spec_Integer
  refine Run.bH (e := vB) (gv := vIv) (by kernel_rfl) (by kernel_rfl) (ok_spec_l00In _ _ _) (fun _ => rfl) fun r1 => ?_
  refine Run.jH (gv := vIv) (by kernel_rfl) (?_) (?_)
  · refine Run.bH (e := vIv) (gv := vIv) (by kernel_rfl) (by kernel_rfl) (ok_spec_l04Whole) (fun _ => rfl) fun r2 => ?_
    exact Run.rh (k := 0) (by kernel_rfl) (by kernel_rfl)
  · refine Run.bH (e := vIv) (gv := vIv) (by kernel_rfl) (by kernel_rfl) (ok_spec_l04Make _ _) (fun _ => rfl) fun r3 => ?_
    exact Run.rh (k := 0) (by kernel_rfl) (by kernel_rfl)

theorem ok_spec_SubI (a0 : Iv) (a1 : Iv) : Fun Try.prog 82 [] #[vIv a0, vIv a1] (vIv (F_spec_SubI a0 a1)) [] := by
  refine Fun.ofH 400 E_ok mixed Try.func82 (by kernel_rfl) (by kernel_rfl) ?_
  unfold F_spec_SubI
  refine Run.bH (e := vB) (gv := vIv) (by kernel_rfl) (by kernel_rfl) (ok_spec_l04Ok _) (fun _ => rfl) fun r1 => ?_
  refine Run.jH (gv := vIv) (by kernel_rfl) (?_) (?_)
  · refine Run.p [true, true, true, true] (by kernel_rfl) ?_
    refine Run.bH (e := vIv) (gv := vIv) (by kernel_rfl) (by kernel_rfl) (ok_spec_l04Whole) (fun _ => rfl) fun r2 => ?_
    exact Run.rh (k := 0) (by kernel_rfl) (by kernel_rfl)
  · refine Run.p [false] (by kernel_rfl) ?_
    refine Run.bH (e := vB) (gv := vIv) (by kernel_rfl) (by kernel_rfl) (ok_spec_l04Ok _) (fun _ => rfl) fun r3 => ?_
    refine Run.p [false, false] (by kernel_rfl) ?_
    refine Run.jH (gv := vIv) (by kernel_rfl) (?_) (?_)
    · refine Run.bH (e := vIv) (gv := vIv) (by kernel_rfl) (by kernel_rfl) (ok_spec_l04Whole) (fun _ => rfl) fun r4 => ?_
      exact Run.rh (k := 0) (by kernel_rfl) (by kernel_rfl)
    · refine Run.bH (e := vIv) (gv := vIv) (by kernel_rfl) (by kernel_rfl) (ok_spec_l04Make _ _) (fun _ => rfl) fun r5 => ?_
      exact Run.rh (k := 0) (by kernel_rfl) (by kernel_rfl)

theorem ok_spec_CrossV (a0 : Vc) (a1 : Vc) : Fun Try.prog 55 [] #[vVc a0, vVc a1] (vVc (F_spec_CrossV a0 a1)) [] := by
  refine Fun.ofH 400 E_ok mixed Try.func55 (by kernel_rfl) (by kernel_rfl) ?_
  unfold F_spec_CrossV
  refine Run.bH (e := vIv) (gv := vVc) (by kernel_rfl) (by kernel_rfl) (ok_spec_MulI _ _) (fun _ => rfl) fun r1 => ?_
  refine Run.bH (e := vIv) (gv := vVc) (by kernel_rfl) (by kernel_rfl) (ok_spec_MulI _ _) (fun _ => rfl) fun r2 => ?_
  refine Run.bH (e := vIv) (gv := vVc) (by kernel_rfl) (by kernel_rfl) (ok_spec_SubI _ _) (fun _ => rfl) fun r3 => ?_
  refine Run.bH (e := vIv) (gv := vVc) (by kernel_rfl) (by kernel_rfl) (ok_spec_MulI _ _) (fun _ => rfl) fun r4 => ?_
  refine Run.bH (e := vIv) (gv := vVc) (by kernel_rfl) (by kernel_rfl) (ok_spec_MulI _ _) (fun _ => rfl) fun r5 => ?_
  refine Run.bH (e := vIv) (gv := vVc) (by kernel_rfl) (by kernel_rfl) (ok_spec_SubI _ _) (fun _ => rfl) fun r6 => ?_
  refine Run.bH (e := vIv) (gv := vVc) (by kernel_rfl) (by kernel_rfl) (ok_spec_MulI _ _) (fun _ => rfl) fun r7 => ?_
  refine Run.bH (e := vIv) (gv := vVc) (by kernel_rfl) (by kernel_rfl) (ok_spec_MulI _ _) (fun _ => rfl) fun r8 => ?_
  refine Run.bH (e := vIv) (gv := vVc) (by kernel_rfl) (by kernel_rfl) (ok_spec_SubI _ _) (fun _ => rfl) fun r9 => ?_
  exact Run.rh (k := 0) (by kernel_rfl) (by kernel_rfl)

theorem ok_spec_l04Has (a0 : Iv) (a1 : I64) : Fun Try.prog 83 [] #[vIv a0, vI a1] (vB (F_spec_l04Has a0 a1)) [] := by
  refine Fun.ofH 400 E_ok mixed Try.func83 (by kernel_rfl) (by kernel_rfl) ?_
  unfold F_spec_l04Has
  refine Run.bH (e := vB) (gv := vB) (by kernel_rfl) (by kernel_rfl) (ok_spec_l00In _ _ _) (fun _ => rfl) fun r1 => ?_
  exact Run.rh (k := 0) (by kernel_rfl) (by kernel_rfl)

theorem ok_spec_HasI (a0 : Iv) (a1 : I64) : Fun Try.prog 56 [] #[vIv a0, vI a1] (vB (F_spec_HasI a0 a1)) [] := by
  refine Fun.ofH 400 E_ok mixed Try.func56 (by kernel_rfl) (by kernel_rfl) ?_
  unfold F_spec_HasI
  refine Run.bH (e := vB) (gv := vB) (by kernel_rfl) (by kernel_rfl) (ok_spec_l04Ok _) (fun _ => rfl) fun r1 => ?_
  refine Run.jH (gv := vB) (by kernel_rfl) (?_) (?_)
  · refine Run.p [true, true, true] (by kernel_rfl) ?_
    exact Run.rh (k := 0) (by kernel_rfl) (by kernel_rfl)
  · refine Run.p [false, false] (by kernel_rfl) ?_
    refine Run.bH (e := vB) (gv := vB) (by kernel_rfl) (by kernel_rfl) (ok_spec_l04Has _ _) (fun _ => rfl) fun r2 => ?_
    refine Run.p [false] (by kernel_rfl) ?_
    exact Run.rh (k := 0) (by kernel_rfl) (by kernel_rfl)

end Go.Proofs.Ytkbkopmelaiffaa.Abs
