/- The program's functions are these; part 0 (written by w.py). -/
import Derived.Test.YtkbkopmelaiffaaE
import Derived.Test.YtkbkopmelaiffaaF2
import Derived.Test.YtkbkopmelaiffaaQpre
set_option linter.unusedVariables false
set_option linter.unusedSimpArgs false
namespace Go.Proofs.Ytkbkopmelaiffaa.Abs
open Go Go.RowKit

theorem ok_laws_toInterval (a0 : Iv) : Fun Try.prog 23 [] #[vIv a0] (vIv (F_laws_toInterval a0)) [] := by
  refine Fun.ofH 400 E_ok mixed Try.func23 (by kernel_rfl) (by kernel_rfl) ?_
  unfold F_laws_toInterval
  exact Run.rh (k := 0) (by kernel_rfl) (by kernel_rfl)

theorem ok_laws_toVec (a0 : Vc) : Fun Try.prog 9 [] #[vVc a0] (vVc (F_laws_toVec a0)) [] := by
  refine Fun.ofH 400 E_ok mixed Try.func9 (by kernel_rfl) (by kernel_rfl) ?_
  unfold F_laws_toVec
  refine Run.bH (e := vIv) (gv := vVc) (by kernel_rfl) (by kernel_rfl) (ok_laws_toInterval _) (fun _ => rfl) fun r1 => ?_
  refine Run.bH (e := vIv) (gv := vVc) (by kernel_rfl) (by kernel_rfl) (ok_laws_toInterval _) (fun _ => rfl) fun r2 => ?_
  refine Run.bH (e := vIv) (gv := vVc) (by kernel_rfl) (by kernel_rfl) (ok_laws_toInterval _) (fun _ => rfl) fun r3 => ?_
  exact Run.rh (k := 0) (by kernel_rfl) (by kernel_rfl)

theorem ok_laws_toMat (a0 : Mt) : Fun Try.prog 22 [] #[vMt a0] (vMt (F_laws_toMat a0)) [] := by
  refine Fun.ofH 400 E_ok mixed Try.func22 (by kernel_rfl) (by kernel_rfl) ?_
  unfold F_laws_toMat
  refine Run.bH (e := vVc) (gv := vMt) (by kernel_rfl) (by kernel_rfl) (ok_laws_toVec _) (fun _ => rfl) fun r1 => ?_
  refine Run.bH (e := vVc) (gv := vMt) (by kernel_rfl) (by kernel_rfl) (ok_laws_toVec _) (fun _ => rfl) fun r2 => ?_
  refine Run.bH (e := vVc) (gv := vMt) (by kernel_rfl) (by kernel_rfl) (ok_laws_toVec _) (fun _ => rfl) fun r3 => ?_
  exact Run.rh (k := 0) (by kernel_rfl) (by kernel_rfl)

theorem ok_laws_toAffine (a0 : Af) : Fun Try.prog 8 [] #[vAf a0] (vAf (F_laws_toAffine a0)) [] := by
  refine Fun.ofH 400 E_ok mixed Try.func8 (by kernel_rfl) (by kernel_rfl) ?_
  unfold F_laws_toAffine
  refine Run.bH (e := vMt) (gv := vAf) (by kernel_rfl) (by kernel_rfl) (ok_laws_toMat _) (fun _ => rfl) fun r1 => ?_
  refine Run.bH (e := vVc) (gv := vAf) (by kernel_rfl) (by kernel_rfl) (ok_laws_toVec _) (fun _ => rfl) fun r2 => ?_
  exact Run.rh (k := 0) (by kernel_rfl) (by kernel_rfl)

theorem ok_spec_l04Ok (a0 : Iv) : Fun Try.prog 58 [] #[vIv a0] (vB (F_spec_l04Ok a0)) [] := by
  refine Fun.ofH 400 E_ok mixed Try.func58 (by kernel_rfl) (by kernel_rfl) ?_
  unfold F_spec_l04Ok
  refine Run.jH (gv := vB) (by kernel_rfl) (?_) (?_)
  · refine Run.p [true, true, true, true, true] (by kernel_rfl) ?_
    refine Run.jH (gv := vB) (by kernel_rfl) (?_) (?_)
    · refine Run.p [true, true, true] (by kernel_rfl) ?_
      exact Run.rh (k := 0) (by kernel_rfl) (by kernel_rfl)
    · refine Run.p [false, false, false] (by kernel_rfl) ?_
      exact Run.rh (k := 0) (by kernel_rfl) (by kernel_rfl)
  · refine Run.p [false, false, false, false, false, false, false, false, false] (by kernel_rfl) ?_
    exact Run.rh (k := 0) (by kernel_rfl) (by kernel_rfl)

theorem ok_spec_l04Whole : Fun Try.prog 59 [] #[] (vIv (F_spec_l04Whole)) [] := by
  refine Fun.ofH 400 E_ok mixed Try.func59 (by kernel_rfl) (by kernel_rfl) ?_
  unfold F_spec_l04Whole
  exact Run.rh (k := 0) (by kernel_rfl) (by kernel_rfl)

theorem ok_spec_l00In (a0 : I64) (a1 : I64) (a2 : I64) : Fun Try.prog 44 [] #[vI a0, vI a1, vI a2] (vB (F_spec_l00In a0 a1 a2)) [] := by
  refine Fun.ofH 400 E_ok mixed Try.func44 (by kernel_rfl) (by kernel_rfl) ?_
  unfold F_spec_l00In
  refine Run.jH (gv := vB) (by kernel_rfl) (?_) (?_)
  · refine Run.p [true, true, true] (by kernel_rfl) ?_
    exact Run.rh (k := 0) (by kernel_rfl) (by kernel_rfl)
  · refine Run.p [false, false, false] (by kernel_rfl) ?_
    exact Run.rh (k := 0) (by kernel_rfl) (by kernel_rfl)

theorem ok_spec_l03Ok (a0 : I64) : Fun Try.prog 90 [] #[vI a0] (vB (F_spec_l03Ok a0)) [] := by
  refine Fun.ofH 400 E_ok mixed Try.func90 (by kernel_rfl) (by kernel_rfl) ?_
  unfold F_spec_l03Ok
  refine Run.bH (e := vB) (gv := vB) (by kernel_rfl) (by kernel_rfl) (ok_spec_l00In _ _ _) (fun _ => rfl) fun r1 => ?_
  exact Run.rh (k := 0) (by kernel_rfl) (by kernel_rfl)

theorem ok_spec_l02Size (a0 : I64) : Fun Try.prog 115 [] #[vI a0] (vU (F_spec_l02Size a0)) [] := by
  refine Fun.ofH 400 E_ok mixed Try.func115 (by kernel_rfl) (by kernel_rfl) ?_
  unfold F_spec_l02Size
  refine Run.jH (gv := vU) (by kernel_rfl) (?_) (?_)
  · exact Run.rh (k := 0) (by kernel_rfl) (by kernel_rfl)
  · exact Run.rh (k := 0) (by kernel_rfl) (by kernel_rfl)

theorem ok_spec_l02Times (a0 : U64) (a1 : U64) : Fun Try.prog 114 [] #[vU a0, vU a1] (vT_U_U (F_spec_l02Times a0 a1)) [] := by
  refine Fun.ofH 400 E_ok mixed Try.func114 (by kernel_rfl) (by kernel_rfl) ?_
  unfold F_spec_l02Times
  refine Run.p [true, true, true, true, true, true, true] (by kernel_rfl) ?_
  exact Run.rh (k := 0) (by kernel_rfl) (by kernel_rfl)

theorem ok_spec_l02Minus (a0 : Wd) : Fun Try.prog 111 [] #[vWd a0] (vWd (F_spec_l02Minus a0)) [] := by
  refine Fun.ofH 400 E_ok mixed Try.func111 (by kernel_rfl) (by kernel_rfl) ?_
  unfold F_spec_l02Minus
  refine Run.jH (gv := vWd) (by kernel_rfl) (?_) (?_)
  · exact Run.rh (k := 0) (by kernel_rfl) (by kernel_rfl)
  · exact Run.rh (k := 0) (by kernel_rfl) (by kernel_rfl)

theorem ok_spec_l02Mul (a0 : I64) (a1 : I64) : Fun Try.prog 103 [] #[vI a0, vI a1] (vWd (F_spec_l02Mul a0 a1)) [] := by
  refine Fun.ofH 400 E_ok mixed Try.func103 (by kernel_rfl) (by kernel_rfl) ?_
  unfold F_spec_l02Mul
  refine Run.bH (e := vU) (gv := vWd) (by kernel_rfl) (by kernel_rfl) (ok_spec_l02Size _) (fun _ => rfl) fun r1 => ?_
  refine Run.bH (e := vU) (gv := vWd) (by kernel_rfl) (by kernel_rfl) (ok_spec_l02Size _) (fun _ => rfl) fun r2 => ?_
  refine Run.bH (e := vT_U_U) (gv := vWd) (by kernel_rfl) (by kernel_rfl) (ok_spec_l02Times _ _) (fun _ => rfl) fun r3 => ?_
  refine Run.jH (gv := vWd) (by kernel_rfl) (?_) (?_)
  · refine Run.bH (e := vWd) (gv := vWd) (by kernel_rfl) (by kernel_rfl) (ok_spec_l02Minus _) (fun _ => rfl) fun r4 => ?_
    exact Run.rh (k := 0) (by kernel_rfl) (by kernel_rfl)
  · exact Run.rh (k := 0) (by kernel_rfl) (by kernel_rfl)

theorem ok_spec_l02Shift (a0 : Wd) (a1 : I64) : Fun Try.prog 105 [] #[vWd a0, vI a1] (vWd (F_spec_l02Shift a0 a1)) [] := by
  refine Fun.ofH 400 E_ok mixed Try.func105 (by kernel_rfl) (by kernel_rfl) ?_
  unfold F_spec_l02Shift
  refine Run.jk (gv := vWd) (by kernel_rfl) (fun h1 => ?_) (fun h1 => ?_)
  · exact Run.rh (k := 0) (by kernel_rfl) (by kernel_rfl)
  · refine Run.jk (gv := vWd) (by kernel_rfl) (fun h2 => ?_) (fun h2 => ?_)
    · refine Run.k (c := (decide (0 ≤ (wu64 a1.val).val))) (by kernel_rfl) (by simp only [w64_val, wu64_val, c64_val, cu64_val, decide_eq_true_eq, decide_eq_false_iff_not, cond_true, cond_false] at *; omega) ?_
      refine Run.k (c := (decide (0 ≤ (wu64 a1.val).val))) (by kernel_rfl) (by simp only [w64_val, wu64_val, c64_val, cu64_val, decide_eq_true_eq, decide_eq_false_iff_not, cond_true, cond_false] at *; omega) ?_
      refine Run.k (c := (decide (0 ≤ (wu64 (w64 (64 - a1.val)).val).val))) (by kernel_rfl) (by simp only [w64_val, wu64_val, c64_val, cu64_val, decide_eq_true_eq, decide_eq_false_iff_not, cond_true, cond_false] at *; omega) ?_
      exact Run.rh (k := 0) (by kernel_rfl) (by kernel_rfl)
    · refine Run.p [true] (by kernel_rfl) ?_
      refine Run.k (c := (decide (0 ≤ (wu64 (w64 (a1.val - 64)).val).val))) (by kernel_rfl) (by simp only [w64_val, wu64_val, c64_val, cu64_val, decide_eq_true_eq, decide_eq_false_iff_not, cond_true, cond_false] at *; omega) ?_
      exact Run.rh (k := 0) (by kernel_rfl) (by kernel_rfl)

theorem ok_spec_l02Of (a0 : I64) : Fun Try.prog 113 [] #[vI a0] (vWd (F_spec_l02Of a0)) [] := by
  refine Fun.ofH 400 E_ok mixed Try.func113 (by kernel_rfl) (by kernel_rfl) ?_
  unfold F_spec_l02Of
  refine Run.jH (gv := vWd) (by kernel_rfl) (?_) (?_)
  · exact Run.rh (k := 0) (by kernel_rfl) (by kernel_rfl)
  · exact Run.rh (k := 0) (by kernel_rfl) (by kernel_rfl)

theorem ok_spec_l02Int (a0 : Wd) : Fun Try.prog 104 [] #[vWd a0] (vT_I_B (F_spec_l02Int a0)) [] := by
  refine Fun.ofH 400 E_ok mixed Try.func104 (by kernel_rfl) (by kernel_rfl) ?_
  unfold F_spec_l02Int
  refine Run.bH (e := vWd) (gv := vT_I_B) (by kernel_rfl) (by kernel_rfl) (ok_spec_l02Of _) (fun _ => rfl) fun r1 => ?_
  refine Run.jH (gv := vT_I_B) (by kernel_rfl) (?_) (?_)
  · exact Run.rh (k := 0) (by kernel_rfl) (by kernel_rfl)
  · exact Run.rh (k := 0) (by kernel_rfl) (by kernel_rfl)

theorem ok_spec_MulFloor (a0 : I64) (a1 : I64) (a2 : I64) : Fun Try.prog 91 [] #[vI a0, vI a1, vI a2] (vT_I_B (F_spec_MulFloor a0 a1 a2)) [] := by
  refine Fun.ofH 400 E_ok mixed Try.func91 (by kernel_rfl) (by kernel_rfl) ?_
  unfold F_spec_MulFloor
  refine Run.bH (e := vB) (gv := vT_I_B) (by kernel_rfl) (by kernel_rfl) (ok_spec_l00In _ _ _) (fun _ => rfl) fun r1 => ?_
  refine Run.jH (gv := vT_I_B) (by kernel_rfl) (?_) (?_)
  · exact Run.rh (k := 0) (by kernel_rfl) (by kernel_rfl)
  · refine Run.bH (e := vWd) (gv := vT_I_B) (by kernel_rfl) (by kernel_rfl) (ok_spec_l02Mul _ _) (fun _ => rfl) fun r2 => ?_
    refine Run.bH (e := vWd) (gv := vT_I_B) (by kernel_rfl) (by kernel_rfl) (ok_spec_l02Shift _ _) (fun _ => rfl) fun r3 => ?_
    refine Run.bH (e := vT_I_B) (gv := vT_I_B) (by kernel_rfl) (by kernel_rfl) (ok_spec_l02Int _) (fun _ => rfl) fun r4 => ?_
    exact Run.rh (k := 0) (by kernel_rfl) (by kernel_rfl)

theorem ok_spec_l03End (a0 : I64) (a1 : Bool) : Fun Try.prog 89 [] #[vI a0, vB a1] (vT_I_B (F_spec_l03End a0 a1)) [] := by
  refine Fun.ofH 400 E_ok mixed Try.func89 (by kernel_rfl) (by kernel_rfl) ?_
  unfold F_spec_l03End
  refine Run.jH (gv := vT_I_B) (by kernel_rfl) (?_) (?_)
  · refine Run.p [true, true, true, true] (by kernel_rfl) ?_
    exact Run.rh (k := 0) (by kernel_rfl) (by kernel_rfl)
  · refine Run.p [false] (by kernel_rfl) ?_
    refine Run.bH (e := vB) (gv := vT_I_B) (by kernel_rfl) (by kernel_rfl) (ok_spec_l03Ok _) (fun _ => rfl) fun r1 => ?_
    refine Run.p [false, false] (by kernel_rfl) ?_
    refine Run.jH (gv := vT_I_B) (by kernel_rfl) (?_) (?_)
    · exact Run.rh (k := 0) (by kernel_rfl) (by kernel_rfl)
    · exact Run.rh (k := 0) (by kernel_rfl) (by kernel_rfl)

theorem ok_spec_l03MulDown (a0 : I64) (a1 : I64) : Fun Try.prog 70 [] #[vI a0, vI a1] (vT_I_B (F_spec_l03MulDown a0 a1)) [] := by
  refine Fun.ofH 400 E_ok mixed Try.func70 (by kernel_rfl) (by kernel_rfl) ?_
  unfold F_spec_l03MulDown
  refine Run.bH (e := vB) (gv := vT_I_B) (by kernel_rfl) (by kernel_rfl) (ok_spec_l03Ok _) (fun _ => rfl) fun r1 => ?_
  refine Run.jH (gv := vT_I_B) (by kernel_rfl) (?_) (?_)
  · refine Run.p [true, true, true, true] (by kernel_rfl) ?_
    exact Run.rh (k := 0) (by kernel_rfl) (by kernel_rfl)
  · refine Run.p [false] (by kernel_rfl) ?_
    refine Run.bH (e := vB) (gv := vT_I_B) (by kernel_rfl) (by kernel_rfl) (ok_spec_l03Ok _) (fun _ => rfl) fun r2 => ?_
    refine Run.p [false, false] (by kernel_rfl) ?_
    refine Run.jH (gv := vT_I_B) (by kernel_rfl) (?_) (?_)
    · exact Run.rh (k := 0) (by kernel_rfl) (by kernel_rfl)
    · refine Run.bH (e := vT_I_B) (gv := vT_I_B) (by kernel_rfl) (by kernel_rfl) (ok_spec_MulFloor _ _ _) (fun _ => rfl) fun r3 => ?_
      refine Run.bH (e := vT_I_B) (gv := vT_I_B) (by kernel_rfl) (by kernel_rfl) (ok_spec_l03End _ _) (fun _ => rfl) fun r4 => ?_
      exact Run.rh (k := 0) (by kernel_rfl) (by kernel_rfl)

theorem ok_spec_l03MulUp (a0 : I64) (a1 : I64) : Fun Try.prog 71 [] #[vI a0, vI a1] (vT_I_B (F_spec_l03MulUp a0 a1)) [] := by
  refine Fun.ofH 400 E_ok mixed Try.func71 (by kernel_rfl) (by kernel_rfl) ?_
  unfold F_spec_l03MulUp
  refine Run.bH (e := vT_I_B) (gv := vT_I_B) (by kernel_rfl) (by kernel_rfl) (ok_spec_l03MulDown _ _) (fun _ => rfl) fun r1 => ?_
  refine Run.bH (e := vB) (gv := vT_I_B) (by kernel_rfl) (by kernel_rfl) (ok_spec_l03Ok _) (fun _ => rfl) fun r2 => ?_
  refine Run.jH (gv := vT_I_B) (by kernel_rfl) (?_) (?_)
  · refine Run.p [true, true, true] (by kernel_rfl) ?_
    exact Run.rh (k := 0) (by kernel_rfl) (by kernel_rfl)
  · refine Run.p [false, false] (by kernel_rfl) ?_
    refine Run.jH (gv := vT_I_B) (by kernel_rfl) (?_) (?_)
    · exact Run.rh (k := 0) (by kernel_rfl) (by kernel_rfl)
    · exact Run.rh (k := 0) (by kernel_rfl) (by kernel_rfl)

theorem ok_spec_l00Min (a0 : I64) (a1 : I64) : Fun Try.prog 72 [] #[vI a0, vI a1] (vI (F_spec_l00Min a0 a1)) [] := by
  refine Fun.ofH 400 E_ok mixed Try.func72 (by kernel_rfl) (by kernel_rfl) ?_
  unfold F_spec_l00Min
  refine Run.jH (gv := vI) (by kernel_rfl) (?_) (?_)
  · exact Run.rh (k := 0) (by kernel_rfl) (by kernel_rfl)
  · exact Run.rh (k := 0) (by kernel_rfl) (by kernel_rfl)

theorem ok_spec_l00Max (a0 : I64) (a1 : I64) : Fun Try.prog 73 [] #[vI a0, vI a1] (vI (F_spec_l00Max a0 a1)) [] := by
  refine Fun.ofH 400 E_ok mixed Try.func73 (by kernel_rfl) (by kernel_rfl) ?_
  unfold F_spec_l00Max
  refine Run.jH (gv := vI) (by kernel_rfl) (?_) (?_)
  · exact Run.rh (k := 0) (by kernel_rfl) (by kernel_rfl)
  · exact Run.rh (k := 0) (by kernel_rfl) (by kernel_rfl)

theorem ok_spec_l04Make (a0 : I64) (a1 : I64) : Fun Try.prog 60 [] #[vI a0, vI a1] (vIv (F_spec_l04Make a0 a1)) [] := by
  refine Fun.ofH 400 E_ok mixed Try.func60 (by kernel_rfl) (by kernel_rfl) ?_
  unfold F_spec_l04Make
  refine Run.bH (e := vB) (gv := vIv) (by kernel_rfl) (by kernel_rfl) (ok_spec_l04Ok _) (fun _ => rfl) fun r1 => ?_
  refine Run.jH (gv := vIv) (by kernel_rfl) (?_) (?_)
  · refine Run.bH (e := vIv) (gv := vIv) (by kernel_rfl) (by kernel_rfl) (ok_spec_l04Whole) (fun _ => rfl) fun r2 => ?_
    exact Run.rh (k := 0) (by kernel_rfl) (by kernel_rfl)
  · exact Run.rh (k := 0) (by kernel_rfl) (by kernel_rfl)

theorem ok_spec_MulI (a0 : Iv) (a1 : Iv) : Fun Try.prog 47 [] #[vIv a0, vIv a1] (vIv (F_spec_MulI a0 a1)) [] := by
  refine Fun.ofH 400 E_ok mixed Try.func47 (by kernel_rfl) (by kernel_rfl) ?_
  unfold F_spec_MulI
  refine Run.bH (e := vB) (gv := vIv) (by kernel_rfl) (by kernel_rfl) (ok_spec_l04Ok _) (fun _ => rfl) fun r1 => ?_
  refine Run.jH (gv := vIv) (by kernel_rfl) (?_) (?_)
  · refine Run.p [true, true, true, true] (by kernel_rfl) ?_
    refine Run.bH (e := vIv) (gv := vIv) (by kernel_rfl) (by kernel_rfl) (ok_spec_l04Whole) (fun _ => rfl) fun r2 => ?_
    exact Run.rh (k := 0) (by kernel_rfl) (by kernel_rfl)
  · refine Run.p [false] (by kernel_rfl) ?_
    refine Run.bH (e := vB) (gv := vIv) (by kernel_rfl) (by kernel_rfl) (ok_spec_l04Ok _) (fun _ => rfl) fun r3 => ?_
    refine Run.p [false, false] (by kernel_rfl) ?_
    refine Run.jH (gv := vIv) (by kernel_rfl) (?_) (?_)
    · refine Run.bH (e := vIv) (gv := vIv) (by kernel_rfl) (by kernel_rfl) (ok_spec_l04Whole) (fun _ => rfl) fun r4 => ?_
      exact Run.rh (k := 0) (by kernel_rfl) (by kernel_rfl)
    · refine Run.u 400 E_ok mixed Try.func47 ?_
      refine Run.p [true] (by kernel_rfl) ?_
      refine Run.u 400 E_ok mixed Try.func47 ?_
      refine Run.p [true, true, true] (by kernel_rfl) ?_
      refine Run.bH (e := vT_I_B) (gv := vIv) (by kernel_rfl) (by kernel_rfl) (ok_spec_l03MulDown _ _) (fun _ => rfl) fun r5 => ?_
      refine Run.p [true, true] (by kernel_rfl) ?_
      refine Run.bH (e := vT_I_B) (gv := vIv) (by kernel_rfl) (by kernel_rfl) (ok_spec_l03MulUp _ _) (fun _ => rfl) fun r6 => ?_
      refine Run.jH (gv := vIv) (by kernel_rfl) (?_) (?_)
      · refine Run.p [true, true, true] (by kernel_rfl) ?_
        refine Run.bH (e := vIv) (gv := vIv) (by kernel_rfl) (by kernel_rfl) (ok_spec_l04Whole) (fun _ => rfl) fun r7 => ?_
        exact Run.rh (k := 0) (by kernel_rfl) (by kernel_rfl)
      · refine Run.p [false, false] (by kernel_rfl) ?_
        refine Run.jH (gv := vIv) (by kernel_rfl) (?_) (?_)
        · refine Run.bH (e := vIv) (gv := vIv) (by kernel_rfl) (by kernel_rfl) (ok_spec_l04Whole) (fun _ => rfl) fun r8 => ?_
          exact Run.rh (k := 0) (by kernel_rfl) (by kernel_rfl)
        · refine Run.bH (e := vI) (gv := vIv) (by kernel_rfl) (by kernel_rfl) (ok_spec_l00Min _ _) (fun _ => rfl) fun r9 => ?_
          refine Run.bH (e := vI) (gv := vIv) (by kernel_rfl) (by kernel_rfl) (ok_spec_l00Max _ _) (fun _ => rfl) fun r10 => ?_
          refine Run.u 400 E_ok mixed Try.func47 ?_
          refine Run.p [true, true, true] (by kernel_rfl) ?_
          refine Run.bH (e := vT_I_B) (gv := vIv) (by kernel_rfl) (by kernel_rfl) (ok_spec_l03MulDown _ _) (fun _ => rfl) fun r11 => ?_
          refine Run.p [true, true] (by kernel_rfl) ?_
          refine Run.bH (e := vT_I_B) (gv := vIv) (by kernel_rfl) (by kernel_rfl) (ok_spec_l03MulUp _ _) (fun _ => rfl) fun r12 => ?_
          refine Run.jH (gv := vIv) (by kernel_rfl) (?_) (?_)
          · refine Run.p [true, true, true] (by kernel_rfl) ?_
            refine Run.bH (e := vIv) (gv := vIv) (by kernel_rfl) (by kernel_rfl) (ok_spec_l04Whole) (fun _ => rfl) fun r13 => ?_
            exact Run.rh (k := 0) (by kernel_rfl) (by kernel_rfl)
          · refine Run.p [false, false] (by kernel_rfl) ?_
            refine Run.jH (gv := vIv) (by kernel_rfl) (?_) (?_)
            · refine Run.bH (e := vIv) (gv := vIv) (by kernel_rfl) (by kernel_rfl) (ok_spec_l04Whole) (fun _ => rfl) fun r14 => ?_
              exact Run.rh (k := 0) (by kernel_rfl) (by kernel_rfl)
            · refine Run.bH (e := vI) (gv := vIv) (by kernel_rfl) (by kernel_rfl) (ok_spec_l00Min _ _) (fun _ => rfl) fun r15 => ?_
              refine Run.bH (e := vI) (gv := vIv) (by kernel_rfl) (by kernel_rfl) (ok_spec_l00Max _ _) (fun _ => rfl) fun r16 => ?_
              refine Run.u 400 E_ok mixed Try.func47 ?_
              refine Run.p [false] (by kernel_rfl) ?_
              refine Run.u 400 E_ok mixed Try.func47 ?_
              refine Run.p [true] (by kernel_rfl) ?_
              refine Run.u 400 E_ok mixed Try.func47 ?_
              refine Run.p [true, true, true] (by kernel_rfl) ?_
              refine Run.bH (e := vT_I_B) (gv := vIv) (by kernel_rfl) (by kernel_rfl) (ok_spec_l03MulDown _ _) (fun _ => rfl) fun r17 => ?_
              refine Run.p [true, true] (by kernel_rfl) ?_
              refine Run.bH (e := vT_I_B) (gv := vIv) (by kernel_rfl) (by kernel_rfl) (ok_spec_l03MulUp _ _) (fun _ => rfl) fun r18 => ?_
              refine Run.jH (gv := vIv) (by kernel_rfl) (?_) (?_)
              · refine Run.p [true, true, true] (by kernel_rfl) ?_
                refine Run.bH (e := vIv) (gv := vIv) (by kernel_rfl) (by kernel_rfl) (ok_spec_l04Whole) (fun _ => rfl) fun r19 => ?_
                exact Run.rh (k := 0) (by kernel_rfl) (by kernel_rfl)
              · refine Run.p [false, false] (by kernel_rfl) ?_
                refine Run.jH (gv := vIv) (by kernel_rfl) (?_) (?_)
                · refine Run.bH (e := vIv) (gv := vIv) (by kernel_rfl) (by kernel_rfl) (ok_spec_l04Whole) (fun _ => rfl) fun r20 => ?_
                  exact Run.rh (k := 0) (by kernel_rfl) (by kernel_rfl)
                · refine Run.bH (e := vI) (gv := vIv) (by kernel_rfl) (by kernel_rfl) (ok_spec_l00Min _ _) (fun _ => rfl) fun r21 => ?_
                  refine Run.bH (e := vI) (gv := vIv) (by kernel_rfl) (by kernel_rfl) (ok_spec_l00Max _ _) (fun _ => rfl) fun r22 => ?_
                  refine Run.u 400 E_ok mixed Try.func47 ?_
                  refine Run.p [true, true, true] (by kernel_rfl) ?_
                  refine Run.bH (e := vT_I_B) (gv := vIv) (by kernel_rfl) (by kernel_rfl) (ok_spec_l03MulDown _ _) (fun _ => rfl) fun r23 => ?_
                  refine Run.p [true, true] (by kernel_rfl) ?_
                  refine Run.bH (e := vT_I_B) (gv := vIv) (by kernel_rfl) (by kernel_rfl) (ok_spec_l03MulUp _ _) (fun _ => rfl) fun r24 => ?_
                  refine Run.jH (gv := vIv) (by kernel_rfl) (?_) (?_)
                  · refine Run.p [true, true, true] (by kernel_rfl) ?_
                    refine Run.bH (e := vIv) (gv := vIv) (by kernel_rfl) (by kernel_rfl) (ok_spec_l04Whole) (fun _ => rfl) fun r25 => ?_
                    exact Run.rh (k := 0) (by kernel_rfl) (by kernel_rfl)
                  · refine Run.p [false, false] (by kernel_rfl) ?_
                    refine Run.jH (gv := vIv) (by kernel_rfl) (?_) (?_)
                    · refine Run.bH (e := vIv) (gv := vIv) (by kernel_rfl) (by kernel_rfl) (ok_spec_l04Whole) (fun _ => rfl) fun r26 => ?_
                      exact Run.rh (k := 0) (by kernel_rfl) (by kernel_rfl)
                    · refine Run.bH (e := vI) (gv := vIv) (by kernel_rfl) (by kernel_rfl) (ok_spec_l00Min _ _) (fun _ => rfl) fun r27 => ?_
                      refine Run.bH (e := vI) (gv := vIv) (by kernel_rfl) (by kernel_rfl) (ok_spec_l00Max _ _) (fun _ => rfl) fun r28 => ?_
                      refine Run.u 400 E_ok mixed Try.func47 ?_
                      refine Run.p [false] (by kernel_rfl) ?_
                      refine Run.u 400 E_ok mixed Try.func47 ?_
                      refine Run.p [false] (by kernel_rfl) ?_
                      refine Run.bH (e := vIv) (gv := vIv) (by kernel_rfl) (by kernel_rfl) (ok_spec_l04Make _ _) (fun _ => rfl) fun r29 => ?_
                      exact Run.rh (k := 0) (by kernel_rfl) (by kernel_rfl)

theorem ok_spec_AddI (a0 : Iv) (a1 : Iv) : Fun Try.prog 38 [] #[vIv a0, vIv a1] (vIv (F_spec_AddI a0 a1)) [] := by
  refine Fun.ofH 400 E_ok mixed Try.func38 (by kernel_rfl) (by kernel_rfl) ?_
  unfold F_spec_AddI
  refine Run.bH (e := vB) (gv := vIv) (by kernel_rfl) (by kernel_rfl) (ok_spec_l04Ok _) (fun _ => rfl) fun r1 => ?_
  refine Run.jH (gv := vIv) (by kernel_rfl) (?_) (?_)
  · refine Run.p [true, true, true, true] (by kernel_rfl) ?_
    refine Run.bH (e := vIv) (gv := vIv) (by kernel_rfl) (by kernel_rfl) (ok_spec_l04Whole) (fun _ => rfl) fun r2 => ?_
    exact Run.rh (k := 0) (by kernel_rfl) (by kernel_rfl)
  · refine Run.p [false] (by kernel_rfl) ?_
    refine Run.bH (e := vB) (gv := vIv) (by kernel_rfl) (by kernel_rfl) (ok_spec_l04Ok _) (fun _ => rfl) fun r3 => ?_
    refine Run.p [false, false] (by kernel_rfl) ?_
    refine Run.jH (gv := vIv) (by kernel_rfl) (?_) (?_)
    · refine Run.bH (e := vIv) (gv := vIv) (by kernel_rfl) (by kernel_rfl) (ok_spec_l04Whole) (fun _ => rfl) fun r4 => ?_
      exact Run.rh (k := 0) (by kernel_rfl) (by kernel_rfl)
    · refine Run.bH (e := vIv) (gv := vIv) (by kernel_rfl) (by kernel_rfl) (ok_spec_l04Make _ _) (fun _ => rfl) fun r5 => ?_
      exact Run.rh (k := 0) (by kernel_rfl) (by kernel_rfl)

theorem ok_spec_DotV (a0 : Vc) (a1 : Vc) : Fun Try.prog 39 [] #[vVc a0, vVc a1] (vIv (F_spec_DotV a0 a1)) [] := by
  refine Fun.ofH 400 E_ok mixed Try.func39 (by kernel_rfl) (by kernel_rfl) ?_
  unfold F_spec_DotV
  refine Run.bH (e := vIv) (gv := vIv) (by kernel_rfl) (by kernel_rfl) (ok_spec_MulI _ _) (fun _ => rfl) fun r1 => ?_
  refine Run.bH (e := vIv) (gv := vIv) (by kernel_rfl) (by kernel_rfl) (ok_spec_MulI _ _) (fun _ => rfl) fun r2 => ?_
  refine Run.bH (e := vIv) (gv := vIv) (by kernel_rfl) (by kernel_rfl) (ok_spec_AddI _ _) (fun _ => rfl) fun r3 => ?_
  refine Run.bH (e := vIv) (gv := vIv) (by kernel_rfl) (by kernel_rfl) (ok_spec_MulI _ _) (fun _ => rfl) fun r4 => ?_
  refine Run.bH (e := vIv) (gv := vIv) (by kernel_rfl) (by kernel_rfl) (ok_spec_AddI _ _) (fun _ => rfl) fun r5 => ?_
  exact Run.rh (k := 0) (by kernel_rfl) (by kernel_rfl)

theorem ok_spec_ApplyM (a0 : Mt) (a1 : Vc) : Fun Try.prog 21 [] #[vMt a0, vVc a1] (vVc (F_spec_ApplyM a0 a1)) [] := by
  refine Fun.ofH 400 E_ok mixed Try.func21 (by kernel_rfl) (by kernel_rfl) ?_
  unfold F_spec_ApplyM
  refine Run.bH (e := vIv) (gv := vVc) (by kernel_rfl) (by kernel_rfl) (ok_spec_DotV _ _) (fun _ => rfl) fun r1 => ?_
  refine Run.bH (e := vIv) (gv := vVc) (by kernel_rfl) (by kernel_rfl) (ok_spec_DotV _ _) (fun _ => rfl) fun r2 => ?_
  refine Run.bH (e := vIv) (gv := vVc) (by kernel_rfl) (by kernel_rfl) (ok_spec_DotV _ _) (fun _ => rfl) fun r3 => ?_
  exact Run.rh (k := 0) (by kernel_rfl) (by kernel_rfl)

theorem ok_spec_AddV (a0 : Vc) (a1 : Vc) : Fun Try.prog 20 [] #[vVc a0, vVc a1] (vVc (F_spec_AddV a0 a1)) [] := by
  refine Fun.ofH 400 E_ok mixed Try.func20 (by kernel_rfl) (by kernel_rfl) ?_
  unfold F_spec_AddV
  refine Run.bH (e := vIv) (gv := vVc) (by kernel_rfl) (by kernel_rfl) (ok_spec_AddI _ _) (fun _ => rfl) fun r1 => ?_
  refine Run.bH (e := vIv) (gv := vVc) (by kernel_rfl) (by kernel_rfl) (ok_spec_AddI _ _) (fun _ => rfl) fun r2 => ?_
  refine Run.bH (e := vIv) (gv := vVc) (by kernel_rfl) (by kernel_rfl) (ok_spec_AddI _ _) (fun _ => rfl) fun r3 => ?_
  exact Run.rh (k := 0) (by kernel_rfl) (by kernel_rfl)

theorem ok_spec_ApplyAffine (a0 : Af) (a1 : Vc) : Fun Try.prog 7 [] #[vAf a0, vVc a1] (vVc (F_spec_ApplyAffine a0 a1)) [] := by
  refine Fun.ofH 400 E_ok mixed Try.func7 (by kernel_rfl) (by kernel_rfl) ?_
  unfold F_spec_ApplyAffine
  refine Run.bH (e := vVc) (gv := vVc) (by kernel_rfl) (by kernel_rfl) (ok_spec_ApplyM _ _) (fun _ => rfl) fun r1 => ?_
  refine Run.bH (e := vVc) (gv := vVc) (by kernel_rfl) (by kernel_rfl) (ok_spec_AddV _ _) (fun _ => rfl) fun r2 => ?_
  exact Run.rh (k := 0) (by kernel_rfl) (by kernel_rfl)

theorem ok_impl_ValidInterval (a0 : Iv) : Fun Try.prog 87 [] #[vIv a0] (vB (F_impl_ValidInterval a0)) [] := by
  refine Fun.ofH 400 E_ok mixed Try.func87 (by kernel_rfl) (by kernel_rfl) ?_
  unfold F_impl_ValidInterval
  refine Run.jH (gv := vB) (by kernel_rfl) (?_) (?_)
  · refine Run.p [true, true, true, true, true] (by kernel_rfl) ?_
    refine Run.jH (gv := vB) (by kernel_rfl) (?_) (?_)
    · refine Run.p [true, true, true] (by kernel_rfl) ?_
      exact Run.rh (k := 0) (by kernel_rfl) (by kernel_rfl)
    · refine Run.p [false, false, false] (by kernel_rfl) ?_
      exact Run.rh (k := 0) (by kernel_rfl) (by kernel_rfl)
  · refine Run.p [false, false, false, false, false, false, false, false, false] (by kernel_rfl) ?_
    exact Run.rh (k := 0) (by kernel_rfl) (by kernel_rfl)

theorem ok_impl_areBounded (a0 : Iv) (a1 : Iv) : Fun Try.prog 66 [] #[vIv a0, vIv a1] (vB (F_impl_areBounded a0 a1)) [] := by
  refine Fun.ofH 400 E_ok mixed Try.func66 (by kernel_rfl) (by kernel_rfl) ?_
  unfold F_impl_areBounded
  refine Run.bH (e := vB) (gv := vB) (by kernel_rfl) (by kernel_rfl) (ok_impl_ValidInterval _) (fun _ => rfl) fun r1 => ?_
  refine Run.jH (gv := vB) (by kernel_rfl) (?_) (?_)
  · refine Run.p [true] (by kernel_rfl) ?_
    refine Run.bH (e := vB) (gv := vB) (by kernel_rfl) (by kernel_rfl) (ok_impl_ValidInterval _) (fun _ => rfl) fun r2 => ?_
    refine Run.p [true] (by kernel_rfl) ?_
    exact Run.rh (k := 0) (by kernel_rfl) (by kernel_rfl)
  · refine Run.p [false, false] (by kernel_rfl) ?_
    exact Run.rh (k := 0) (by kernel_rfl) (by kernel_rfl)

theorem ok_impl_Whole : Fun Try.prog 65 [] #[] (vIv (F_impl_Whole)) [] := by
  refine Fun.ofH 400 E_ok mixed Try.func65 (by kernel_rfl) (by kernel_rfl) ?_
  unfold F_impl_Whole
  exact Run.rh (k := 0) (by kernel_rfl) (by kernel_rfl)

theorem ok_impl_within (a0 : I64) (a1 : I64) (a2 : I64) : Fun Try.prog 75 [] #[vI a0, vI a1, vI a2] (vB (F_impl_within a0 a1 a2)) [] := by
  refine Fun.ofH 400 E_ok mixed Try.func75 (by kernel_rfl) (by kernel_rfl) ?_
  unfold F_impl_within
  refine Run.jH (gv := vB) (by kernel_rfl) (?_) (?_)
  · refine Run.p [true, true, true] (by kernel_rfl) ?_
    exact Run.rh (k := 0) (by kernel_rfl) (by kernel_rfl)
  · refine Run.p [false, false, false] (by kernel_rfl) ?_
    exact Run.rh (k := 0) (by kernel_rfl) (by kernel_rfl)

theorem ok_impl_ValidFix (a0 : I64) : Fun Try.prog 96 [] #[vI a0] (vB (F_impl_ValidFix a0)) [] := by
  refine Fun.ofH 400 E_ok mixed Try.func96 (by kernel_rfl) (by kernel_rfl) ?_
  unfold F_impl_ValidFix
  refine Run.bH (e := vB) (gv := vB) (by kernel_rfl) (by kernel_rfl) (ok_impl_within _ _ _) (fun _ => rfl) fun r1 => ?_
  exact Run.rh (k := 0) (by kernel_rfl) (by kernel_rfl)

theorem ok_bits_Mul64 (a0 : U64) (a1 : U64) : Fun Try.prog 119 [] #[vU a0, vU a1] (vT_U_U (F_bits_Mul64 a0 a1)) [] := by
  refine Fun.ofH 400 E_ok mixed Try.func119 (by kernel_rfl) (by kernel_rfl) ?_
  unfold F_bits_Mul64
  refine Run.p [true, true, true, true, true] (by kernel_rfl) ?_
  exact Run.rh (k := 0) (by kernel_rfl) (by kernel_rfl)

theorem ok_impl_WideMul (a0 : I64) (a1 : I64) : Fun Try.prog 107 [] #[vI a0, vI a1] (vWd (F_impl_WideMul a0 a1)) [] := by
  refine Fun.ofH 400 E_ok mixed Try.func107 (by kernel_rfl) (by kernel_rfl) ?_
  unfold F_impl_WideMul
  refine Run.bH (e := vT_U_U) (gv := vWd) (by kernel_rfl) (by kernel_rfl) (ok_bits_Mul64 _ _) (fun _ => rfl) fun r1 => ?_
  refine Run.jH (gv := vWd) (by kernel_rfl) (?_) (?_)
  · refine Run.jH (gv := vWd) (by kernel_rfl) (?_) (?_)
    · exact Run.rh (k := 0) (by kernel_rfl) (by kernel_rfl)
    · exact Run.rh (k := 0) (by kernel_rfl) (by kernel_rfl)
  · refine Run.jH (gv := vWd) (by kernel_rfl) (?_) (?_)
    · exact Run.rh (k := 0) (by kernel_rfl) (by kernel_rfl)
    · exact Run.rh (k := 0) (by kernel_rfl) (by kernel_rfl)

theorem ok_impl_WideShift (a0 : Wd) (a1 : I64) : Fun Try.prog 109 [] #[vWd a0, vI a1] (vWd (F_impl_WideShift a0 a1)) [] := by
  refine Fun.ofH 400 E_ok mixed Try.func109 (by kernel_rfl) (by kernel_rfl) ?_
  unfold F_impl_WideShift
  refine Run.bk (e := vB) (gv := vWd) (by kernel_rfl) (by kernel_rfl) (ok_impl_within _ _ _) (fun _ => rfl) fun r1 hr1 => ?_
  refine Run.jk (gv := vWd) (by kernel_rfl) (fun h2 => ?_) (fun h2 => ?_)
  · exact Run.rh (k := 0) (by kernel_rfl) (by kernel_rfl)
  · refine Run.jk (gv := vWd) (by kernel_rfl) (fun h3 => ?_) (fun h3 => ?_)
    · refine Run.p [true] (by kernel_rfl) ?_
      refine Run.k (c := (decide (0 ≤ (w64 (a1.val - 64)).val))) (by kernel_rfl) (by have q := a1.hi; rw [hr1] at h2; simp [F_impl_within, c64_val] at h2; simp only [w64_val, decide_eq_true_eq, decide_eq_false_iff_not] at *; omega) ?_
      exact Run.rh (k := 0) (by kernel_rfl) (by kernel_rfl)
    · refine Run.k (c := (decide (0 ≤ a1.val))) (by kernel_rfl) (by have q := a1.hi; rw [hr1] at h2; simp [F_impl_within, c64_val] at h2; simp only [w64_val, decide_eq_true_eq, decide_eq_false_iff_not] at *; omega) ?_
      refine Run.k (c := (decide (0 ≤ a1.val))) (by kernel_rfl) (by have q := a1.hi; rw [hr1] at h2; simp [F_impl_within, c64_val] at h2; simp only [w64_val, decide_eq_true_eq, decide_eq_false_iff_not] at *; omega) ?_
      refine Run.k (c := (decide (0 ≤ (w64 (64 - a1.val)).val))) (by kernel_rfl) (by have q := a1.hi; rw [hr1] at h2; simp [F_impl_within, c64_val] at h2; simp only [w64_val, decide_eq_true_eq, decide_eq_false_iff_not] at *; omega) ?_
      exact Run.rh (k := 0) (by kernel_rfl) (by kernel_rfl)

theorem ok_impl_WideOf (a0 : I64) : Fun Try.prog 120 [] #[vI a0] (vWd (F_impl_WideOf a0)) [] := by
  refine Fun.ofH 400 E_ok mixed Try.func120 (by kernel_rfl) (by kernel_rfl) ?_
  unfold F_impl_WideOf
  refine Run.p [true] (by kernel_rfl) ?_
  exact Run.rh (k := 0) (by kernel_rfl) (by kernel_rfl)

theorem ok_impl_WideInt (a0 : Wd) : Fun Try.prog 108 [] #[vWd a0] (vT_I_B (F_impl_WideInt a0)) [] := by
  refine Fun.ofH 400 E_ok mixed Try.func108 (by kernel_rfl) (by kernel_rfl) ?_
  unfold F_impl_WideInt
  refine Run.bH (e := vWd) (gv := vT_I_B) (by kernel_rfl) (by kernel_rfl) (ok_impl_WideOf _) (fun _ => rfl) fun r1 => ?_
  refine Run.jH (gv := vT_I_B) (by kernel_rfl) (?_) (?_)
  · exact Run.rh (k := 0) (by kernel_rfl) (by kernel_rfl)
  · exact Run.rh (k := 0) (by kernel_rfl) (by kernel_rfl)

theorem ok_impl_MulFloor (a0 : I64) (a1 : I64) (a2 : I64) : Fun Try.prog 97 [] #[vI a0, vI a1, vI a2] (vT_I_B (F_impl_MulFloor a0 a1 a2)) [] := by
  refine Fun.ofH 400 E_ok mixed Try.func97 (by kernel_rfl) (by kernel_rfl) ?_
  unfold F_impl_MulFloor
  refine Run.bH (e := vB) (gv := vT_I_B) (by kernel_rfl) (by kernel_rfl) (ok_impl_within _ _ _) (fun _ => rfl) fun r1 => ?_
  refine Run.jH (gv := vT_I_B) (by kernel_rfl) (?_) (?_)
  · exact Run.rh (k := 0) (by kernel_rfl) (by kernel_rfl)
  · refine Run.bH (e := vWd) (gv := vT_I_B) (by kernel_rfl) (by kernel_rfl) (ok_impl_WideMul _ _) (fun _ => rfl) fun r2 => ?_
    refine Run.bH (e := vWd) (gv := vT_I_B) (by kernel_rfl) (by kernel_rfl) (ok_impl_WideShift _ _) (fun _ => rfl) fun r3 => ?_
    refine Run.bH (e := vT_I_B) (gv := vT_I_B) (by kernel_rfl) (by kernel_rfl) (ok_impl_WideInt _) (fun _ => rfl) fun r4 => ?_
    exact Run.rh (k := 0) (by kernel_rfl) (by kernel_rfl)

theorem ok_impl_fixed (a0 : I64) (a1 : Bool) : Fun Try.prog 93 [] #[vI a0, vB a1] (vT_I_B (F_impl_fixed a0 a1)) [] := by
  refine Fun.ofH 400 E_ok mixed Try.func93 (by kernel_rfl) (by kernel_rfl) ?_
  unfold F_impl_fixed
  refine Run.jH (gv := vT_I_B) (by kernel_rfl) (?_) (?_)
  · refine Run.p [true, true, true, true] (by kernel_rfl) ?_
    exact Run.rh (k := 0) (by kernel_rfl) (by kernel_rfl)
  · refine Run.p [false] (by kernel_rfl) ?_
    refine Run.bH (e := vB) (gv := vT_I_B) (by kernel_rfl) (by kernel_rfl) (ok_impl_ValidFix _) (fun _ => rfl) fun r1 => ?_
    refine Run.p [false, false] (by kernel_rfl) ?_
    refine Run.jH (gv := vT_I_B) (by kernel_rfl) (?_) (?_)
    · exact Run.rh (k := 0) (by kernel_rfl) (by kernel_rfl)
    · exact Run.rh (k := 0) (by kernel_rfl) (by kernel_rfl)

theorem ok_impl_MulDown (a0 : I64) (a1 : I64) : Fun Try.prog 79 [] #[vI a0, vI a1] (vT_I_B (F_impl_MulDown a0 a1)) [] := by
  refine Fun.ofH 400 E_ok mixed Try.func79 (by kernel_rfl) (by kernel_rfl) ?_
  unfold F_impl_MulDown
  refine Run.bH (e := vB) (gv := vT_I_B) (by kernel_rfl) (by kernel_rfl) (ok_impl_ValidFix _) (fun _ => rfl) fun r1 => ?_
  refine Run.jH (gv := vT_I_B) (by kernel_rfl) (?_) (?_)
  · refine Run.p [true, true, true, true] (by kernel_rfl) ?_
    exact Run.rh (k := 0) (by kernel_rfl) (by kernel_rfl)
  · refine Run.p [false] (by kernel_rfl) ?_
    refine Run.bH (e := vB) (gv := vT_I_B) (by kernel_rfl) (by kernel_rfl) (ok_impl_ValidFix _) (fun _ => rfl) fun r2 => ?_
    refine Run.p [false, false] (by kernel_rfl) ?_
    refine Run.jH (gv := vT_I_B) (by kernel_rfl) (?_) (?_)
    · exact Run.rh (k := 0) (by kernel_rfl) (by kernel_rfl)
    · refine Run.bH (e := vT_I_B) (gv := vT_I_B) (by kernel_rfl) (by kernel_rfl) (ok_impl_MulFloor _ _ _) (fun _ => rfl) fun r3 => ?_
      refine Run.bH (e := vT_I_B) (gv := vT_I_B) (by kernel_rfl) (by kernel_rfl) (ok_impl_fixed _ _) (fun _ => rfl) fun r4 => ?_
      exact Run.rh (k := 0) (by kernel_rfl) (by kernel_rfl)

theorem ok_impl_MulUp (a0 : I64) (a1 : I64) : Fun Try.prog 80 [] #[vI a0, vI a1] (vT_I_B (F_impl_MulUp a0 a1)) [] := by
  refine Fun.ofH 400 E_ok mixed Try.func80 (by kernel_rfl) (by kernel_rfl) ?_
  unfold F_impl_MulUp
  refine Run.bH (e := vB) (gv := vT_I_B) (by kernel_rfl) (by kernel_rfl) (ok_impl_ValidFix _) (fun _ => rfl) fun r1 => ?_
  refine Run.jH (gv := vT_I_B) (by kernel_rfl) (?_) (?_)
  · refine Run.p [true, true, true, true] (by kernel_rfl) ?_
    exact Run.rh (k := 0) (by kernel_rfl) (by kernel_rfl)
  · refine Run.p [false] (by kernel_rfl) ?_
    refine Run.bH (e := vB) (gv := vT_I_B) (by kernel_rfl) (by kernel_rfl) (ok_impl_ValidFix _) (fun _ => rfl) fun r2 => ?_
    refine Run.p [false, false] (by kernel_rfl) ?_
    refine Run.jH (gv := vT_I_B) (by kernel_rfl) (?_) (?_)
    · exact Run.rh (k := 0) (by kernel_rfl) (by kernel_rfl)
    · refine Run.bH (e := vT_I_B) (gv := vT_I_B) (by kernel_rfl) (by kernel_rfl) (ok_impl_MulDown _ _) (fun _ => rfl) fun r3 => ?_
      exact Run.rh (k := 0) (by kernel_rfl) (by kernel_rfl)

theorem ok_impl_bounded (a0 : I64) (a1 : I64) (a2 : Bool) : Fun Try.prog 67 [] #[vI a0, vI a1, vB a2] (vIv (F_impl_bounded a0 a1 a2)) [] := by
  refine Fun.ofH 400 E_ok mixed Try.func67 (by kernel_rfl) (by kernel_rfl) ?_
  unfold F_impl_bounded
  refine Run.jH (gv := vIv) (by kernel_rfl) (?_) (?_)
  · refine Run.p [true] (by kernel_rfl) ?_
    refine Run.bH (e := vB) (gv := vIv) (by kernel_rfl) (by kernel_rfl) (ok_impl_ValidInterval _) (fun _ => rfl) fun r1 => ?_
    refine Run.p [true] (by kernel_rfl) ?_
    refine Run.jH (gv := vIv) (by kernel_rfl) (?_) (?_)
    · exact Run.rh (k := 0) (by kernel_rfl) (by kernel_rfl)
    · refine Run.bH (e := vIv) (gv := vIv) (by kernel_rfl) (by kernel_rfl) (ok_impl_Whole) (fun _ => rfl) fun r2 => ?_
      exact Run.rh (k := 0) (by kernel_rfl) (by kernel_rfl)
  · refine Run.p [false, false, false] (by kernel_rfl) ?_
    refine Run.bH (e := vIv) (gv := vIv) (by kernel_rfl) (by kernel_rfl) (ok_impl_Whole) (fun _ => rfl) fun r3 => ?_
    exact Run.rh (k := 0) (by kernel_rfl) (by kernel_rfl)

theorem ok_impl_combine__impl_MulDown__impl_MulUp (a0 : Iv) (a1 : Iv) : Fun Try.prog 78 [] #[vIv a0, vIv a1, .func (.func 79) #[] #[], .func (.func 80) #[] #[]] (vIv (F_impl_combine__impl_MulDown__impl_MulUp a0 a1)) [] := by
  refine Fun.ofH 400 E_ok mixed Try.func78 (by kernel_rfl) (by kernel_rfl) ?_
  unfold F_impl_combine__impl_MulDown__impl_MulUp
  refine Run.u 400 E_ok mixed Try.func78 ?_
  refine Run.p [true] (by kernel_rfl) ?_
  refine Run.u 400 E_ok mixed Try.func78 ?_
  refine Run.p [true] (by kernel_rfl) ?_
  refine Run.bH (e := vT_I_B) (gv := vIv) (by kernel_rfl) (by kernel_rfl) (ok_impl_MulDown _ _) (fun _ => rfl) fun r1 => ?_
  refine Run.bH (e := vT_I_B) (gv := vIv) (by kernel_rfl) (by kernel_rfl) (ok_impl_MulUp _ _) (fun _ => rfl) fun r2 => ?_
  refine Run.jH (gv := vIv) (by kernel_rfl) (?_) (?_)
  · refine Run.p [true, true, true] (by kernel_rfl) ?_
    refine Run.bH (e := vIv) (gv := vIv) (by kernel_rfl) (by kernel_rfl) (ok_impl_Whole) (fun _ => rfl) fun r3 => ?_
    exact Run.rh (k := 0) (by kernel_rfl) (by kernel_rfl)
  · refine Run.p [false, false] (by kernel_rfl) ?_
    refine Run.jH (gv := vIv) (by kernel_rfl) (?_) (?_)
    · refine Run.bH (e := vIv) (gv := vIv) (by kernel_rfl) (by kernel_rfl) (ok_impl_Whole) (fun _ => rfl) fun r4 => ?_
      exact Run.rh (k := 0) (by kernel_rfl) (by kernel_rfl)
    · refine Run.p [true] (by kernel_rfl) ?_
      refine Run.u 400 E_ok mixed Try.func78 ?_
      refine Run.p [true] (by kernel_rfl) ?_
      refine Run.bH (e := vT_I_B) (gv := vIv) (by kernel_rfl) (by kernel_rfl) (ok_impl_MulDown _ _) (fun _ => rfl) fun r5 => ?_
      refine Run.bH (e := vT_I_B) (gv := vIv) (by kernel_rfl) (by kernel_rfl) (ok_impl_MulUp _ _) (fun _ => rfl) fun r6 => ?_
      refine Run.jH (gv := vIv) (by kernel_rfl) (?_) (?_)
      · refine Run.p [true, true, true] (by kernel_rfl) ?_
        refine Run.bH (e := vIv) (gv := vIv) (by kernel_rfl) (by kernel_rfl) (ok_impl_Whole) (fun _ => rfl) fun r7 => ?_
        exact Run.rh (k := 0) (by kernel_rfl) (by kernel_rfl)
      · refine Run.p [false, false] (by kernel_rfl) ?_
        refine Run.jH (gv := vIv) (by kernel_rfl) (?_) (?_)
        · refine Run.bH (e := vIv) (gv := vIv) (by kernel_rfl) (by kernel_rfl) (ok_impl_Whole) (fun _ => rfl) fun r8 => ?_
          exact Run.rh (k := 0) (by kernel_rfl) (by kernel_rfl)
        · refine Run.p [false] (by kernel_rfl) ?_
          refine Run.u 400 E_ok mixed Try.func78 ?_
          refine Run.p [false] (by kernel_rfl) ?_
          refine Run.u 400 E_ok mixed Try.func78 ?_
          refine Run.p [true] (by kernel_rfl) ?_
          refine Run.u 400 E_ok mixed Try.func78 ?_
          refine Run.p [true] (by kernel_rfl) ?_
          refine Run.bH (e := vT_I_B) (gv := vIv) (by kernel_rfl) (by kernel_rfl) (ok_impl_MulDown _ _) (fun _ => rfl) fun r9 => ?_
          refine Run.bH (e := vT_I_B) (gv := vIv) (by kernel_rfl) (by kernel_rfl) (ok_impl_MulUp _ _) (fun _ => rfl) fun r10 => ?_
          refine Run.jH (gv := vIv) (by kernel_rfl) (?_) (?_)
          · refine Run.p [true, true, true] (by kernel_rfl) ?_
            refine Run.bH (e := vIv) (gv := vIv) (by kernel_rfl) (by kernel_rfl) (ok_impl_Whole) (fun _ => rfl) fun r11 => ?_
            exact Run.rh (k := 0) (by kernel_rfl) (by kernel_rfl)
          · refine Run.p [false, false] (by kernel_rfl) ?_
            refine Run.jH (gv := vIv) (by kernel_rfl) (?_) (?_)
            · refine Run.bH (e := vIv) (gv := vIv) (by kernel_rfl) (by kernel_rfl) (ok_impl_Whole) (fun _ => rfl) fun r12 => ?_
              exact Run.rh (k := 0) (by kernel_rfl) (by kernel_rfl)
            · refine Run.p [false] (by kernel_rfl) ?_
              refine Run.u 400 E_ok mixed Try.func78 ?_
              refine Run.p [true] (by kernel_rfl) ?_
              refine Run.bH (e := vT_I_B) (gv := vIv) (by kernel_rfl) (by kernel_rfl) (ok_impl_MulDown _ _) (fun _ => rfl) fun r13 => ?_
              refine Run.bH (e := vT_I_B) (gv := vIv) (by kernel_rfl) (by kernel_rfl) (ok_impl_MulUp _ _) (fun _ => rfl) fun r14 => ?_
              refine Run.jH (gv := vIv) (by kernel_rfl) (?_) (?_)
              · refine Run.p [true, true, true] (by kernel_rfl) ?_
                refine Run.bH (e := vIv) (gv := vIv) (by kernel_rfl) (by kernel_rfl) (ok_impl_Whole) (fun _ => rfl) fun r15 => ?_
                exact Run.rh (k := 0) (by kernel_rfl) (by kernel_rfl)
              · refine Run.p [false, false] (by kernel_rfl) ?_
                refine Run.jH (gv := vIv) (by kernel_rfl) (?_) (?_)
                · refine Run.bH (e := vIv) (gv := vIv) (by kernel_rfl) (by kernel_rfl) (ok_impl_Whole) (fun _ => rfl) fun r16 => ?_
                  exact Run.rh (k := 0) (by kernel_rfl) (by kernel_rfl)
                · refine Run.p [false] (by kernel_rfl) ?_
                  refine Run.u 400 E_ok mixed Try.func78 ?_
                  refine Run.p [false] (by kernel_rfl) ?_
                  refine Run.u 400 E_ok mixed Try.func78 ?_
                  refine Run.p [false] (by kernel_rfl) ?_
                  refine Run.bH (e := vIv) (gv := vIv) (by kernel_rfl) (by kernel_rfl) (ok_impl_bounded _ _ _) (fun _ => rfl) fun r17 => ?_
                  exact Run.rh (k := 0) (by kernel_rfl) (by kernel_rfl)

theorem ok_impl_MulI (a0 : Iv) (a1 : Iv) : Fun Try.prog 53 [] #[vIv a0, vIv a1] (vIv (F_impl_MulI a0 a1)) [] := by
  refine Fun.ofH 400 E_ok mixed Try.func53 (by kernel_rfl) (by kernel_rfl) ?_
  unfold F_impl_MulI
  refine Run.bH (e := vB) (gv := vIv) (by kernel_rfl) (by kernel_rfl) (ok_impl_areBounded _ _) (fun _ => rfl) fun r1 => ?_
  refine Run.jH (gv := vIv) (by kernel_rfl) (?_) (?_)
  · refine Run.bH (e := vIv) (gv := vIv) (by kernel_rfl) (by kernel_rfl) (ok_impl_Whole) (fun _ => rfl) fun r2 => ?_
    exact Run.rh (k := 0) (by kernel_rfl) (by kernel_rfl)
  · refine Run.bH (e := vIv) (gv := vIv) (by kernel_rfl) (by kernel_rfl) (ok_impl_combine__impl_MulDown__impl_MulUp _ _) (fun _ => rfl) fun r3 => ?_
    exact Run.rh (k := 0) (by kernel_rfl) (by kernel_rfl)

theorem ok_impl_AddI (a0 : Iv) (a1 : Iv) : Fun Try.prog 40 [] #[vIv a0, vIv a1] (vIv (F_impl_AddI a0 a1)) [] := by
  refine Fun.ofH 400 E_ok mixed Try.func40 (by kernel_rfl) (by kernel_rfl) ?_
  unfold F_impl_AddI
  refine Run.bH (e := vB) (gv := vIv) (by kernel_rfl) (by kernel_rfl) (ok_impl_areBounded _ _) (fun _ => rfl) fun r1 => ?_
  refine Run.jH (gv := vIv) (by kernel_rfl) (?_) (?_)
  · refine Run.bH (e := vIv) (gv := vIv) (by kernel_rfl) (by kernel_rfl) (ok_impl_Whole) (fun _ => rfl) fun r2 => ?_
    exact Run.rh (k := 0) (by kernel_rfl) (by kernel_rfl)
  · refine Run.bH (e := vIv) (gv := vIv) (by kernel_rfl) (by kernel_rfl) (ok_impl_bounded _ _ _) (fun _ => rfl) fun r3 => ?_
    exact Run.rh (k := 0) (by kernel_rfl) (by kernel_rfl)

theorem ok_impl_DotV (a0 : Vc) (a1 : Vc) : Fun Try.prog 41 [] #[vVc a0, vVc a1] (vIv (F_impl_DotV a0 a1)) [] := by
  refine Fun.ofH 400 E_ok mixed Try.func41 (by kernel_rfl) (by kernel_rfl) ?_
  unfold F_impl_DotV
  refine Run.bH (e := vIv) (gv := vIv) (by kernel_rfl) (by kernel_rfl) (ok_impl_MulI _ _) (fun _ => rfl) fun r1 => ?_
  refine Run.bH (e := vIv) (gv := vIv) (by kernel_rfl) (by kernel_rfl) (ok_impl_MulI _ _) (fun _ => rfl) fun r2 => ?_
  refine Run.bH (e := vIv) (gv := vIv) (by kernel_rfl) (by kernel_rfl) (ok_impl_AddI _ _) (fun _ => rfl) fun r3 => ?_
  refine Run.bH (e := vIv) (gv := vIv) (by kernel_rfl) (by kernel_rfl) (ok_impl_MulI _ _) (fun _ => rfl) fun r4 => ?_
  refine Run.bH (e := vIv) (gv := vIv) (by kernel_rfl) (by kernel_rfl) (ok_impl_AddI _ _) (fun _ => rfl) fun r5 => ?_
  exact Run.rh (k := 0) (by kernel_rfl) (by kernel_rfl)

theorem ok_impl_ApplyM (a0 : Mt) (a1 : Vc) : Fun Try.prog 25 [] #[vMt a0, vVc a1] (vVc (F_impl_ApplyM a0 a1)) [] := by
  refine Fun.ofH 400 E_ok mixed Try.func25 (by kernel_rfl) (by kernel_rfl) ?_
  unfold F_impl_ApplyM
  refine Run.bH (e := vIv) (gv := vVc) (by kernel_rfl) (by kernel_rfl) (ok_impl_DotV _ _) (fun _ => rfl) fun r1 => ?_
  refine Run.bH (e := vIv) (gv := vVc) (by kernel_rfl) (by kernel_rfl) (ok_impl_DotV _ _) (fun _ => rfl) fun r2 => ?_
  refine Run.bH (e := vIv) (gv := vVc) (by kernel_rfl) (by kernel_rfl) (ok_impl_DotV _ _) (fun _ => rfl) fun r3 => ?_
  exact Run.rh (k := 0) (by kernel_rfl) (by kernel_rfl)

theorem ok_impl_AddV (a0 : Vc) (a1 : Vc) : Fun Try.prog 24 [] #[vVc a0, vVc a1] (vVc (F_impl_AddV a0 a1)) [] := by
  refine Fun.ofH 400 E_ok mixed Try.func24 (by kernel_rfl) (by kernel_rfl) ?_
  unfold F_impl_AddV
  refine Run.bH (e := vIv) (gv := vVc) (by kernel_rfl) (by kernel_rfl) (ok_impl_AddI _ _) (fun _ => rfl) fun r1 => ?_
  refine Run.bH (e := vIv) (gv := vVc) (by kernel_rfl) (by kernel_rfl) (ok_impl_AddI _ _) (fun _ => rfl) fun r2 => ?_
  refine Run.bH (e := vIv) (gv := vVc) (by kernel_rfl) (by kernel_rfl) (ok_impl_AddI _ _) (fun _ => rfl) fun r3 => ?_
  exact Run.rh (k := 0) (by kernel_rfl) (by kernel_rfl)

theorem ok_impl_ApplyAffine (a0 : Af) (a1 : Vc) : Fun Try.prog 10 [] #[vAf a0, vVc a1] (vVc (F_impl_ApplyAffine a0 a1)) [] := by
  refine Fun.ofH 400 E_ok mixed Try.func10 (by kernel_rfl) (by kernel_rfl) ?_
  unfold F_impl_ApplyAffine
  refine Run.bH (e := vVc) (gv := vVc) (by kernel_rfl) (by kernel_rfl) (ok_impl_ApplyM _ _) (fun _ => rfl) fun r1 => ?_
  refine Run.bH (e := vVc) (gv := vVc) (by kernel_rfl) (by kernel_rfl) (ok_impl_AddV _ _) (fun _ => rfl) fun r2 => ?_
  exact Run.rh (k := 0) (by kernel_rfl) (by kernel_rfl)

theorem ok_laws_eqInterval (a0 : Iv) (a1 : Iv) : Fun Try.prog 26 [] #[vIv a0, vIv a1] (vB (F_laws_eqInterval a0 a1)) [] := by
  refine Fun.ofH 400 E_ok mixed Try.func26 (by kernel_rfl) (by kernel_rfl) ?_
  unfold F_laws_eqInterval
  refine Run.jH (gv := vB) (by kernel_rfl) (?_) (?_)
  · exact Run.rh (k := 0) (by kernel_rfl) (by kernel_rfl)
  · refine Run.jH (gv := vB) (by kernel_rfl) (?_) (?_)
    · exact Run.rh (k := 0) (by kernel_rfl) (by kernel_rfl)
    · exact Run.rh (k := 0) (by kernel_rfl) (by kernel_rfl)

theorem ok_laws_eqVec (a0 : Vc) (a1 : Vc) : Fun Try.prog 11 [] #[vVc a0, vVc a1] (vB (F_laws_eqVec a0 a1)) [] := by
  refine Fun.ofH 400 E_ok mixed Try.func11 (by kernel_rfl) (by kernel_rfl) ?_
  unfold F_laws_eqVec
  refine Run.bH (e := vB) (gv := vB) (by kernel_rfl) (by kernel_rfl) (ok_laws_eqInterval _ _) (fun _ => rfl) fun r1 => ?_
  refine Run.jH (gv := vB) (by kernel_rfl) (?_) (?_)
  · exact Run.rh (k := 0) (by kernel_rfl) (by kernel_rfl)
  · refine Run.bH (e := vB) (gv := vB) (by kernel_rfl) (by kernel_rfl) (ok_laws_eqInterval _ _) (fun _ => rfl) fun r2 => ?_
    refine Run.jH (gv := vB) (by kernel_rfl) (?_) (?_)
    · exact Run.rh (k := 0) (by kernel_rfl) (by kernel_rfl)
    · refine Run.bH (e := vB) (gv := vB) (by kernel_rfl) (by kernel_rfl) (ok_laws_eqInterval _ _) (fun _ => rfl) fun r3 => ?_
      refine Run.jH (gv := vB) (by kernel_rfl) (?_) (?_)
      · exact Run.rh (k := 0) (by kernel_rfl) (by kernel_rfl)
      · exact Run.rh (k := 0) (by kernel_rfl) (by kernel_rfl)

theorem ok_laws_FnExactApplyAffine (a0 : Af) (a1 : Vc) : Fun Try.prog 3 [] #[vAf a0, vVc a1] (vB (F_laws_FnExactApplyAffine a0 a1)) [] := by
  refine Fun.ofH 400 E_ok mixed Try.func3 (by kernel_rfl) (by kernel_rfl) ?_
  unfold F_laws_FnExactApplyAffine
  refine Run.bH (e := vAf) (gv := vB) (by kernel_rfl) (by kernel_rfl) (ok_laws_toAffine _) (fun _ => rfl) fun r1 => ?_
  refine Run.bH (e := vVc) (gv := vB) (by kernel_rfl) (by kernel_rfl) (ok_laws_toVec _) (fun _ => rfl) fun r2 => ?_
  refine Run.bH (e := vVc) (gv := vB) (by kernel_rfl) (by kernel_rfl) (ok_spec_ApplyAffine _ _) (fun _ => rfl) fun r3 => ?_
  refine Run.bH (e := vAf) (gv := vB) (by kernel_rfl) (by kernel_rfl) (ok_laws_toAffine _) (fun _ => rfl) fun r4 => ?_
  refine Run.bH (e := vVc) (gv := vB) (by kernel_rfl) (by kernel_rfl) (ok_laws_toVec _) (fun _ => rfl) fun r5 => ?_
  refine Run.bH (e := vVc) (gv := vB) (by kernel_rfl) (by kernel_rfl) (ok_impl_ApplyAffine _ _) (fun _ => rfl) fun r6 => ?_
  refine Run.bH (e := vB) (gv := vB) (by kernel_rfl) (by kernel_rfl) (ok_laws_eqVec _ _) (fun _ => rfl) fun r7 => ?_
  refine Run.jH (gv := vB) (by kernel_rfl) (?_) (?_)
  · exact Run.rh (k := 0) (by kernel_rfl) (by kernel_rfl)
  · exact Run.rh (k := 0) (by kernel_rfl) (by kernel_rfl)

theorem ok_spec_l10Columns (a0 : Mt) : Fun Try.prog 42 [] #[vMt a0] (vMt (F_spec_l10Columns a0)) [] := by
  refine Fun.ofH 400 E_ok mixed Try.func42 (by kernel_rfl) (by kernel_rfl) ?_
  unfold F_spec_l10Columns
  exact Run.rh (k := 0) (by kernel_rfl) (by kernel_rfl)

theorem ok_spec_MulM (a0 : Mt) (a1 : Mt) : Fun Try.prog 27 [] #[vMt a0, vMt a1] (vMt (F_spec_MulM a0 a1)) [] := by
  refine Fun.ofH 400 E_ok mixed Try.func27 (by kernel_rfl) (by kernel_rfl) ?_
  unfold F_spec_MulM
  refine Run.bH (e := vMt) (gv := vMt) (by kernel_rfl) (by kernel_rfl) (ok_spec_l10Columns _) (fun _ => rfl) fun r1 => ?_
  refine Run.bH (e := vVc) (gv := vMt) (by kernel_rfl) (by kernel_rfl) (ok_spec_ApplyM _ _) (fun _ => rfl) fun r2 => ?_
  refine Run.bH (e := vVc) (gv := vMt) (by kernel_rfl) (by kernel_rfl) (ok_spec_ApplyM _ _) (fun _ => rfl) fun r3 => ?_
  refine Run.bH (e := vVc) (gv := vMt) (by kernel_rfl) (by kernel_rfl) (ok_spec_ApplyM _ _) (fun _ => rfl) fun r4 => ?_
  exact Run.rh (k := 0) (by kernel_rfl) (by kernel_rfl)

theorem ok_spec_ThenAffine (a0 : Af) (a1 : Af) : Fun Try.prog 12 [] #[vAf a0, vAf a1] (vAf (F_spec_ThenAffine a0 a1)) [] := by
  refine Fun.ofH 400 E_ok mixed Try.func12 (by kernel_rfl) (by kernel_rfl) ?_
  unfold F_spec_ThenAffine
  refine Run.bH (e := vMt) (gv := vAf) (by kernel_rfl) (by kernel_rfl) (ok_spec_MulM _ _) (fun _ => rfl) fun r1 => ?_
  refine Run.bH (e := vVc) (gv := vAf) (by kernel_rfl) (by kernel_rfl) (ok_spec_ApplyAffine _ _) (fun _ => rfl) fun r2 => ?_
  exact Run.rh (k := 0) (by kernel_rfl) (by kernel_rfl)

theorem ok_impl_transposed (a0 : Mt) : Fun Try.prog 43 [] #[vMt a0] (vMt (F_impl_transposed a0)) [] := by
  refine Fun.ofH 400 E_ok mixed Try.func43 (by kernel_rfl) (by kernel_rfl) ?_
  unfold F_impl_transposed
  exact Run.rh (k := 0) (by kernel_rfl) (by kernel_rfl)

theorem ok_impl_MulM (a0 : Mt) (a1 : Mt) : Fun Try.prog 28 [] #[vMt a0, vMt a1] (vMt (F_impl_MulM a0 a1)) [] := by
  refine Fun.ofH 400 E_ok mixed Try.func28 (by kernel_rfl) (by kernel_rfl) ?_
  unfold F_impl_MulM
  refine Run.bH (e := vMt) (gv := vMt) (by kernel_rfl) (by kernel_rfl) (ok_impl_transposed _) (fun _ => rfl) fun r1 => ?_
  refine Run.bH (e := vVc) (gv := vMt) (by kernel_rfl) (by kernel_rfl) (ok_impl_ApplyM _ _) (fun _ => rfl) fun r2 => ?_
  refine Run.bH (e := vVc) (gv := vMt) (by kernel_rfl) (by kernel_rfl) (ok_impl_ApplyM _ _) (fun _ => rfl) fun r3 => ?_
  refine Run.bH (e := vVc) (gv := vMt) (by kernel_rfl) (by kernel_rfl) (ok_impl_ApplyM _ _) (fun _ => rfl) fun r4 => ?_
  exact Run.rh (k := 0) (by kernel_rfl) (by kernel_rfl)

theorem ok_impl_ThenAffine (a0 : Af) (a1 : Af) : Fun Try.prog 13 [] #[vAf a0, vAf a1] (vAf (F_impl_ThenAffine a0 a1)) [] := by
  refine Fun.ofH 400 E_ok mixed Try.func13 (by kernel_rfl) (by kernel_rfl) ?_
  unfold F_impl_ThenAffine
  refine Run.bH (e := vMt) (gv := vAf) (by kernel_rfl) (by kernel_rfl) (ok_impl_MulM _ _) (fun _ => rfl) fun r1 => ?_
  refine Run.bH (e := vVc) (gv := vAf) (by kernel_rfl) (by kernel_rfl) (ok_impl_ApplyAffine _ _) (fun _ => rfl) fun r2 => ?_
  exact Run.rh (k := 0) (by kernel_rfl) (by kernel_rfl)

theorem ok_laws_eqMat (a0 : Mt) (a1 : Mt) : Fun Try.prog 29 [] #[vMt a0, vMt a1] (vB (F_laws_eqMat a0 a1)) [] := by
  refine Fun.ofH 400 E_ok mixed Try.func29 (by kernel_rfl) (by kernel_rfl) ?_
  unfold F_laws_eqMat
  refine Run.bH (e := vB) (gv := vB) (by kernel_rfl) (by kernel_rfl) (ok_laws_eqVec _ _) (fun _ => rfl) fun r1 => ?_
  refine Run.jH (gv := vB) (by kernel_rfl) (?_) (?_)
  · exact Run.rh (k := 0) (by kernel_rfl) (by kernel_rfl)
  · refine Run.bH (e := vB) (gv := vB) (by kernel_rfl) (by kernel_rfl) (ok_laws_eqVec _ _) (fun _ => rfl) fun r2 => ?_
    refine Run.jH (gv := vB) (by kernel_rfl) (?_) (?_)
    · exact Run.rh (k := 0) (by kernel_rfl) (by kernel_rfl)
    · refine Run.bH (e := vB) (gv := vB) (by kernel_rfl) (by kernel_rfl) (ok_laws_eqVec _ _) (fun _ => rfl) fun r3 => ?_
      refine Run.jH (gv := vB) (by kernel_rfl) (?_) (?_)
      · exact Run.rh (k := 0) (by kernel_rfl) (by kernel_rfl)
      · exact Run.rh (k := 0) (by kernel_rfl) (by kernel_rfl)

end Go.Proofs.Ytkbkopmelaiffaa.Abs
