/- The program's functions are these; part 0 (written by w.py). -/
import Derived.Test.YtmkiegnnaabmaaaGreatE
import Derived.Test.YtmkiegnnaabmaaaGreatF3
import Derived.Test.YtmkiegnnaabmaaaGreatQpre
set_option linter.unusedVariables false
set_option linter.unusedSimpArgs false
namespace Go.Proofs.YtmkiegnnaabmaaaGreat.Abs
open Go Go.RowKit

theorem ok_spec_l00In (a0 : I64) (a1 : I64) (a2 : I64) : Fun Tryz.prog 98 [] #[vI a0, vI a1, vI a2] (vB (F_spec_l00In a0 a1 a2)) [] := by
  refine Fun.ofH 400 E_ok mixed Tryz.func98 (by kernel_rfl) (by kernel_rfl) ?_
  unfold F_spec_l00In
  refine Run.jH (gv := vB) (by kernel_rfl) (?_) (?_)
  · refine Run.p [true, true, true] (by kernel_rfl) ?_
    exact Run.rh (k := 0) (by kernel_rfl) (by kernel_rfl)
  · refine Run.p [false, false, false] (by kernel_rfl) ?_
    exact Run.rh (k := 0) (by kernel_rfl) (by kernel_rfl)

theorem ok_spec_l02Size (a0 : I64) : Fun Tryz.prog 182 [] #[vI a0] (vU (F_spec_l02Size a0)) [] := by
  refine Fun.ofH 400 E_ok mixed Tryz.func182 (by kernel_rfl) (by kernel_rfl) ?_
  unfold F_spec_l02Size
  refine Run.jH (gv := vU) (by kernel_rfl) (?_) (?_)
  · exact Run.rh (k := 0) (by kernel_rfl) (by kernel_rfl)
  · exact Run.rh (k := 0) (by kernel_rfl) (by kernel_rfl)

theorem ok_spec_l02Times (a0 : U64) (a1 : U64) : Fun Tryz.prog 181 [] #[vU a0, vU a1] (vT_U_U (F_spec_l02Times a0 a1)) [] := by
  refine Fun.ofH 400 E_ok mixed Tryz.func181 (by kernel_rfl) (by kernel_rfl) ?_
  unfold F_spec_l02Times
  refine Run.p [true, true, true, true, true, true, true] (by kernel_rfl) ?_
  exact Run.rh (k := 0) (by kernel_rfl) (by kernel_rfl)

theorem ok_spec_l02Minus (a0 : Wd) : Fun Tryz.prog 178 [] #[vWd a0] (vWd (F_spec_l02Minus a0)) [] := by
  refine Fun.ofH 400 E_ok mixed Tryz.func178 (by kernel_rfl) (by kernel_rfl) ?_
  unfold F_spec_l02Minus
  refine Run.jH (gv := vWd) (by kernel_rfl) (?_) (?_)
  · exact Run.rh (k := 0) (by kernel_rfl) (by kernel_rfl)
  · exact Run.rh (k := 0) (by kernel_rfl) (by kernel_rfl)

theorem ok_spec_l02Mul (a0 : I64) (a1 : I64) : Fun Tryz.prog 150 [] #[vI a0, vI a1] (vWd (F_spec_l02Mul a0 a1)) [] := by
  refine Fun.ofH 400 E_ok mixed Tryz.func150 (by kernel_rfl) (by kernel_rfl) ?_
  unfold F_spec_l02Mul
  refine Run.bH (e := vU) (gv := vWd) (by kernel_rfl) (by kernel_rfl) (ok_spec_l02Size _) (fun _ => rfl) fun r1 => ?_
  refine Run.bH (e := vU) (gv := vWd) (by kernel_rfl) (by kernel_rfl) (ok_spec_l02Size _) (fun _ => rfl) fun r2 => ?_
  refine Run.bH (e := vT_U_U) (gv := vWd) (by kernel_rfl) (by kernel_rfl) (ok_spec_l02Times _ _) (fun _ => rfl) fun r3 => ?_
  refine Run.jH (gv := vWd) (by kernel_rfl) (?_) (?_)
  · refine Run.bH (e := vWd) (gv := vWd) (by kernel_rfl) (by kernel_rfl) (ok_spec_l02Minus _) (fun _ => rfl) fun r4 => ?_
    exact Run.rh (k := 0) (by kernel_rfl) (by kernel_rfl)
  · exact Run.rh (k := 0) (by kernel_rfl) (by kernel_rfl)

theorem ok_spec_l02Shift (a0 : Wd) (a1 : I64) : Fun Tryz.prog 156 [] #[vWd a0, vI a1] (vWd (F_spec_l02Shift a0 a1)) [] := by
  refine Fun.ofH 400 E_ok mixed Tryz.func156 (by kernel_rfl) (by kernel_rfl) ?_
  unfold F_spec_l02Shift
  refine Run.jk (gv := vWd) (by kernel_rfl) (fun h1 => ?_) (fun h1 => ?_)
  · exact Run.rh (k := 0) (by kernel_rfl) (by kernel_rfl)
  · refine Run.jk (gv := vWd) (by kernel_rfl) (fun h2 => ?_) (fun h2 => ?_)
    · refine Run.k (c := (decide (0 ≤ (wu64 a1.val).val))) (by kernel_rfl) (by simp only [w64_val, wu64_val, c64_val, cu64_val, decide_eq_true_eq, decide_eq_false_iff_not, cond_true, cond_false] at *; omega) ?_
      refine Run.k (c := (decide (0 ≤ (wu64 a1.val).val))) (by kernel_rfl) (by simp only [w64_val, wu64_val, c64_val, cu64_val, decide_eq_true_eq, decide_eq_false_iff_not, cond_true, cond_false] at *; omega) ?_
      refine Run.k (c := (decide (0 ≤ (wu64 (w64 (64 - a1.val)).val).val))) (by kernel_rfl) (by simp only [w64_val, wu64_val, c64_val, cu64_val, decide_eq_true_eq, decide_eq_false_iff_not, cond_true, cond_false] at *; omega) ?_
      exact Run.rh (k := 0) (by kernel_rfl) (by kernel_rfl)
    · refine Run.p [true] (by kernel_rfl) ?_
      refine Run.k (c := (decide (0 ≤ (wu64 (w64 (a1.val - 64)).val).val))) (by kernel_rfl) (by simp only [w64_val, wu64_val, c64_val, cu64_val, decide_eq_true_eq, decide_eq_false_iff_not, cond_true, cond_false] at *; omega) ?_
      exact Run.rh (k := 0) (by kernel_rfl) (by kernel_rfl)

theorem ok_spec_l02Of (a0 : I64) : Fun Tryz.prog 180 [] #[vI a0] (vWd (F_spec_l02Of a0)) [] := by
  refine Fun.ofH 400 E_ok mixed Tryz.func180 (by kernel_rfl) (by kernel_rfl) ?_
  unfold F_spec_l02Of
  refine Run.jH (gv := vWd) (by kernel_rfl) (?_) (?_)
  · exact Run.rh (k := 0) (by kernel_rfl) (by kernel_rfl)
  · exact Run.rh (k := 0) (by kernel_rfl) (by kernel_rfl)

theorem ok_spec_l02Int (a0 : Wd) : Fun Tryz.prog 151 [] #[vWd a0] (vT_I_B (F_spec_l02Int a0)) [] := by
  refine Fun.ofH 400 E_ok mixed Tryz.func151 (by kernel_rfl) (by kernel_rfl) ?_
  unfold F_spec_l02Int
  refine Run.bH (e := vWd) (gv := vT_I_B) (by kernel_rfl) (by kernel_rfl) (ok_spec_l02Of _) (fun _ => rfl) fun r1 => ?_
  refine Run.jH (gv := vT_I_B) (by kernel_rfl) (?_) (?_)
  · exact Run.rh (k := 0) (by kernel_rfl) (by kernel_rfl)
  · exact Run.rh (k := 0) (by kernel_rfl) (by kernel_rfl)

theorem ok_spec_MulFloor (a0 : I64) (a1 : I64) (a2 : I64) : Fun Tryz.prog 130 [] #[vI a0, vI a1, vI a2] (vT_I_B (F_spec_MulFloor a0 a1 a2)) [] := by
  refine Fun.ofH 400 E_ok mixed Tryz.func130 (by kernel_rfl) (by kernel_rfl) ?_
  unfold F_spec_MulFloor
  refine Run.bH (e := vB) (gv := vT_I_B) (by kernel_rfl) (by kernel_rfl) (ok_spec_l00In _ _ _) (fun _ => rfl) fun r1 => ?_
  refine Run.jH (gv := vT_I_B) (by kernel_rfl) (?_) (?_)
  · exact Run.rh (k := 0) (by kernel_rfl) (by kernel_rfl)
  · refine Run.bH (e := vWd) (gv := vT_I_B) (by kernel_rfl) (by kernel_rfl) (ok_spec_l02Mul _ _) (fun _ => rfl) fun r2 => ?_
    refine Run.bH (e := vWd) (gv := vT_I_B) (by kernel_rfl) (by kernel_rfl) (ok_spec_l02Shift _ _) (fun _ => rfl) fun r3 => ?_
    refine Run.bH (e := vT_I_B) (gv := vT_I_B) (by kernel_rfl) (by kernel_rfl) (ok_spec_l02Int _) (fun _ => rfl) fun r4 => ?_
    exact Run.rh (k := 0) (by kernel_rfl) (by kernel_rfl)

theorem ok_spec_l05Turn_r : ∀ (fu : Nat) (a0 : I64) (p0 : -9223372036854775808 < a0.val) (hm : min (0 - a0.val).toNat 1 < fu), Fun Tryz.prog 126 [] #[vI a0] (vIv (F_spec_l05Turn_r fu a0)) [] := by
  intro fu
  induction fu with
  | zero => intro a0 p0 hm; exact absurd hm (Nat.not_lt_zero _)
  | succ fu ih =>
    intro a0 p0 hm
    refine Fun.ofH 400 E_ok mixed Tryz.func126 (by kernel_rfl) (by kernel_rfl) ?_
    unfold F_spec_l05Turn_r
    refine Run.jk (gv := vIv) (by kernel_rfl) (fun h1 => ?_) (fun h1 => ?_)
    · exact Run.rh (k := 0) (by kernel_rfl) (by kernel_rfl)
    · refine Run.jk (gv := vIv) (by kernel_rfl) (fun h2 => ?_) (fun h2 => ?_)
      · refine Run.bk (e := vIv) (gv := vIv) (by kernel_rfl) (by kernel_rfl) (ih (w64 (0 - a0.val)) (by simp only [w64_val, decide_eq_true_eq, decide_eq_false_iff_not] at *; omega) (by simp only [w64_val, decide_eq_true_eq, decide_eq_false_iff_not] at *; omega)) (fun _ => rfl) fun r3 hr3 => ?_
        exact Run.rh (k := 0) (by kernel_rfl) (by kernel_rfl)
      · refine Run.bk (e := vT_I_B) (gv := vIv) (by kernel_rfl) (by kernel_rfl) (ok_spec_MulFloor _ _ _) (fun _ => rfl) fun r4 hr4 => ?_
        exact Run.rh (k := 0) (by kernel_rfl) (by kernel_rfl)
theorem ok_spec_l05Turn (a0 : I64) (p0 : -9223372036854775808 < a0.val) : Fun Tryz.prog 126 [] #[vI a0] (vIv (F_spec_l05Turn a0)) [] := ok_spec_l05Turn_r 2 a0 p0 (by omega)

theorem ok_spec_l07Quarter : Fun Tryz.prog 69 [] #[] (vIv (F_spec_l07Quarter)) [] := by
  refine Fun.ofH 400 E_ok mixed Tryz.func69 (by kernel_rfl) (by kernel_rfl) ?_
  unfold F_spec_l07Quarter
  refine Run.bk (e := vIv) (gv := vIv) (by kernel_rfl) (by kernel_rfl) (ok_spec_l05Turn _ (by simp only [w64_val, wu64_val, c64_val, cu64_val, decide_eq_true_eq, decide_eq_false_iff_not, cond_true, cond_false] at *; omega)) (fun _ => rfl) fun r1 hr1 => ?_
  refine Run.bk (e := vIv) (gv := vIv) (by kernel_rfl) (by kernel_rfl) (ok_spec_l05Turn _ (by simp only [w64_val, wu64_val, c64_val, cu64_val, decide_eq_true_eq, decide_eq_false_iff_not, cond_true, cond_false] at *; omega)) (fun _ => rfl) fun r2 hr2 => ?_
  exact Run.rh (k := 0) (by kernel_rfl) (by kernel_rfl)

theorem ok_spec_l05At (a0 : I64) : Fun Tryz.prog 155 [] #[vI a0] (vIv (F_spec_l05At a0)) [] := by
  refine Fun.ofH 400 E_ok mixed Tryz.func155 (by kernel_rfl) (by kernel_rfl) ?_
  unfold F_spec_l05At
  exact Run.rh (k := 0) (by kernel_rfl) (by kernel_rfl)

theorem ok_spec_l04Ok (a0 : Iv) : Fun Tryz.prog 77 [] #[vIv a0] (vB (F_spec_l04Ok a0)) [] := by
  refine Fun.ofH 400 E_ok mixed Tryz.func77 (by kernel_rfl) (by kernel_rfl) ?_
  unfold F_spec_l04Ok
  refine Run.jH (gv := vB) (by kernel_rfl) (?_) (?_)
  · refine Run.p [true, true, true, true, true] (by kernel_rfl) ?_
    refine Run.jH (gv := vB) (by kernel_rfl) (?_) (?_)
    · refine Run.p [true, true, true] (by kernel_rfl) ?_
      exact Run.rh (k := 0) (by kernel_rfl) (by kernel_rfl)
    · refine Run.p [false, false, false] (by kernel_rfl) ?_
      exact Run.rh (k := 0) (by kernel_rfl) (by kernel_rfl)
  · refine Run.p [false, false, false, false, false, false, false, false, false] (by kernel_rfl) ?_
    exact Run.rh (k := 0) (by kernel_rfl) (by kernel_rfl)

theorem ok_spec_ValidInterval (a0 : Iv) : Fun Tryz.prog 157 [] #[vIv a0] (vB (F_spec_ValidInterval a0)) [] := by
  refine Fun.ofH 400 E_ok mixed Tryz.func157 (by kernel_rfl) (by kernel_rfl) ?_
  unfold F_spec_ValidInterval
  refine Run.bH (e := vB) (gv := vB) (by kernel_rfl) (by kernel_rfl) (ok_spec_l04Ok _) (fun _ => rfl) fun r1 => ?_
  exact Run.rh (k := 0) (by kernel_rfl) (by kernel_rfl)

theorem ok_spec_l06Angle (a0 : I64) : Fun Tryz.prog 158 [] #[vI a0] (vB (F_spec_l06Angle a0)) [] := by
  refine Fun.ofH 400 E_ok mixed Tryz.func158 (by kernel_rfl) (by kernel_rfl) ?_
  unfold F_spec_l06Angle
  refine Run.bH (e := vB) (gv := vB) (by kernel_rfl) (by kernel_rfl) (ok_spec_l00In _ _ _) (fun _ => rfl) fun r1 => ?_
  exact Run.rh (k := 0) (by kernel_rfl) (by kernel_rfl)

theorem ok_spec_l06Fits (a0 : Iv) : Fun Tryz.prog 132 [] #[vIv a0] (vB (F_spec_l06Fits a0)) [] := by
  refine Fun.ofH 400 E_ok mixed Tryz.func132 (by kernel_rfl) (by kernel_rfl) ?_
  unfold F_spec_l06Fits
  refine Run.bH (e := vB) (gv := vB) (by kernel_rfl) (by kernel_rfl) (ok_spec_ValidInterval _) (fun _ => rfl) fun r1 => ?_
  refine Run.jH (gv := vB) (by kernel_rfl) (?_) (?_)
  · refine Run.p [true, true] (by kernel_rfl) ?_
    refine Run.bH (e := vB) (gv := vB) (by kernel_rfl) (by kernel_rfl) (ok_spec_l06Angle _) (fun _ => rfl) fun r2 => ?_
    refine Run.p [true] (by kernel_rfl) ?_
    refine Run.jH (gv := vB) (by kernel_rfl) (?_) (?_)
    · refine Run.p [true, true] (by kernel_rfl) ?_
      refine Run.bH (e := vB) (gv := vB) (by kernel_rfl) (by kernel_rfl) (ok_spec_l06Angle _) (fun _ => rfl) fun r3 => ?_
      refine Run.p [true] (by kernel_rfl) ?_
      exact Run.rh (k := 0) (by kernel_rfl) (by kernel_rfl)
    · refine Run.p [false, false, false] (by kernel_rfl) ?_
      exact Run.rh (k := 0) (by kernel_rfl) (by kernel_rfl)
  · refine Run.p [false, false, false, false, false, false, false] (by kernel_rfl) ?_
    exact Run.rh (k := 0) (by kernel_rfl) (by kernel_rfl)

theorem ok_spec_l06Ring : Fun Tryz.prog 133 [] #[] (vIv (F_spec_l06Ring)) [] := by
  refine Fun.ofH 400 E_ok mixed Tryz.func133 (by kernel_rfl) (by kernel_rfl) ?_
  unfold F_spec_l06Ring
  exact Run.rh (k := 0) (by kernel_rfl) (by kernel_rfl)

theorem ok_spec_l06Floor (a0 : I64) (a1 : I64) (p0 : a1.val ≠ 0) : Fun Tryz.prog 162 [] #[vI a0, vI a1] (vI (F_spec_l06Floor a0 a1)) [] := by
  refine Fun.ofH 400 E_ok mixed Tryz.func162 (by kernel_rfl) (by kernel_rfl) ?_
  unfold F_spec_l06Floor
  refine Run.k (c := (decide (a1.val ≠ 0))) (by kernel_rfl) (by exact decide_eq_true p0) ?_
  refine Run.k (c := (decide (a1.val ≠ 0))) (by kernel_rfl) (by exact decide_eq_true p0) ?_
  refine Run.jk (gv := vI) (by kernel_rfl) (fun h1 => ?_) (fun h1 => ?_)
  · exact Run.rh (k := 0) (by kernel_rfl) (by kernel_rfl)
  · exact Run.rh (k := 0) (by kernel_rfl) (by kernel_rfl)

theorem ok_spec_QuarterOf (a0 : I64) : Fun Tryz.prog 135 [] #[vI a0] (vI (F_spec_QuarterOf a0)) [] := by
  refine Fun.ofH 400 E_ok mixed Tryz.func135 (by kernel_rfl) (by kernel_rfl) ?_
  unfold F_spec_QuarterOf
  refine Run.bk (e := vB) (gv := vI) (by kernel_rfl) (by kernel_rfl) (ok_spec_l06Angle _) (fun _ => rfl) fun r1 hr1 => ?_
  refine Run.jk (gv := vI) (by kernel_rfl) (fun h2 => ?_) (fun h2 => ?_)
  · exact Run.rh (k := 0) (by kernel_rfl) (by kernel_rfl)
  · refine Run.bk (e := vI) (gv := vI) (by kernel_rfl) (by kernel_rfl) (ok_spec_l06Floor _ _ (by decide)) (fun _ => rfl) fun r3 hr3 => ?_
    exact Run.rh (k := 0) (by kernel_rfl) (by kernel_rfl)

theorem ok_spec_l04Whole : Fun Tryz.prog 78 [] #[] (vIv (F_spec_l04Whole)) [] := by
  refine Fun.ofH 400 E_ok mixed Tryz.func78 (by kernel_rfl) (by kernel_rfl) ?_
  unfold F_spec_l04Whole
  exact Run.rh (k := 0) (by kernel_rfl) (by kernel_rfl)

theorem ok_spec_Whole : Fun Tryz.prog 32 [] #[] (vIv (F_spec_Whole)) [] := by
  refine Fun.ofH 400 E_ok mixed Tryz.func32 (by kernel_rfl) (by kernel_rfl) ?_
  unfold F_spec_Whole
  refine Run.bH (e := vIv) (gv := vIv) (by kernel_rfl) (by kernel_rfl) (ok_spec_l04Whole) (fun _ => rfl) fun r1 => ?_
  exact Run.rh (k := 0) (by kernel_rfl) (by kernel_rfl)

theorem ok_spec_TurnI (a0 : I64) : Fun Tryz.prog 86 [] #[vI a0] (vIv (F_spec_TurnI a0)) [] := by
  refine Fun.ofH 400 E_ok mixed Tryz.func86 (by kernel_rfl) (by kernel_rfl) ?_
  unfold F_spec_TurnI
  refine Run.bk (e := vB) (gv := vIv) (by kernel_rfl) (by kernel_rfl) (ok_spec_l00In _ _ _) (fun _ => rfl) fun r1 hr1 => ?_
  refine Run.jk (gv := vIv) (by kernel_rfl) (fun h2 => ?_) (fun h2 => ?_)
  · refine Run.bk (e := vIv) (gv := vIv) (by kernel_rfl) (by kernel_rfl) (ok_spec_Whole) (fun _ => rfl) fun r3 hr3 => ?_
    exact Run.rh (k := 0) (by kernel_rfl) (by kernel_rfl)
  · refine Run.bk (e := vIv) (gv := vIv) (by kernel_rfl) (by kernel_rfl) (ok_spec_l05Turn _ (by rw [hr1] at h2; simp only [F_spec_l00In, c64_val] at h2; by_cases z : a0.val ≥ -4096 <;> simp [z] at h2 <;> omega)) (fun _ => rfl) fun r4 hr4 => ?_
    exact Run.rh (k := 0) (by kernel_rfl) (by kernel_rfl)

theorem ok_spec_l04Make (a0 : I64) (a1 : I64) : Fun Tryz.prog 83 [] #[vI a0, vI a1] (vIv (F_spec_l04Make a0 a1)) [] := by
  refine Fun.ofH 400 E_ok mixed Tryz.func83 (by kernel_rfl) (by kernel_rfl) ?_
  unfold F_spec_l04Make
  refine Run.bH (e := vB) (gv := vIv) (by kernel_rfl) (by kernel_rfl) (ok_spec_l04Ok _) (fun _ => rfl) fun r1 => ?_
  refine Run.jH (gv := vIv) (by kernel_rfl) (?_) (?_)
  · refine Run.bH (e := vIv) (gv := vIv) (by kernel_rfl) (by kernel_rfl) (ok_spec_l04Whole) (fun _ => rfl) fun r2 => ?_
    exact Run.rh (k := 0) (by kernel_rfl) (by kernel_rfl)
  · exact Run.rh (k := 0) (by kernel_rfl) (by kernel_rfl)

theorem ok_spec_SubI (a0 : Iv) (a1 : Iv) : Fun Tryz.prog 46 [] #[vIv a0, vIv a1] (vIv (F_spec_SubI a0 a1)) [] := by
  refine Fun.ofH 400 E_ok mixed Tryz.func46 (by kernel_rfl) (by kernel_rfl) ?_
  unfold F_spec_SubI
  refine Run.bH (e := vB) (gv := vIv) (by kernel_rfl) (by kernel_rfl) (ok_spec_l04Ok _) (fun _ => rfl) fun r1 => ?_
  refine Run.jH (gv := vIv) (by kernel_rfl) (?_) (?_)
  · refine Run.p [true, true, true, true] (by kernel_rfl) ?_
    refine Run.bH (e := vIv) (gv := vIv) (by kernel_rfl) (by kernel_rfl) (ok_spec_l04Whole) (fun _ => rfl) fun r2 => ?_
    exact Run.rh (k := 0) (by kernel_rfl) (by kernel_rfl)
  · refine Run.p [false] (by kernel_rfl) ?_
    refine Run.bH (e := vB) (gv := vIv) (by kernel_rfl) (by kernel_rfl) (ok_spec_l04Ok _) (fun _ => rfl) fun r3 => ?_
    refine Run.p [false, false] (by kernel_rfl) ?_
    refine Run.jH (gv := vIv) (by kernel_rfl) (?_) (?_)
    · refine Run.bH (e := vIv) (gv := vIv) (by kernel_rfl) (by kernel_rfl) (ok_spec_l04Whole) (fun _ => rfl) fun r4 => ?_
      exact Run.rh (k := 0) (by kernel_rfl) (by kernel_rfl)
    · refine Run.bH (e := vIv) (gv := vIv) (by kernel_rfl) (by kernel_rfl) (ok_spec_l04Make _ _) (fun _ => rfl) fun r5 => ?_
      exact Run.rh (k := 0) (by kernel_rfl) (by kernel_rfl)

theorem ok_spec_InsideI (a0 : Iv) (a1 : Iv) : Fun Tryz.prog 183 [] #[vIv a0, vIv a1] (vB (F_spec_InsideI a0 a1)) [] := by
  refine Fun.ofH 400 E_ok mixed Tryz.func183 (by kernel_rfl) (by kernel_rfl) ?_
  unfold F_spec_InsideI
  refine Run.bH (e := vB) (gv := vB) (by kernel_rfl) (by kernel_rfl) (ok_spec_l04Ok _) (fun _ => rfl) fun r1 => ?_
  refine Run.jH (gv := vB) (by kernel_rfl) (?_) (?_)
  · exact Run.rh (k := 0) (by kernel_rfl) (by kernel_rfl)
  · refine Run.bH (e := vB) (gv := vB) (by kernel_rfl) (by kernel_rfl) (ok_spec_l04Ok _) (fun _ => rfl) fun r2 => ?_
    refine Run.jH (gv := vB) (by kernel_rfl) (?_) (?_)
    · refine Run.p [true, true, true, true, true] (by kernel_rfl) ?_
      refine Run.jH (gv := vB) (by kernel_rfl) (?_) (?_)
      · refine Run.p [true, true, true, true, true] (by kernel_rfl) ?_
        exact Run.rh (k := 0) (by kernel_rfl) (by kernel_rfl)
      · refine Run.p [false, false, false, false, false] (by kernel_rfl) ?_
        exact Run.rh (k := 0) (by kernel_rfl) (by kernel_rfl)
    · refine Run.p [false, false, false, false, false, false, false, false, false, false, false] (by kernel_rfl) ?_
      exact Run.rh (k := 0) (by kernel_rfl) (by kernel_rfl)

theorem ok_spec_l00Max (a0 : I64) (a1 : I64) : Fun Tryz.prog 82 [] #[vI a0, vI a1] (vI (F_spec_l00Max a0 a1)) [] := by
  refine Fun.ofH 400 E_ok mixed Tryz.func82 (by kernel_rfl) (by kernel_rfl) ?_
  unfold F_spec_l00Max
  refine Run.jH (gv := vI) (by kernel_rfl) (?_) (?_)
  · exact Run.rh (k := 0) (by kernel_rfl) (by kernel_rfl)
  · exact Run.rh (k := 0) (by kernel_rfl) (by kernel_rfl)

theorem ok_spec_l04Has (a0 : Iv) (a1 : I64) : Fun Tryz.prog 99 [] #[vIv a0, vI a1] (vB (F_spec_l04Has a0 a1)) [] := by
  refine Fun.ofH 400 E_ok mixed Tryz.func99 (by kernel_rfl) (by kernel_rfl) ?_
  unfold F_spec_l04Has
  refine Run.bH (e := vB) (gv := vB) (by kernel_rfl) (by kernel_rfl) (ok_spec_l00In _ _ _) (fun _ => rfl) fun r1 => ?_
  exact Run.rh (k := 0) (by kernel_rfl) (by kernel_rfl)

theorem ok_spec_l00Min (a0 : I64) (a1 : I64) : Fun Tryz.prog 81 [] #[vI a0, vI a1] (vI (F_spec_l00Min a0 a1)) [] := by
  refine Fun.ofH 400 E_ok mixed Tryz.func81 (by kernel_rfl) (by kernel_rfl) ?_
  unfold F_spec_l00Min
  refine Run.jH (gv := vI) (by kernel_rfl) (?_) (?_)
  · exact Run.rh (k := 0) (by kernel_rfl) (by kernel_rfl)
  · exact Run.rh (k := 0) (by kernel_rfl) (by kernel_rfl)

theorem ok_spec_l04Ends (a0 : Iv) : Fun Tryz.prog 104 [] #[vIv a0] (vT_I_I (F_spec_l04Ends a0)) [] := by
  refine Fun.ofH 400 E_ok mixed Tryz.func104 (by kernel_rfl) (by kernel_rfl) ?_
  unfold F_spec_l04Ends
  refine Run.bH (e := vI) (gv := vT_I_I) (by kernel_rfl) (by kernel_rfl) (ok_spec_l00Max _ _) (fun _ => rfl) fun r1 => ?_
  refine Run.bH (e := vI) (gv := vT_I_I) (by kernel_rfl) (by kernel_rfl) (ok_spec_l00Max _ _) (fun _ => rfl) fun r2 => ?_
  refine Run.bH (e := vB) (gv := vT_I_I) (by kernel_rfl) (by kernel_rfl) (ok_spec_l04Has _ _) (fun _ => rfl) fun r3 => ?_
  refine Run.jH (gv := vT_I_I) (by kernel_rfl) (?_) (?_)
  · refine Run.bH (e := vI) (gv := vT_I_I) (by kernel_rfl) (by kernel_rfl) (ok_spec_l00Max _ _) (fun _ => rfl) fun r4 => ?_
    exact Run.rh (k := 0) (by kernel_rfl) (by kernel_rfl)
  · refine Run.bH (e := vI) (gv := vT_I_I) (by kernel_rfl) (by kernel_rfl) (ok_spec_l00Min _ _) (fun _ => rfl) fun r5 => ?_
    refine Run.bH (e := vI) (gv := vT_I_I) (by kernel_rfl) (by kernel_rfl) (ok_spec_l00Max _ _) (fun _ => rfl) fun r6 => ?_
    exact Run.rh (k := 0) (by kernel_rfl) (by kernel_rfl)

theorem ok_spec_l03Ok (a0 : I64) : Fun Tryz.prog 129 [] #[vI a0] (vB (F_spec_l03Ok a0)) [] := by
  refine Fun.ofH 400 E_ok mixed Tryz.func129 (by kernel_rfl) (by kernel_rfl) ?_
  unfold F_spec_l03Ok
  refine Run.bH (e := vB) (gv := vB) (by kernel_rfl) (by kernel_rfl) (ok_spec_l00In _ _ _) (fun _ => rfl) fun r1 => ?_
  exact Run.rh (k := 0) (by kernel_rfl) (by kernel_rfl)

theorem ok_spec_l03End (a0 : I64) (a1 : Bool) : Fun Tryz.prog 131 [] #[vI a0, vB a1] (vT_I_B (F_spec_l03End a0 a1)) [] := by
  refine Fun.ofH 400 E_ok mixed Tryz.func131 (by kernel_rfl) (by kernel_rfl) ?_
  unfold F_spec_l03End
  refine Run.jH (gv := vT_I_B) (by kernel_rfl) (?_) (?_)
  · refine Run.p [true, true, true, true] (by kernel_rfl) ?_
    exact Run.rh (k := 0) (by kernel_rfl) (by kernel_rfl)
  · refine Run.p [false] (by kernel_rfl) ?_
    refine Run.bH (e := vB) (gv := vT_I_B) (by kernel_rfl) (by kernel_rfl) (ok_spec_l03Ok _) (fun _ => rfl) fun r1 => ?_
    refine Run.p [false, false] (by kernel_rfl) ?_
    refine Run.jH (gv := vT_I_B) (by kernel_rfl) (?_) (?_)
    · exact Run.rh (k := 0) (by kernel_rfl) (by kernel_rfl)
    · exact Run.rh (k := 0) (by kernel_rfl) (by kernel_rfl)

theorem ok_spec_l03MulDown (a0 : I64) (a1 : I64) : Fun Tryz.prog 79 [] #[vI a0, vI a1] (vT_I_B (F_spec_l03MulDown a0 a1)) [] := by
  refine Fun.ofH 400 E_ok mixed Tryz.func79 (by kernel_rfl) (by kernel_rfl) ?_
  unfold F_spec_l03MulDown
  refine Run.bH (e := vB) (gv := vT_I_B) (by kernel_rfl) (by kernel_rfl) (ok_spec_l03Ok _) (fun _ => rfl) fun r1 => ?_
  refine Run.jH (gv := vT_I_B) (by kernel_rfl) (?_) (?_)
  · refine Run.p [true, true, true, true] (by kernel_rfl) ?_
    exact Run.rh (k := 0) (by kernel_rfl) (by kernel_rfl)
  · refine Run.p [false] (by kernel_rfl) ?_
    refine Run.bH (e := vB) (gv := vT_I_B) (by kernel_rfl) (by kernel_rfl) (ok_spec_l03Ok _) (fun _ => rfl) fun r2 => ?_
    refine Run.p [false, false] (by kernel_rfl) ?_
    refine Run.jH (gv := vT_I_B) (by kernel_rfl) (?_) (?_)
    · exact Run.rh (k := 0) (by kernel_rfl) (by kernel_rfl)
    · refine Run.bH (e := vT_I_B) (gv := vT_I_B) (by kernel_rfl) (by kernel_rfl) (ok_spec_MulFloor _ _ _) (fun _ => rfl) fun r3 => ?_
      refine Run.bH (e := vT_I_B) (gv := vT_I_B) (by kernel_rfl) (by kernel_rfl) (ok_spec_l03End _ _) (fun _ => rfl) fun r4 => ?_
      exact Run.rh (k := 0) (by kernel_rfl) (by kernel_rfl)

theorem ok_spec_l03MulUp (a0 : I64) (a1 : I64) : Fun Tryz.prog 80 [] #[vI a0, vI a1] (vT_I_B (F_spec_l03MulUp a0 a1)) [] := by
  refine Fun.ofH 400 E_ok mixed Tryz.func80 (by kernel_rfl) (by kernel_rfl) ?_
  unfold F_spec_l03MulUp
  refine Run.bH (e := vT_I_B) (gv := vT_I_B) (by kernel_rfl) (by kernel_rfl) (ok_spec_l03MulDown _ _) (fun _ => rfl) fun r1 => ?_
  refine Run.bH (e := vB) (gv := vT_I_B) (by kernel_rfl) (by kernel_rfl) (ok_spec_l03Ok _) (fun _ => rfl) fun r2 => ?_
  refine Run.jH (gv := vT_I_B) (by kernel_rfl) (?_) (?_)
  · refine Run.p [true, true, true] (by kernel_rfl) ?_
    exact Run.rh (k := 0) (by kernel_rfl) (by kernel_rfl)
  · refine Run.p [false, false] (by kernel_rfl) ?_
    refine Run.jH (gv := vT_I_B) (by kernel_rfl) (?_) (?_)
    · exact Run.rh (k := 0) (by kernel_rfl) (by kernel_rfl)
    · exact Run.rh (k := 0) (by kernel_rfl) (by kernel_rfl)

theorem ok_spec_SqrI (a0 : Iv) : Fun Tryz.prog 47 [] #[vIv a0] (vIv (F_spec_SqrI a0)) [] := by
  refine Fun.ofH 400 E_ok mixed Tryz.func47 (by kernel_rfl) (by kernel_rfl) ?_
  unfold F_spec_SqrI
  refine Run.bH (e := vB) (gv := vIv) (by kernel_rfl) (by kernel_rfl) (ok_spec_l04Ok _) (fun _ => rfl) fun r1 => ?_
  refine Run.jH (gv := vIv) (by kernel_rfl) (?_) (?_)
  · refine Run.bH (e := vIv) (gv := vIv) (by kernel_rfl) (by kernel_rfl) (ok_spec_l04Whole) (fun _ => rfl) fun r2 => ?_
    exact Run.rh (k := 0) (by kernel_rfl) (by kernel_rfl)
  · refine Run.bH (e := vT_I_I) (gv := vIv) (by kernel_rfl) (by kernel_rfl) (ok_spec_l04Ends _) (fun _ => rfl) fun r3 => ?_
    refine Run.bH (e := vT_I_B) (gv := vIv) (by kernel_rfl) (by kernel_rfl) (ok_spec_l03MulDown _ _) (fun _ => rfl) fun r4 => ?_
    refine Run.bH (e := vT_I_B) (gv := vIv) (by kernel_rfl) (by kernel_rfl) (ok_spec_l03MulUp _ _) (fun _ => rfl) fun r5 => ?_
    refine Run.jH (gv := vIv) (by kernel_rfl) (?_) (?_)
    · refine Run.p [true, true, true] (by kernel_rfl) ?_
      refine Run.bH (e := vIv) (gv := vIv) (by kernel_rfl) (by kernel_rfl) (ok_spec_l04Whole) (fun _ => rfl) fun r6 => ?_
      exact Run.rh (k := 0) (by kernel_rfl) (by kernel_rfl)
    · refine Run.p [false, false] (by kernel_rfl) ?_
      refine Run.jH (gv := vIv) (by kernel_rfl) (?_) (?_)
      · refine Run.bH (e := vIv) (gv := vIv) (by kernel_rfl) (by kernel_rfl) (ok_spec_l04Whole) (fun _ => rfl) fun r7 => ?_
        exact Run.rh (k := 0) (by kernel_rfl) (by kernel_rfl)
      · refine Run.bH (e := vIv) (gv := vIv) (by kernel_rfl) (by kernel_rfl) (ok_spec_l04Make _ _) (fun _ => rfl) fun r8 => ?_
        exact Run.rh (k := 0) (by kernel_rfl) (by kernel_rfl)

theorem ok_spec_Integer (a0 : I64) : Fun Tryz.prog 44 [] #[vI a0] (vIv (F_spec_Integer a0)) [] := by
  refine Fun.ofH 400 E_ok mixed Tryz.func44 (by kernel_rfl) (by kernel_rfl) ?_
  unfold F_spec_Integer
  refine Run.bH (e := vB) (gv := vIv) (by kernel_rfl) (by kernel_rfl) (ok_spec_l00In _ _ _) (fun _ => rfl) fun r1 => ?_
  refine Run.jH (gv := vIv) (by kernel_rfl) (?_) (?_)
  · refine Run.bH (e := vIv) (gv := vIv) (by kernel_rfl) (by kernel_rfl) (ok_spec_l04Whole) (fun _ => rfl) fun r2 => ?_
    exact Run.rh (k := 0) (by kernel_rfl) (by kernel_rfl)
  · refine Run.bH (e := vIv) (gv := vIv) (by kernel_rfl) (by kernel_rfl) (ok_spec_l04Make _ _) (fun _ => rfl) fun r3 => ?_
    exact Run.rh (k := 0) (by kernel_rfl) (by kernel_rfl)

theorem ok_spec_l02Divide_L0 : ∀ (fu : Nat) (a1 : U64) (a2 : U64) (x_qhi : U64) (x_rest : U64) (x_q : U64) (x_i : I64) (q0 : x_i.val ≤ 63) (hm : (x_i.val + 1).toNat < fu) (t : Array Value) (ht : maskA t [0, 3, 4, 5, 13, 14, 15, 16, 17, 18, 19, 20, 21, 22, 23, 24, 25, 26, 27, 28, 29, 30, 31, 32, 33, 34, 35, 36, 37, 38, 39, 40, 41, 42, 43, 44, 45, 46, 47, 48, 49, 50] = #[undef, .int .u64 a1.val, .int .u64 a2.val, undef, undef, undef, .int .u64 0, .int .u64 0, .int .u64 0, .int .u64 x_qhi.val, .int .u64 x_rest.val, .int .u64 x_q.val, .int .i64 x_i.val, undef, undef, undef, undef, undef, undef, undef, undef, undef, undef, undef, undef, undef, undef, undef, undef, undef, undef, undef, undef, undef, undef, undef, undef, undef, undef, undef, undef, undef, undef, undef, undef, undef, undef, undef, undef, undef, undef]), Cfg Tryz.prog 177 (loopAt Tryz.f177 0) t [] (RvH [] (vT_U_U_U (F_spec_l02Divide_L0 fu a1 a2 x_qhi x_rest x_q x_i))) := by
  intro fu
  induction fu with
  | zero => intro a1 a2 x_qhi x_rest x_q x_i q0 hm; exact absurd hm (Nat.not_lt_zero _)
  | succ fu ih =>
    intro a1 a2 x_qhi x_rest x_q x_i q0 hm t ht
    refine Cfg.round E_ok mixed Tryz.func177 ht fun g => ?_
    unfold F_spec_l02Divide_L0
    refine Run.jk (gv := vT_U_U_U) (by kernel_rfl) (fun h1 => ?_) (fun h1 => ?_)
    · refine Run.p [true, true] (by kernel_rfl) ?_
      refine Run.k (c := (decide (0 ≤ (wu64 x_i.val).val))) (by kernel_rfl) (by simp only [w64_val, wu64_val, c64_val, cu64_val, decide_eq_true_eq] at *; first | assumption | omega) ?_
      refine Run.p [true] (by kernel_rfl) ?_
      refine Run.jk (gv := vT_U_U_U) (by kernel_rfl) (fun h2 => ?_) (fun h2 => ?_)
      · refine Run.p [true, true, true, true] (by kernel_rfl) ?_
        exact Run.l (by kernel_rfl) (by kernel_rfl) (by kernel_rfl) (by kernel_rfl) (ih a1 a2 x_qhi (wu64 ((ior .u64 (ishl .u64 x_rest.val 1).val (iand .u64 (ishr a1 (wu64 x_i.val).val).val 1).val).val - a2.val)) (ior .u64 (ishl .u64 x_q.val 1).val 1) (w64 (x_i.val - 1)) (by have q1 := x_i.lo; simp only [w64_val, wu64_val, c64_val, cu64_val, decide_eq_true_eq] at *; omega) (by have q1 := x_i.lo; simp only [w64_val, wu64_val, c64_val, cu64_val, decide_eq_true_eq] at *; omega))
      · refine Run.p [false, false, false] (by kernel_rfl) ?_
        refine Run.jk (gv := vT_U_U_U) (by kernel_rfl) (fun h3 => ?_) (fun h3 => ?_)
        · exact Run.l (by kernel_rfl) (by kernel_rfl) (by kernel_rfl) (by kernel_rfl) (ih a1 a2 x_qhi (wu64 ((ior .u64 (ishl .u64 x_rest.val 1).val (iand .u64 (ishr a1 (wu64 x_i.val).val).val 1).val).val - a2.val)) (ior .u64 (ishl .u64 x_q.val 1).val 1) (w64 (x_i.val - 1)) (by have q1 := x_i.lo; simp only [w64_val, wu64_val, c64_val, cu64_val, decide_eq_true_eq] at *; omega) (by have q1 := x_i.lo; simp only [w64_val, wu64_val, c64_val, cu64_val, decide_eq_true_eq] at *; omega))
        · exact Run.l (by kernel_rfl) (by kernel_rfl) (by kernel_rfl) (by kernel_rfl) (ih a1 a2 x_qhi (ior .u64 (ishl .u64 x_rest.val 1).val (iand .u64 (ishr a1 (wu64 x_i.val).val).val 1).val) (ishl .u64 x_q.val 1) (w64 (x_i.val - 1)) (by have q1 := x_i.lo; simp only [w64_val, wu64_val, c64_val, cu64_val, decide_eq_true_eq] at *; omega) (by have q1 := x_i.lo; simp only [w64_val, wu64_val, c64_val, cu64_val, decide_eq_true_eq] at *; omega))
    · exact Run.rh (k := 0) (by kernel_rfl) (by kernel_rfl)

theorem ok_spec_l02Divide (a0 : U64) (a1 : U64) (a2 : U64) (p0 : a2.val ≠ 0) : Fun Tryz.prog 177 [] #[vU a0, vU a1, vU a2] (vT_U_U_U (F_spec_l02Divide a0 a1 a2)) [] := by
  refine Fun.ofH 400 E_ok mixed Tryz.func177 (by kernel_rfl) (by kernel_rfl) ?_
  unfold F_spec_l02Divide
  refine Run.k (c := (decide (a2.val ≠ 0))) (by kernel_rfl) (by simp only [w64_val, wu64_val, c64_val, cu64_val, decide_eq_true_eq] at *; first | assumption | omega) ?_
  refine Run.k (c := (decide (a2.val ≠ 0))) (by kernel_rfl) (by simp only [w64_val, wu64_val, c64_val, cu64_val, decide_eq_true_eq] at *; first | assumption | omega) ?_
  exact Run.l (by kernel_rfl) (by kernel_rfl) (by kernel_rfl) (by kernel_rfl) (ok_spec_l02Divide_L0 65 a1 a2 (wu64 (Int.tdiv a0.val a2.val)) (imod a0 a2.val) (cu64 0) (c64 63) (by decide) (by decide))

theorem ok_spec_l02Plus (a0 : Wd) (a1 : Wd) : Fun Tryz.prog 179 [] #[vWd a0, vWd a1] (vWd (F_spec_l02Plus a0 a1)) [] := by
  refine Fun.ofH 400 E_ok mixed Tryz.func179 (by kernel_rfl) (by kernel_rfl) ?_
  unfold F_spec_l02Plus
  refine Run.jH (gv := vWd) (by kernel_rfl) (?_) (?_)
  · exact Run.rh (k := 0) (by kernel_rfl) (by kernel_rfl)
  · exact Run.rh (k := 0) (by kernel_rfl) (by kernel_rfl)

theorem ok_spec_l02Div (a0 : Wd) (a1 : I64) (p0 : 0 < a1.val) : Fun Tryz.prog 149 [] #[vWd a0, vI a1] (vT_Wd_I (F_spec_l02Div a0 a1)) [] := by
  refine Fun.ofH 400 E_ok mixed Tryz.func149 (by kernel_rfl) (by kernel_rfl) ?_
  unfold F_spec_l02Div
  refine Run.jk (gv := vT_Wd_I) (by kernel_rfl) (fun h1 => ?_) (fun h1 => ?_)
  · refine Run.bk (e := vT_U_U_U) (gv := vT_Wd_I) (by kernel_rfl) (by kernel_rfl) (ok_spec_l02Divide _ _ _ (by have q1 := a1.hi; simp only [w64_val, wu64_val, decide_eq_true_eq] at *; omega)) (fun _ => rfl) fun r2 hr2 => ?_
    exact Run.rh (k := 0) (by kernel_rfl) (by kernel_rfl)
  · refine Run.bk (e := vWd) (gv := vT_Wd_I) (by kernel_rfl) (by kernel_rfl) (ok_spec_l02Minus _) (fun _ => rfl) fun r3 hr3 => ?_
    refine Run.bk (e := vT_U_U_U) (gv := vT_Wd_I) (by kernel_rfl) (by kernel_rfl) (ok_spec_l02Divide _ _ _ (by have q1 := a1.hi; simp only [w64_val, wu64_val, decide_eq_true_eq] at *; omega)) (fun _ => rfl) fun r4 hr4 => ?_
    refine Run.bk (e := vWd) (gv := vT_Wd_I) (by kernel_rfl) (by kernel_rfl) (ok_spec_l02Minus _) (fun _ => rfl) fun r5 hr5 => ?_
    refine Run.jk (gv := vT_Wd_I) (by kernel_rfl) (fun h6 => ?_) (fun h6 => ?_)
    · exact Run.rh (k := 0) (by kernel_rfl) (by kernel_rfl)
    · refine Run.bk (e := vWd) (gv := vT_Wd_I) (by kernel_rfl) (by kernel_rfl) (ok_spec_l02Of _) (fun _ => rfl) fun r7 hr7 => ?_
      refine Run.bk (e := vWd) (gv := vT_Wd_I) (by kernel_rfl) (by kernel_rfl) (ok_spec_l02Plus _ _) (fun _ => rfl) fun r8 hr8 => ?_
      exact Run.rh (k := 0) (by kernel_rfl) (by kernel_rfl)

theorem ok_spec_MulDivFloor (a0 : I64) (a1 : I64) (a2 : I64) : Fun Tryz.prog 123 [] #[vI a0, vI a1, vI a2] (vT_I_B (F_spec_MulDivFloor a0 a1 a2)) [] := by
  refine Fun.ofH 400 E_ok mixed Tryz.func123 (by kernel_rfl) (by kernel_rfl) ?_
  unfold F_spec_MulDivFloor
  refine Run.jk (gv := vT_I_B) (by kernel_rfl) (fun h1 => ?_) (fun h1 => ?_)
  · exact Run.rh (k := 0) (by kernel_rfl) (by kernel_rfl)
  · refine Run.bk (e := vWd) (gv := vT_I_B) (by kernel_rfl) (by kernel_rfl) (ok_spec_l02Mul _ _) (fun _ => rfl) fun r2 hr2 => ?_
    refine Run.bk (e := vT_Wd_I) (gv := vT_I_B) (by kernel_rfl) (by kernel_rfl) (ok_spec_l02Div _ _ (by simp only [c64_val, decide_eq_true_eq, decide_eq_false_iff_not] at *; omega)) (fun _ => rfl) fun r3 hr3 => ?_
    refine Run.bk (e := vT_I_B) (gv := vT_I_B) (by kernel_rfl) (by kernel_rfl) (ok_spec_l02Int _) (fun _ => rfl) fun r4 hr4 => ?_
    exact Run.rh (k := 0) (by kernel_rfl) (by kernel_rfl)

theorem ok_spec_l03DivDown (a0 : I64) (a1 : I64) : Fun Tryz.prog 100 [] #[vI a0, vI a1] (vT_I_B (F_spec_l03DivDown a0 a1)) [] := by
  refine Fun.ofH 400 E_ok mixed Tryz.func100 (by kernel_rfl) (by kernel_rfl) ?_
  unfold F_spec_l03DivDown
  refine Run.bH (e := vB) (gv := vT_I_B) (by kernel_rfl) (by kernel_rfl) (ok_spec_l03Ok _) (fun _ => rfl) fun r1 => ?_
  refine Run.jH (gv := vT_I_B) (by kernel_rfl) (?_) (?_)
  · refine Run.p [true, true, true, true, true, true, true] (by kernel_rfl) ?_
    exact Run.rh (k := 0) (by kernel_rfl) (by kernel_rfl)
  · refine Run.p [false] (by kernel_rfl) ?_
    refine Run.bH (e := vB) (gv := vT_I_B) (by kernel_rfl) (by kernel_rfl) (ok_spec_l03Ok _) (fun _ => rfl) fun r2 => ?_
    refine Run.p [false, false] (by kernel_rfl) ?_
    refine Run.jH (gv := vT_I_B) (by kernel_rfl) (?_) (?_)
    · refine Run.p [true, true, true] (by kernel_rfl) ?_
      exact Run.rh (k := 0) (by kernel_rfl) (by kernel_rfl)
    · refine Run.p [false, false] (by kernel_rfl) ?_
      refine Run.jH (gv := vT_I_B) (by kernel_rfl) (?_) (?_)
      · exact Run.rh (k := 0) (by kernel_rfl) (by kernel_rfl)
      · refine Run.jH (gv := vT_I_B) (by kernel_rfl) (?_) (?_)
        · refine Run.bH (e := vT_I_B) (gv := vT_I_B) (by kernel_rfl) (by kernel_rfl) (ok_spec_MulDivFloor _ _ _) (fun _ => rfl) fun r3 => ?_
          refine Run.bH (e := vT_I_B) (gv := vT_I_B) (by kernel_rfl) (by kernel_rfl) (ok_spec_l03End _ _) (fun _ => rfl) fun r4 => ?_
          exact Run.rh (k := 0) (by kernel_rfl) (by kernel_rfl)
        · refine Run.bH (e := vT_I_B) (gv := vT_I_B) (by kernel_rfl) (by kernel_rfl) (ok_spec_MulDivFloor _ _ _) (fun _ => rfl) fun r5 => ?_
          refine Run.bH (e := vT_I_B) (gv := vT_I_B) (by kernel_rfl) (by kernel_rfl) (ok_spec_l03End _ _) (fun _ => rfl) fun r6 => ?_
          exact Run.rh (k := 0) (by kernel_rfl) (by kernel_rfl)

theorem ok_spec_l03DivUp (a0 : I64) (a1 : I64) : Fun Tryz.prog 101 [] #[vI a0, vI a1] (vT_I_B (F_spec_l03DivUp a0 a1)) [] := by
  refine Fun.ofH 400 E_ok mixed Tryz.func101 (by kernel_rfl) (by kernel_rfl) ?_
  unfold F_spec_l03DivUp
  refine Run.bH (e := vB) (gv := vT_I_B) (by kernel_rfl) (by kernel_rfl) (ok_spec_l03Ok _) (fun _ => rfl) fun r1 => ?_
  refine Run.jH (gv := vT_I_B) (by kernel_rfl) (?_) (?_)
  · exact Run.rh (k := 0) (by kernel_rfl) (by kernel_rfl)
  · refine Run.bH (e := vT_I_B) (gv := vT_I_B) (by kernel_rfl) (by kernel_rfl) (ok_spec_l03DivDown _ _) (fun _ => rfl) fun r2 => ?_
    exact Run.rh (k := 0) (by kernel_rfl) (by kernel_rfl)

theorem ok_spec_DivI (a0 : Iv) (a1 : Iv) : Fun Tryz.prog 43 [] #[vIv a0, vIv a1] (vIv (F_spec_DivI a0 a1)) [] := by
  refine Fun.ofH 400 E_ok mixed Tryz.func43 (by kernel_rfl) (by kernel_rfl) ?_
  unfold F_spec_DivI
  refine Run.bH (e := vB) (gv := vIv) (by kernel_rfl) (by kernel_rfl) (ok_spec_l04Ok _) (fun _ => rfl) fun r1 => ?_
  refine Run.jH (gv := vIv) (by kernel_rfl) (?_) (?_)
  · refine Run.p [true, true, true, true, true, true, true] (by kernel_rfl) ?_
    refine Run.bH (e := vIv) (gv := vIv) (by kernel_rfl) (by kernel_rfl) (ok_spec_l04Whole) (fun _ => rfl) fun r2 => ?_
    exact Run.rh (k := 0) (by kernel_rfl) (by kernel_rfl)
  · refine Run.p [false] (by kernel_rfl) ?_
    refine Run.bH (e := vB) (gv := vIv) (by kernel_rfl) (by kernel_rfl) (ok_spec_l04Ok _) (fun _ => rfl) fun r3 => ?_
    refine Run.p [false, false] (by kernel_rfl) ?_
    refine Run.jH (gv := vIv) (by kernel_rfl) (?_) (?_)
    · refine Run.p [true, true, true] (by kernel_rfl) ?_
      refine Run.bH (e := vIv) (gv := vIv) (by kernel_rfl) (by kernel_rfl) (ok_spec_l04Whole) (fun _ => rfl) fun r4 => ?_
      exact Run.rh (k := 0) (by kernel_rfl) (by kernel_rfl)
    · refine Run.p [false] (by kernel_rfl) ?_
      refine Run.bH (e := vB) (gv := vIv) (by kernel_rfl) (by kernel_rfl) (ok_spec_l04Has _ _) (fun _ => rfl) fun r5 => ?_
      refine Run.p [false] (by kernel_rfl) ?_
      refine Run.jH (gv := vIv) (by kernel_rfl) (?_) (?_)
      · refine Run.bH (e := vIv) (gv := vIv) (by kernel_rfl) (by kernel_rfl) (ok_spec_l04Whole) (fun _ => rfl) fun r6 => ?_
        exact Run.rh (k := 0) (by kernel_rfl) (by kernel_rfl)
      · refine Run.u 400 E_ok mixed Tryz.func43 ?_
        refine Run.p [true] (by kernel_rfl) ?_
        refine Run.u 400 E_ok mixed Tryz.func43 ?_
        refine Run.p [true, true, true] (by kernel_rfl) ?_
        refine Run.bH (e := vT_I_B) (gv := vIv) (by kernel_rfl) (by kernel_rfl) (ok_spec_l03DivDown _ _) (fun _ => rfl) fun r7 => ?_
        refine Run.p [true, true] (by kernel_rfl) ?_
        refine Run.bH (e := vT_I_B) (gv := vIv) (by kernel_rfl) (by kernel_rfl) (ok_spec_l03DivUp _ _) (fun _ => rfl) fun r8 => ?_
        refine Run.jH (gv := vIv) (by kernel_rfl) (?_) (?_)
        · refine Run.p [true, true, true] (by kernel_rfl) ?_
          refine Run.bH (e := vIv) (gv := vIv) (by kernel_rfl) (by kernel_rfl) (ok_spec_l04Whole) (fun _ => rfl) fun r9 => ?_
          exact Run.rh (k := 0) (by kernel_rfl) (by kernel_rfl)
        · refine Run.p [false, false] (by kernel_rfl) ?_
          refine Run.jH (gv := vIv) (by kernel_rfl) (?_) (?_)
          · refine Run.bH (e := vIv) (gv := vIv) (by kernel_rfl) (by kernel_rfl) (ok_spec_l04Whole) (fun _ => rfl) fun r10 => ?_
            exact Run.rh (k := 0) (by kernel_rfl) (by kernel_rfl)
          · refine Run.bH (e := vI) (gv := vIv) (by kernel_rfl) (by kernel_rfl) (ok_spec_l00Min _ _) (fun _ => rfl) fun r11 => ?_
            refine Run.bH (e := vI) (gv := vIv) (by kernel_rfl) (by kernel_rfl) (ok_spec_l00Max _ _) (fun _ => rfl) fun r12 => ?_
            refine Run.u 400 E_ok mixed Tryz.func43 ?_
            refine Run.p [true, true, true] (by kernel_rfl) ?_
            refine Run.bH (e := vT_I_B) (gv := vIv) (by kernel_rfl) (by kernel_rfl) (ok_spec_l03DivDown _ _) (fun _ => rfl) fun r13 => ?_
            refine Run.p [true, true] (by kernel_rfl) ?_
            refine Run.bH (e := vT_I_B) (gv := vIv) (by kernel_rfl) (by kernel_rfl) (ok_spec_l03DivUp _ _) (fun _ => rfl) fun r14 => ?_
            refine Run.jH (gv := vIv) (by kernel_rfl) (?_) (?_)
            · refine Run.p [true, true, true] (by kernel_rfl) ?_
              refine Run.bH (e := vIv) (gv := vIv) (by kernel_rfl) (by kernel_rfl) (ok_spec_l04Whole) (fun _ => rfl) fun r15 => ?_
              exact Run.rh (k := 0) (by kernel_rfl) (by kernel_rfl)
            · refine Run.p [false, false] (by kernel_rfl) ?_
              refine Run.jH (gv := vIv) (by kernel_rfl) (?_) (?_)
              · refine Run.bH (e := vIv) (gv := vIv) (by kernel_rfl) (by kernel_rfl) (ok_spec_l04Whole) (fun _ => rfl) fun r16 => ?_
                exact Run.rh (k := 0) (by kernel_rfl) (by kernel_rfl)
              · refine Run.bH (e := vI) (gv := vIv) (by kernel_rfl) (by kernel_rfl) (ok_spec_l00Min _ _) (fun _ => rfl) fun r17 => ?_
                refine Run.bH (e := vI) (gv := vIv) (by kernel_rfl) (by kernel_rfl) (ok_spec_l00Max _ _) (fun _ => rfl) fun r18 => ?_
                refine Run.u 400 E_ok mixed Tryz.func43 ?_
                refine Run.p [false] (by kernel_rfl) ?_
                refine Run.u 400 E_ok mixed Tryz.func43 ?_
                refine Run.p [true] (by kernel_rfl) ?_
                refine Run.u 400 E_ok mixed Tryz.func43 ?_
                refine Run.p [true, true, true] (by kernel_rfl) ?_
                refine Run.bH (e := vT_I_B) (gv := vIv) (by kernel_rfl) (by kernel_rfl) (ok_spec_l03DivDown _ _) (fun _ => rfl) fun r19 => ?_
                refine Run.p [true, true] (by kernel_rfl) ?_
                refine Run.bH (e := vT_I_B) (gv := vIv) (by kernel_rfl) (by kernel_rfl) (ok_spec_l03DivUp _ _) (fun _ => rfl) fun r20 => ?_
                refine Run.jH (gv := vIv) (by kernel_rfl) (?_) (?_)
                · refine Run.p [true, true, true] (by kernel_rfl) ?_
                  refine Run.bH (e := vIv) (gv := vIv) (by kernel_rfl) (by kernel_rfl) (ok_spec_l04Whole) (fun _ => rfl) fun r21 => ?_
                  exact Run.rh (k := 0) (by kernel_rfl) (by kernel_rfl)
                · refine Run.p [false, false] (by kernel_rfl) ?_
                  refine Run.jH (gv := vIv) (by kernel_rfl) (?_) (?_)
                  · refine Run.bH (e := vIv) (gv := vIv) (by kernel_rfl) (by kernel_rfl) (ok_spec_l04Whole) (fun _ => rfl) fun r22 => ?_
                    exact Run.rh (k := 0) (by kernel_rfl) (by kernel_rfl)
                  · refine Run.bH (e := vI) (gv := vIv) (by kernel_rfl) (by kernel_rfl) (ok_spec_l00Min _ _) (fun _ => rfl) fun r23 => ?_
                    refine Run.bH (e := vI) (gv := vIv) (by kernel_rfl) (by kernel_rfl) (ok_spec_l00Max _ _) (fun _ => rfl) fun r24 => ?_
                    refine Run.u 400 E_ok mixed Tryz.func43 ?_
                    refine Run.p [true, true, true] (by kernel_rfl) ?_
                    refine Run.bH (e := vT_I_B) (gv := vIv) (by kernel_rfl) (by kernel_rfl) (ok_spec_l03DivDown _ _) (fun _ => rfl) fun r25 => ?_
                    refine Run.p [true, true] (by kernel_rfl) ?_
                    refine Run.bH (e := vT_I_B) (gv := vIv) (by kernel_rfl) (by kernel_rfl) (ok_spec_l03DivUp _ _) (fun _ => rfl) fun r26 => ?_
                    refine Run.jH (gv := vIv) (by kernel_rfl) (?_) (?_)
                    · refine Run.p [true, true, true] (by kernel_rfl) ?_
                      refine Run.bH (e := vIv) (gv := vIv) (by kernel_rfl) (by kernel_rfl) (ok_spec_l04Whole) (fun _ => rfl) fun r27 => ?_
                      exact Run.rh (k := 0) (by kernel_rfl) (by kernel_rfl)
                    · refine Run.p [false, false] (by kernel_rfl) ?_
                      refine Run.jH (gv := vIv) (by kernel_rfl) (?_) (?_)
                      · refine Run.bH (e := vIv) (gv := vIv) (by kernel_rfl) (by kernel_rfl) (ok_spec_l04Whole) (fun _ => rfl) fun r28 => ?_
                        exact Run.rh (k := 0) (by kernel_rfl) (by kernel_rfl)
                      · refine Run.bH (e := vI) (gv := vIv) (by kernel_rfl) (by kernel_rfl) (ok_spec_l00Min _ _) (fun _ => rfl) fun r29 => ?_
                        refine Run.bH (e := vI) (gv := vIv) (by kernel_rfl) (by kernel_rfl) (ok_spec_l00Max _ _) (fun _ => rfl) fun r30 => ?_
                        refine Run.u 400 E_ok mixed Tryz.func43 ?_
                        refine Run.p [false] (by kernel_rfl) ?_
                        refine Run.u 400 E_ok mixed Tryz.func43 ?_
                        refine Run.p [false] (by kernel_rfl) ?_
                        refine Run.bH (e := vIv) (gv := vIv) (by kernel_rfl) (by kernel_rfl) (ok_spec_l04Make _ _) (fun _ => rfl) fun r31 => ?_
                        exact Run.rh (k := 0) (by kernel_rfl) (by kernel_rfl)

theorem ok_spec_MulI (a0 : Iv) (a1 : Iv) : Fun Tryz.prog 28 [] #[vIv a0, vIv a1] (vIv (F_spec_MulI a0 a1)) [] := by
  refine Fun.ofH 400 E_ok mixed Tryz.func28 (by kernel_rfl) (by kernel_rfl) ?_
  unfold F_spec_MulI
  refine Run.bH (e := vB) (gv := vIv) (by kernel_rfl) (by kernel_rfl) (ok_spec_l04Ok _) (fun _ => rfl) fun r1 => ?_
  refine Run.jH (gv := vIv) (by kernel_rfl) (?_) (?_)
  · refine Run.p [true, true, true, true] (by kernel_rfl) ?_
    refine Run.bH (e := vIv) (gv := vIv) (by kernel_rfl) (by kernel_rfl) (ok_spec_l04Whole) (fun _ => rfl) fun r2 => ?_
    exact Run.rh (k := 0) (by kernel_rfl) (by kernel_rfl)
  · refine Run.p [false] (by kernel_rfl) ?_
    refine Run.bH (e := vB) (gv := vIv) (by kernel_rfl) (by kernel_rfl) (ok_spec_l04Ok _) (fun _ => rfl) fun r3 => ?_
    refine Run.p [false, false] (by kernel_rfl) ?_
    refine Run.jH (gv := vIv) (by kernel_rfl) (?_) (?_)
    · refine Run.bH (e := vIv) (gv := vIv) (by kernel_rfl) (by kernel_rfl) (ok_spec_l04Whole) (fun _ => rfl) fun r4 => ?_
      exact Run.rh (k := 0) (by kernel_rfl) (by kernel_rfl)
    · refine Run.u 400 E_ok mixed Tryz.func28 ?_
      refine Run.p [true] (by kernel_rfl) ?_
      refine Run.u 400 E_ok mixed Tryz.func28 ?_
      refine Run.p [true, true, true] (by kernel_rfl) ?_
      refine Run.bH (e := vT_I_B) (gv := vIv) (by kernel_rfl) (by kernel_rfl) (ok_spec_l03MulDown _ _) (fun _ => rfl) fun r5 => ?_
      refine Run.p [true, true] (by kernel_rfl) ?_
      refine Run.bH (e := vT_I_B) (gv := vIv) (by kernel_rfl) (by kernel_rfl) (ok_spec_l03MulUp _ _) (fun _ => rfl) fun r6 => ?_
      refine Run.jH (gv := vIv) (by kernel_rfl) (?_) (?_)
      · refine Run.p [true, true, true] (by kernel_rfl) ?_
        refine Run.bH (e := vIv) (gv := vIv) (by kernel_rfl) (by kernel_rfl) (ok_spec_l04Whole) (fun _ => rfl) fun r7 => ?_
        exact Run.rh (k := 0) (by kernel_rfl) (by kernel_rfl)
      · refine Run.p [false, false] (by kernel_rfl) ?_
        refine Run.jH (gv := vIv) (by kernel_rfl) (?_) (?_)
        · refine Run.bH (e := vIv) (gv := vIv) (by kernel_rfl) (by kernel_rfl) (ok_spec_l04Whole) (fun _ => rfl) fun r8 => ?_
          exact Run.rh (k := 0) (by kernel_rfl) (by kernel_rfl)
        · refine Run.bH (e := vI) (gv := vIv) (by kernel_rfl) (by kernel_rfl) (ok_spec_l00Min _ _) (fun _ => rfl) fun r9 => ?_
          refine Run.bH (e := vI) (gv := vIv) (by kernel_rfl) (by kernel_rfl) (ok_spec_l00Max _ _) (fun _ => rfl) fun r10 => ?_
          refine Run.u 400 E_ok mixed Tryz.func28 ?_
          refine Run.p [true, true, true] (by kernel_rfl) ?_
          refine Run.bH (e := vT_I_B) (gv := vIv) (by kernel_rfl) (by kernel_rfl) (ok_spec_l03MulDown _ _) (fun _ => rfl) fun r11 => ?_
          refine Run.p [true, true] (by kernel_rfl) ?_
          refine Run.bH (e := vT_I_B) (gv := vIv) (by kernel_rfl) (by kernel_rfl) (ok_spec_l03MulUp _ _) (fun _ => rfl) fun r12 => ?_
          refine Run.jH (gv := vIv) (by kernel_rfl) (?_) (?_)
          · refine Run.p [true, true, true] (by kernel_rfl) ?_
            refine Run.bH (e := vIv) (gv := vIv) (by kernel_rfl) (by kernel_rfl) (ok_spec_l04Whole) (fun _ => rfl) fun r13 => ?_
            exact Run.rh (k := 0) (by kernel_rfl) (by kernel_rfl)
          · refine Run.p [false, false] (by kernel_rfl) ?_
            refine Run.jH (gv := vIv) (by kernel_rfl) (?_) (?_)
            · refine Run.bH (e := vIv) (gv := vIv) (by kernel_rfl) (by kernel_rfl) (ok_spec_l04Whole) (fun _ => rfl) fun r14 => ?_
              exact Run.rh (k := 0) (by kernel_rfl) (by kernel_rfl)
            · refine Run.bH (e := vI) (gv := vIv) (by kernel_rfl) (by kernel_rfl) (ok_spec_l00Min _ _) (fun _ => rfl) fun r15 => ?_
              refine Run.bH (e := vI) (gv := vIv) (by kernel_rfl) (by kernel_rfl) (ok_spec_l00Max _ _) (fun _ => rfl) fun r16 => ?_
              refine Run.u 400 E_ok mixed Tryz.func28 ?_
              refine Run.p [false] (by kernel_rfl) ?_
              refine Run.u 400 E_ok mixed Tryz.func28 ?_
              refine Run.p [true] (by kernel_rfl) ?_
              refine Run.u 400 E_ok mixed Tryz.func28 ?_
              refine Run.p [true, true, true] (by kernel_rfl) ?_
              refine Run.bH (e := vT_I_B) (gv := vIv) (by kernel_rfl) (by kernel_rfl) (ok_spec_l03MulDown _ _) (fun _ => rfl) fun r17 => ?_
              refine Run.p [true, true] (by kernel_rfl) ?_
              refine Run.bH (e := vT_I_B) (gv := vIv) (by kernel_rfl) (by kernel_rfl) (ok_spec_l03MulUp _ _) (fun _ => rfl) fun r18 => ?_
              refine Run.jH (gv := vIv) (by kernel_rfl) (?_) (?_)
              · refine Run.p [true, true, true] (by kernel_rfl) ?_
                refine Run.bH (e := vIv) (gv := vIv) (by kernel_rfl) (by kernel_rfl) (ok_spec_l04Whole) (fun _ => rfl) fun r19 => ?_
                exact Run.rh (k := 0) (by kernel_rfl) (by kernel_rfl)
              · refine Run.p [false, false] (by kernel_rfl) ?_
                refine Run.jH (gv := vIv) (by kernel_rfl) (?_) (?_)
                · refine Run.bH (e := vIv) (gv := vIv) (by kernel_rfl) (by kernel_rfl) (ok_spec_l04Whole) (fun _ => rfl) fun r20 => ?_
                  exact Run.rh (k := 0) (by kernel_rfl) (by kernel_rfl)
                · refine Run.bH (e := vI) (gv := vIv) (by kernel_rfl) (by kernel_rfl) (ok_spec_l00Min _ _) (fun _ => rfl) fun r21 => ?_
                  refine Run.bH (e := vI) (gv := vIv) (by kernel_rfl) (by kernel_rfl) (ok_spec_l00Max _ _) (fun _ => rfl) fun r22 => ?_
                  refine Run.u 400 E_ok mixed Tryz.func28 ?_
                  refine Run.p [true, true, true] (by kernel_rfl) ?_
                  refine Run.bH (e := vT_I_B) (gv := vIv) (by kernel_rfl) (by kernel_rfl) (ok_spec_l03MulDown _ _) (fun _ => rfl) fun r23 => ?_
                  refine Run.p [true, true] (by kernel_rfl) ?_
                  refine Run.bH (e := vT_I_B) (gv := vIv) (by kernel_rfl) (by kernel_rfl) (ok_spec_l03MulUp _ _) (fun _ => rfl) fun r24 => ?_
                  refine Run.jH (gv := vIv) (by kernel_rfl) (?_) (?_)
                  · refine Run.p [true, true, true] (by kernel_rfl) ?_
                    refine Run.bH (e := vIv) (gv := vIv) (by kernel_rfl) (by kernel_rfl) (ok_spec_l04Whole) (fun _ => rfl) fun r25 => ?_
                    exact Run.rh (k := 0) (by kernel_rfl) (by kernel_rfl)
                  · refine Run.p [false, false] (by kernel_rfl) ?_
                    refine Run.jH (gv := vIv) (by kernel_rfl) (?_) (?_)
                    · refine Run.bH (e := vIv) (gv := vIv) (by kernel_rfl) (by kernel_rfl) (ok_spec_l04Whole) (fun _ => rfl) fun r26 => ?_
                      exact Run.rh (k := 0) (by kernel_rfl) (by kernel_rfl)
                    · refine Run.bH (e := vI) (gv := vIv) (by kernel_rfl) (by kernel_rfl) (ok_spec_l00Min _ _) (fun _ => rfl) fun r27 => ?_
                      refine Run.bH (e := vI) (gv := vIv) (by kernel_rfl) (by kernel_rfl) (ok_spec_l00Max _ _) (fun _ => rfl) fun r28 => ?_
                      refine Run.u 400 E_ok mixed Tryz.func28 ?_
                      refine Run.p [false] (by kernel_rfl) ?_
                      refine Run.u 400 E_ok mixed Tryz.func28 ?_
                      refine Run.p [false] (by kernel_rfl) ?_
                      refine Run.bH (e := vIv) (gv := vIv) (by kernel_rfl) (by kernel_rfl) (ok_spec_l04Make _ _) (fun _ => rfl) fun r29 => ?_
                      exact Run.rh (k := 0) (by kernel_rfl) (by kernel_rfl)

theorem ok_spec_l06Series (a0 : Iv) (a1 : I64) : Fun Tryz.prog 184 [] #[vIv a0, vI a1] (vIv (F_spec_l06Series a0 a1)) [] := by
  refine Fun.ofH 400 E_ok mixed Tryz.func184 (by kernel_rfl) (by kernel_rfl) ?_
  unfold F_spec_l06Series
  refine Run.bH (e := vIv) (gv := vIv) (by kernel_rfl) (by kernel_rfl) (ok_spec_Integer _) (fun _ => rfl) fun r1 => ?_
  refine Run.u 400 E_ok mixed Tryz.func184 ?_
  refine Run.p [true] (by kernel_rfl) ?_
  refine Run.bH (e := vIv) (gv := vIv) (by kernel_rfl) (by kernel_rfl) (ok_spec_Integer _) (fun _ => rfl) fun r2 => ?_
  refine Run.bH (e := vIv) (gv := vIv) (by kernel_rfl) (by kernel_rfl) (ok_spec_Integer _) (fun _ => rfl) fun r3 => ?_
  refine Run.bH (e := vIv) (gv := vIv) (by kernel_rfl) (by kernel_rfl) (ok_spec_DivI _ _) (fun _ => rfl) fun r4 => ?_
  refine Run.bH (e := vIv) (gv := vIv) (by kernel_rfl) (by kernel_rfl) (ok_spec_MulI _ _) (fun _ => rfl) fun r5 => ?_
  refine Run.bH (e := vIv) (gv := vIv) (by kernel_rfl) (by kernel_rfl) (ok_spec_SubI _ _) (fun _ => rfl) fun r6 => ?_
  refine Run.u 400 E_ok mixed Tryz.func184 ?_
  refine Run.p [true] (by kernel_rfl) ?_
  refine Run.bH (e := vIv) (gv := vIv) (by kernel_rfl) (by kernel_rfl) (ok_spec_Integer _) (fun _ => rfl) fun r7 => ?_
  refine Run.bH (e := vIv) (gv := vIv) (by kernel_rfl) (by kernel_rfl) (ok_spec_Integer _) (fun _ => rfl) fun r8 => ?_
  refine Run.bH (e := vIv) (gv := vIv) (by kernel_rfl) (by kernel_rfl) (ok_spec_DivI _ _) (fun _ => rfl) fun r9 => ?_
  refine Run.bH (e := vIv) (gv := vIv) (by kernel_rfl) (by kernel_rfl) (ok_spec_MulI _ _) (fun _ => rfl) fun r10 => ?_
  refine Run.bH (e := vIv) (gv := vIv) (by kernel_rfl) (by kernel_rfl) (ok_spec_SubI _ _) (fun _ => rfl) fun r11 => ?_
  refine Run.u 400 E_ok mixed Tryz.func184 ?_
  refine Run.p [true] (by kernel_rfl) ?_
  refine Run.bH (e := vIv) (gv := vIv) (by kernel_rfl) (by kernel_rfl) (ok_spec_Integer _) (fun _ => rfl) fun r12 => ?_
  refine Run.bH (e := vIv) (gv := vIv) (by kernel_rfl) (by kernel_rfl) (ok_spec_Integer _) (fun _ => rfl) fun r13 => ?_
  refine Run.bH (e := vIv) (gv := vIv) (by kernel_rfl) (by kernel_rfl) (ok_spec_DivI _ _) (fun _ => rfl) fun r14 => ?_
  refine Run.bH (e := vIv) (gv := vIv) (by kernel_rfl) (by kernel_rfl) (ok_spec_MulI _ _) (fun _ => rfl) fun r15 => ?_
  refine Run.bH (e := vIv) (gv := vIv) (by kernel_rfl) (by kernel_rfl) (ok_spec_SubI _ _) (fun _ => rfl) fun r16 => ?_
  refine Run.u 400 E_ok mixed Tryz.func184 ?_
  refine Run.p [true] (by kernel_rfl) ?_
  refine Run.bH (e := vIv) (gv := vIv) (by kernel_rfl) (by kernel_rfl) (ok_spec_Integer _) (fun _ => rfl) fun r17 => ?_
  refine Run.bH (e := vIv) (gv := vIv) (by kernel_rfl) (by kernel_rfl) (ok_spec_Integer _) (fun _ => rfl) fun r18 => ?_
  refine Run.bH (e := vIv) (gv := vIv) (by kernel_rfl) (by kernel_rfl) (ok_spec_DivI _ _) (fun _ => rfl) fun r19 => ?_
  refine Run.bH (e := vIv) (gv := vIv) (by kernel_rfl) (by kernel_rfl) (ok_spec_MulI _ _) (fun _ => rfl) fun r20 => ?_
  refine Run.bH (e := vIv) (gv := vIv) (by kernel_rfl) (by kernel_rfl) (ok_spec_SubI _ _) (fun _ => rfl) fun r21 => ?_
  refine Run.u 400 E_ok mixed Tryz.func184 ?_
  refine Run.p [true] (by kernel_rfl) ?_
  refine Run.bH (e := vIv) (gv := vIv) (by kernel_rfl) (by kernel_rfl) (ok_spec_Integer _) (fun _ => rfl) fun r22 => ?_
  refine Run.bH (e := vIv) (gv := vIv) (by kernel_rfl) (by kernel_rfl) (ok_spec_Integer _) (fun _ => rfl) fun r23 => ?_
  refine Run.bH (e := vIv) (gv := vIv) (by kernel_rfl) (by kernel_rfl) (ok_spec_DivI _ _) (fun _ => rfl) fun r24 => ?_
  refine Run.bH (e := vIv) (gv := vIv) (by kernel_rfl) (by kernel_rfl) (ok_spec_MulI _ _) (fun _ => rfl) fun r25 => ?_
  refine Run.bH (e := vIv) (gv := vIv) (by kernel_rfl) (by kernel_rfl) (ok_spec_SubI _ _) (fun _ => rfl) fun r26 => ?_
  refine Run.u 400 E_ok mixed Tryz.func184 ?_
  refine Run.p [true] (by kernel_rfl) ?_
  refine Run.bH (e := vIv) (gv := vIv) (by kernel_rfl) (by kernel_rfl) (ok_spec_Integer _) (fun _ => rfl) fun r27 => ?_
  refine Run.bH (e := vIv) (gv := vIv) (by kernel_rfl) (by kernel_rfl) (ok_spec_Integer _) (fun _ => rfl) fun r28 => ?_
  refine Run.bH (e := vIv) (gv := vIv) (by kernel_rfl) (by kernel_rfl) (ok_spec_DivI _ _) (fun _ => rfl) fun r29 => ?_
  refine Run.bH (e := vIv) (gv := vIv) (by kernel_rfl) (by kernel_rfl) (ok_spec_MulI _ _) (fun _ => rfl) fun r30 => ?_
  refine Run.bH (e := vIv) (gv := vIv) (by kernel_rfl) (by kernel_rfl) (ok_spec_SubI _ _) (fun _ => rfl) fun r31 => ?_
  refine Run.u 400 E_ok mixed Tryz.func184 ?_
  refine Run.p [true] (by kernel_rfl) ?_
  refine Run.bH (e := vIv) (gv := vIv) (by kernel_rfl) (by kernel_rfl) (ok_spec_Integer _) (fun _ => rfl) fun r32 => ?_
  refine Run.bH (e := vIv) (gv := vIv) (by kernel_rfl) (by kernel_rfl) (ok_spec_Integer _) (fun _ => rfl) fun r33 => ?_
  refine Run.bH (e := vIv) (gv := vIv) (by kernel_rfl) (by kernel_rfl) (ok_spec_DivI _ _) (fun _ => rfl) fun r34 => ?_
  refine Run.bH (e := vIv) (gv := vIv) (by kernel_rfl) (by kernel_rfl) (ok_spec_MulI _ _) (fun _ => rfl) fun r35 => ?_
  refine Run.bH (e := vIv) (gv := vIv) (by kernel_rfl) (by kernel_rfl) (ok_spec_SubI _ _) (fun _ => rfl) fun r36 => ?_
  refine Run.u 400 E_ok mixed Tryz.func184 ?_
  refine Run.p [true] (by kernel_rfl) ?_
  refine Run.bH (e := vIv) (gv := vIv) (by kernel_rfl) (by kernel_rfl) (ok_spec_Integer _) (fun _ => rfl) fun r37 => ?_
  refine Run.bH (e := vIv) (gv := vIv) (by kernel_rfl) (by kernel_rfl) (ok_spec_Integer _) (fun _ => rfl) fun r38 => ?_
  refine Run.bH (e := vIv) (gv := vIv) (by kernel_rfl) (by kernel_rfl) (ok_spec_DivI _ _) (fun _ => rfl) fun r39 => ?_
  refine Run.bH (e := vIv) (gv := vIv) (by kernel_rfl) (by kernel_rfl) (ok_spec_MulI _ _) (fun _ => rfl) fun r40 => ?_
  refine Run.bH (e := vIv) (gv := vIv) (by kernel_rfl) (by kernel_rfl) (ok_spec_SubI _ _) (fun _ => rfl) fun r41 => ?_
  refine Run.u 400 E_ok mixed Tryz.func184 ?_
  refine Run.p [false] (by kernel_rfl) ?_
  exact Run.rh (k := 0) (by kernel_rfl) (by kernel_rfl)

theorem ok_spec_l06Tiny : Fun Tryz.prog 185 [] #[] (vIv (F_spec_l06Tiny)) [] := by
  refine Fun.ofH 400 E_ok mixed Tryz.func185 (by kernel_rfl) (by kernel_rfl) ?_
  unfold F_spec_l06Tiny
  exact Run.rh (k := 0) (by kernel_rfl) (by kernel_rfl)

theorem ok_spec_AddI (a0 : Iv) (a1 : Iv) : Fun Tryz.prog 85 [] #[vIv a0, vIv a1] (vIv (F_spec_AddI a0 a1)) [] := by
  refine Fun.ofH 400 E_ok mixed Tryz.func85 (by kernel_rfl) (by kernel_rfl) ?_
  unfold F_spec_AddI
  refine Run.bH (e := vB) (gv := vIv) (by kernel_rfl) (by kernel_rfl) (ok_spec_l04Ok _) (fun _ => rfl) fun r1 => ?_
  refine Run.jH (gv := vIv) (by kernel_rfl) (?_) (?_)
  · refine Run.p [true, true, true, true] (by kernel_rfl) ?_
    refine Run.bH (e := vIv) (gv := vIv) (by kernel_rfl) (by kernel_rfl) (ok_spec_l04Whole) (fun _ => rfl) fun r2 => ?_
    exact Run.rh (k := 0) (by kernel_rfl) (by kernel_rfl)
  · refine Run.p [false] (by kernel_rfl) ?_
    refine Run.bH (e := vB) (gv := vIv) (by kernel_rfl) (by kernel_rfl) (ok_spec_l04Ok _) (fun _ => rfl) fun r3 => ?_
    refine Run.p [false, false] (by kernel_rfl) ?_
    refine Run.jH (gv := vIv) (by kernel_rfl) (?_) (?_)
    · refine Run.bH (e := vIv) (gv := vIv) (by kernel_rfl) (by kernel_rfl) (ok_spec_l04Whole) (fun _ => rfl) fun r4 => ?_
      exact Run.rh (k := 0) (by kernel_rfl) (by kernel_rfl)
    · refine Run.bH (e := vIv) (gv := vIv) (by kernel_rfl) (by kernel_rfl) (ok_spec_l04Make _ _) (fun _ => rfl) fun r5 => ?_
      exact Run.rh (k := 0) (by kernel_rfl) (by kernel_rfl)

theorem ok_spec_SinSeries (a0 : Iv) : Fun Tryz.prog 160 [] #[vIv a0] (vIv (F_spec_SinSeries a0)) [] := by
  refine Fun.ofH 400 E_ok mixed Tryz.func160 (by kernel_rfl) (by kernel_rfl) ?_
  unfold F_spec_SinSeries
  refine Run.bH (e := vIv) (gv := vIv) (by kernel_rfl) (by kernel_rfl) (ok_spec_l06Ring) (fun _ => rfl) fun r1 => ?_
  refine Run.bH (e := vB) (gv := vIv) (by kernel_rfl) (by kernel_rfl) (ok_spec_InsideI _ _) (fun _ => rfl) fun r2 => ?_
  refine Run.jH (gv := vIv) (by kernel_rfl) (?_) (?_)
  · refine Run.bH (e := vIv) (gv := vIv) (by kernel_rfl) (by kernel_rfl) (ok_spec_Whole) (fun _ => rfl) fun r3 => ?_
    exact Run.rh (k := 0) (by kernel_rfl) (by kernel_rfl)
  · refine Run.bH (e := vIv) (gv := vIv) (by kernel_rfl) (by kernel_rfl) (ok_spec_SqrI _) (fun _ => rfl) fun r4 => ?_
    refine Run.bH (e := vIv) (gv := vIv) (by kernel_rfl) (by kernel_rfl) (ok_spec_l06Series _ _) (fun _ => rfl) fun r5 => ?_
    refine Run.bH (e := vIv) (gv := vIv) (by kernel_rfl) (by kernel_rfl) (ok_spec_MulI _ _) (fun _ => rfl) fun r6 => ?_
    refine Run.bH (e := vIv) (gv := vIv) (by kernel_rfl) (by kernel_rfl) (ok_spec_l06Tiny) (fun _ => rfl) fun r7 => ?_
    refine Run.bH (e := vIv) (gv := vIv) (by kernel_rfl) (by kernel_rfl) (ok_spec_AddI _ _) (fun _ => rfl) fun r8 => ?_
    exact Run.rh (k := 0) (by kernel_rfl) (by kernel_rfl)

theorem ok_spec_MeetI (a0 : Iv) (a1 : Iv) : Fun Tryz.prog 163 [] #[vIv a0, vIv a1] (vT_Iv_B (F_spec_MeetI a0 a1)) [] := by
  refine Fun.ofH 400 E_ok mixed Tryz.func163 (by kernel_rfl) (by kernel_rfl) ?_
  unfold F_spec_MeetI
  refine Run.bH (e := vB) (gv := vT_Iv_B) (by kernel_rfl) (by kernel_rfl) (ok_spec_l04Ok _) (fun _ => rfl) fun r1 => ?_
  refine Run.jH (gv := vT_Iv_B) (by kernel_rfl) (?_) (?_)
  · refine Run.p [true] (by kernel_rfl) ?_
    refine Run.bH (e := vB) (gv := vT_Iv_B) (by kernel_rfl) (by kernel_rfl) (ok_spec_l04Ok _) (fun _ => rfl) fun r2 => ?_
    refine Run.p [true, true] (by kernel_rfl) ?_
    refine Run.jH (gv := vT_Iv_B) (by kernel_rfl) (?_) (?_)
    · refine Run.bH (e := vIv) (gv := vT_Iv_B) (by kernel_rfl) (by kernel_rfl) (ok_spec_l04Whole) (fun _ => rfl) fun r3 => ?_
      exact Run.rh (k := 0) (by kernel_rfl) (by kernel_rfl)
    · refine Run.bH (e := vB) (gv := vT_Iv_B) (by kernel_rfl) (by kernel_rfl) (ok_spec_l04Ok _) (fun _ => rfl) fun r4 => ?_
      refine Run.jH (gv := vT_Iv_B) (by kernel_rfl) (?_) (?_)
      · exact Run.rh (k := 0) (by kernel_rfl) (by kernel_rfl)
      · refine Run.bH (e := vB) (gv := vT_Iv_B) (by kernel_rfl) (by kernel_rfl) (ok_spec_l04Ok _) (fun _ => rfl) fun r5 => ?_
        refine Run.jH (gv := vT_Iv_B) (by kernel_rfl) (?_) (?_)
        · exact Run.rh (k := 0) (by kernel_rfl) (by kernel_rfl)
        · refine Run.bH (e := vI) (gv := vT_Iv_B) (by kernel_rfl) (by kernel_rfl) (ok_spec_l00Max _ _) (fun _ => rfl) fun r6 => ?_
          refine Run.bH (e := vI) (gv := vT_Iv_B) (by kernel_rfl) (by kernel_rfl) (ok_spec_l00Min _ _) (fun _ => rfl) fun r7 => ?_
          refine Run.jH (gv := vT_Iv_B) (by kernel_rfl) (?_) (?_)
          · exact Run.rh (k := 0) (by kernel_rfl) (by kernel_rfl)
          · exact Run.rh (k := 0) (by kernel_rfl) (by kernel_rfl)
  · refine Run.p [false, false, false, false] (by kernel_rfl) ?_
    refine Run.bH (e := vB) (gv := vT_Iv_B) (by kernel_rfl) (by kernel_rfl) (ok_spec_l04Ok _) (fun _ => rfl) fun r8 => ?_
    refine Run.jH (gv := vT_Iv_B) (by kernel_rfl) (?_) (?_)
    · exact Run.rh (k := 0) (by kernel_rfl) (by kernel_rfl)
    · refine Run.bH (e := vB) (gv := vT_Iv_B) (by kernel_rfl) (by kernel_rfl) (ok_spec_l04Ok _) (fun _ => rfl) fun r9 => ?_
      refine Run.jH (gv := vT_Iv_B) (by kernel_rfl) (?_) (?_)
      · exact Run.rh (k := 0) (by kernel_rfl) (by kernel_rfl)
      · refine Run.bH (e := vI) (gv := vT_Iv_B) (by kernel_rfl) (by kernel_rfl) (ok_spec_l00Max _ _) (fun _ => rfl) fun r10 => ?_
        refine Run.bH (e := vI) (gv := vT_Iv_B) (by kernel_rfl) (by kernel_rfl) (ok_spec_l00Min _ _) (fun _ => rfl) fun r11 => ?_
        refine Run.jH (gv := vT_Iv_B) (by kernel_rfl) (?_) (?_)
        · exact Run.rh (k := 0) (by kernel_rfl) (by kernel_rfl)
        · exact Run.rh (k := 0) (by kernel_rfl) (by kernel_rfl)

theorem ok_spec_l06Meet (a0 : Iv) : Fun Tryz.prog 159 [] #[vIv a0] (vIv (F_spec_l06Meet a0)) [] := by
  refine Fun.ofH 400 E_ok mixed Tryz.func159 (by kernel_rfl) (by kernel_rfl) ?_
  unfold F_spec_l06Meet
  refine Run.bH (e := vIv) (gv := vIv) (by kernel_rfl) (by kernel_rfl) (ok_spec_l06Ring) (fun _ => rfl) fun r1 => ?_
  refine Run.bH (e := vT_Iv_B) (gv := vIv) (by kernel_rfl) (by kernel_rfl) (ok_spec_MeetI _ _) (fun _ => rfl) fun r2 => ?_
  refine Run.jH (gv := vIv) (by kernel_rfl) (?_) (?_)
  · refine Run.bH (e := vIv) (gv := vIv) (by kernel_rfl) (by kernel_rfl) (ok_spec_l06Ring) (fun _ => rfl) fun r3 => ?_
    exact Run.rh (k := 0) (by kernel_rfl) (by kernel_rfl)
  · exact Run.rh (k := 0) (by kernel_rfl) (by kernel_rfl)

theorem ok_spec_CosSeries (a0 : Iv) : Fun Tryz.prog 161 [] #[vIv a0] (vIv (F_spec_CosSeries a0)) [] := by
  refine Fun.ofH 400 E_ok mixed Tryz.func161 (by kernel_rfl) (by kernel_rfl) ?_
  unfold F_spec_CosSeries
  refine Run.bH (e := vIv) (gv := vIv) (by kernel_rfl) (by kernel_rfl) (ok_spec_l06Ring) (fun _ => rfl) fun r1 => ?_
  refine Run.bH (e := vB) (gv := vIv) (by kernel_rfl) (by kernel_rfl) (ok_spec_InsideI _ _) (fun _ => rfl) fun r2 => ?_
  refine Run.jH (gv := vIv) (by kernel_rfl) (?_) (?_)
  · refine Run.bH (e := vIv) (gv := vIv) (by kernel_rfl) (by kernel_rfl) (ok_spec_Whole) (fun _ => rfl) fun r3 => ?_
    exact Run.rh (k := 0) (by kernel_rfl) (by kernel_rfl)
  · refine Run.bH (e := vIv) (gv := vIv) (by kernel_rfl) (by kernel_rfl) (ok_spec_SqrI _) (fun _ => rfl) fun r4 => ?_
    refine Run.bH (e := vIv) (gv := vIv) (by kernel_rfl) (by kernel_rfl) (ok_spec_l06Series _ _) (fun _ => rfl) fun r5 => ?_
    refine Run.bH (e := vIv) (gv := vIv) (by kernel_rfl) (by kernel_rfl) (ok_spec_l06Tiny) (fun _ => rfl) fun r6 => ?_
    refine Run.bH (e := vIv) (gv := vIv) (by kernel_rfl) (by kernel_rfl) (ok_spec_AddI _ _) (fun _ => rfl) fun r7 => ?_
    exact Run.rh (k := 0) (by kernel_rfl) (by kernel_rfl)

theorem ok_spec_NegI (a0 : Iv) : Fun Tryz.prog 70 [] #[vIv a0] (vIv (F_spec_NegI a0)) [] := by
  refine Fun.ofH 400 E_ok mixed Tryz.func70 (by kernel_rfl) (by kernel_rfl) ?_
  unfold F_spec_NegI
  refine Run.bH (e := vB) (gv := vIv) (by kernel_rfl) (by kernel_rfl) (ok_spec_l04Ok _) (fun _ => rfl) fun r1 => ?_
  refine Run.jH (gv := vIv) (by kernel_rfl) (?_) (?_)
  · refine Run.bH (e := vIv) (gv := vIv) (by kernel_rfl) (by kernel_rfl) (ok_spec_l04Whole) (fun _ => rfl) fun r2 => ?_
    exact Run.rh (k := 0) (by kernel_rfl) (by kernel_rfl)
  · refine Run.bH (e := vIv) (gv := vIv) (by kernel_rfl) (by kernel_rfl) (ok_spec_l04Make _ _) (fun _ => rfl) fun r3 => ?_
    exact Run.rh (k := 0) (by kernel_rfl) (by kernel_rfl)

theorem ok_spec_l06At (a0 : I64) (a1 : I64) : Fun Tryz.prog 134 [] #[vI a0, vI a1] (vIv (F_spec_l06At a0 a1)) [] := by
  refine Fun.ofH 400 E_ok mixed Tryz.func134 (by kernel_rfl) (by kernel_rfl) ?_
  unfold F_spec_l06At
  refine Run.bH (e := vB) (gv := vIv) (by kernel_rfl) (by kernel_rfl) (ok_spec_l06Angle _) (fun _ => rfl) fun r1 => ?_
  refine Run.jH (gv := vIv) (by kernel_rfl) (?_) (?_)
  · refine Run.bH (e := vIv) (gv := vIv) (by kernel_rfl) (by kernel_rfl) (ok_spec_l06Ring) (fun _ => rfl) fun r2 => ?_
    exact Run.rh (k := 0) (by kernel_rfl) (by kernel_rfl)
  · refine Run.bH (e := vI) (gv := vIv) (by kernel_rfl) (by kernel_rfl) (ok_spec_QuarterOf _) (fun _ => rfl) fun r3 => ?_
    refine Run.bH (e := vIv) (gv := vIv) (by kernel_rfl) (by kernel_rfl) (ok_spec_l05At _) (fun _ => rfl) fun r4 => ?_
    refine Run.bH (e := vIv) (gv := vIv) (by kernel_rfl) (by kernel_rfl) (ok_spec_TurnI _) (fun _ => rfl) fun r5 => ?_
    refine Run.bH (e := vIv) (gv := vIv) (by kernel_rfl) (by kernel_rfl) (ok_spec_SubI _ _) (fun _ => rfl) fun r6 => ?_
    refine Run.jH (gv := vIv) (by kernel_rfl) (?_) (?_)
    · refine Run.bH (e := vIv) (gv := vIv) (by kernel_rfl) (by kernel_rfl) (ok_spec_SinSeries _) (fun _ => rfl) fun r7 => ?_
      refine Run.bH (e := vIv) (gv := vIv) (by kernel_rfl) (by kernel_rfl) (ok_spec_l06Meet _) (fun _ => rfl) fun r8 => ?_
      exact Run.rh (k := 0) (by kernel_rfl) (by kernel_rfl)
    · refine Run.jH (gv := vIv) (by kernel_rfl) (?_) (?_)
      · refine Run.bH (e := vIv) (gv := vIv) (by kernel_rfl) (by kernel_rfl) (ok_spec_CosSeries _) (fun _ => rfl) fun r9 => ?_
        refine Run.bH (e := vIv) (gv := vIv) (by kernel_rfl) (by kernel_rfl) (ok_spec_l06Meet _) (fun _ => rfl) fun r10 => ?_
        exact Run.rh (k := 0) (by kernel_rfl) (by kernel_rfl)
      · refine Run.jH (gv := vIv) (by kernel_rfl) (?_) (?_)
        · refine Run.bH (e := vIv) (gv := vIv) (by kernel_rfl) (by kernel_rfl) (ok_spec_SinSeries _) (fun _ => rfl) fun r11 => ?_
          refine Run.bH (e := vIv) (gv := vIv) (by kernel_rfl) (by kernel_rfl) (ok_spec_NegI _) (fun _ => rfl) fun r12 => ?_
          refine Run.bH (e := vIv) (gv := vIv) (by kernel_rfl) (by kernel_rfl) (ok_spec_l06Meet _) (fun _ => rfl) fun r13 => ?_
          exact Run.rh (k := 0) (by kernel_rfl) (by kernel_rfl)
        · refine Run.bH (e := vIv) (gv := vIv) (by kernel_rfl) (by kernel_rfl) (ok_spec_CosSeries _) (fun _ => rfl) fun r14 => ?_
          refine Run.bH (e := vIv) (gv := vIv) (by kernel_rfl) (by kernel_rfl) (ok_spec_NegI _) (fun _ => rfl) fun r15 => ?_
          refine Run.bH (e := vIv) (gv := vIv) (by kernel_rfl) (by kernel_rfl) (ok_spec_l06Meet _) (fun _ => rfl) fun r16 => ?_
          exact Run.rh (k := 0) (by kernel_rfl) (by kernel_rfl)

theorem ok_spec_HullI (a0 : Iv) (a1 : Iv) : Fun Tryz.prog 31 [] #[vIv a0, vIv a1] (vIv (F_spec_HullI a0 a1)) [] := by
  refine Fun.ofH 400 E_ok mixed Tryz.func31 (by kernel_rfl) (by kernel_rfl) ?_
  unfold F_spec_HullI
  refine Run.bH (e := vB) (gv := vIv) (by kernel_rfl) (by kernel_rfl) (ok_spec_l04Ok _) (fun _ => rfl) fun r1 => ?_
  refine Run.jH (gv := vIv) (by kernel_rfl) (?_) (?_)
  · refine Run.p [true, true, true, true] (by kernel_rfl) ?_
    refine Run.bH (e := vIv) (gv := vIv) (by kernel_rfl) (by kernel_rfl) (ok_spec_l04Whole) (fun _ => rfl) fun r2 => ?_
    exact Run.rh (k := 0) (by kernel_rfl) (by kernel_rfl)
  · refine Run.p [false] (by kernel_rfl) ?_
    refine Run.bH (e := vB) (gv := vIv) (by kernel_rfl) (by kernel_rfl) (ok_spec_l04Ok _) (fun _ => rfl) fun r3 => ?_
    refine Run.p [false, false] (by kernel_rfl) ?_
    refine Run.jH (gv := vIv) (by kernel_rfl) (?_) (?_)
    · refine Run.bH (e := vIv) (gv := vIv) (by kernel_rfl) (by kernel_rfl) (ok_spec_l04Whole) (fun _ => rfl) fun r4 => ?_
      exact Run.rh (k := 0) (by kernel_rfl) (by kernel_rfl)
    · refine Run.bH (e := vI) (gv := vIv) (by kernel_rfl) (by kernel_rfl) (ok_spec_l00Min _ _) (fun _ => rfl) fun r5 => ?_
      refine Run.bH (e := vI) (gv := vIv) (by kernel_rfl) (by kernel_rfl) (ok_spec_l00Max _ _) (fun _ => rfl) fun r6 => ?_
      refine Run.bH (e := vIv) (gv := vIv) (by kernel_rfl) (by kernel_rfl) (ok_spec_l04Make _ _) (fun _ => rfl) fun r7 => ?_
      exact Run.rh (k := 0) (by kernel_rfl) (by kernel_rfl)

theorem ok_spec_OverlapI (a0 : Iv) (a1 : Iv) : Fun Tryz.prog 136 [] #[vIv a0, vIv a1] (vB (F_spec_OverlapI a0 a1)) [] := by
  refine Fun.ofH 400 E_ok mixed Tryz.func136 (by kernel_rfl) (by kernel_rfl) ?_
  unfold F_spec_OverlapI
  refine Run.bH (e := vT_Iv_B) (gv := vB) (by kernel_rfl) (by kernel_rfl) (ok_spec_MeetI _ _) (fun _ => rfl) fun r1 => ?_
  exact Run.rh (k := 0) (by kernel_rfl) (by kernel_rfl)

theorem ok_spec_l06Over_L0 : ∀ (fu : Nat) (a1 : I64) (a0 : Iv) (x_k : I64) (y_2 : Iv) (hm : (2000 - x_k.val).toNat < fu) (t : Array Value) (ht : maskA t [0, 3, 7, 8, 9, 10, 11, 12, 13, 14, 15, 16, 17, 18, 19, 20, 21, 22, 23, 24, 25, 26, 27, 28, 29, 30, 31, 32, 33, 34, 35, 36, 37, 38, 39, 40, 41, 42, 43, 44, 45, 46, 47, 48, 49, 50, 51] = #[undef, .int .i64 a1.val, .pointer (some ⟨0, 0, none⟩), undef, .pointer (some ⟨1, 0, none⟩), .pointer (some ⟨2, 0, none⟩), .int .i64 x_k.val, undef, undef, undef, undef, undef, undef, undef, undef, undef, undef, undef, undef, undef, undef, undef, undef, undef, undef, undef, undef, undef, undef, undef, undef, undef, undef, undef, undef, undef, undef, undef, undef, undef, undef, undef, undef, undef, undef, undef, undef, undef, undef, undef, undef, undef]), Cfg Tryz.prog 87 (loopAt Tryz.f87 0) t [(#[.int .i64 a0.lo.val, .int .i64 a0.hi.val], 23), (#[.int .i64 0, .int .i64 0], 23), (#[.int .i64 y_2.lo.val, .int .i64 y_2.hi.val], 23)] (RvH [] (vIv (F_spec_l06Over_L0 fu a1 a0 x_k y_2))) := by
  intro fu
  induction fu with
  | zero => intro a1 a0 x_k y_2 hm; exact absurd hm (Nat.not_lt_zero _)
  | succ fu ih =>
    intro a1 a0 x_k y_2 hm t ht
    refine Cfg.round E_ok mixed Tryz.func87 ht fun g => ?_
    unfold F_spec_l06Over_L0
    refine Run.bk (e := vI) (gv := vIv) (by kernel_rfl) (by kernel_rfl) (ok_spec_QuarterOf _) (fun _ => rfl) fun r8 hr8 => ?_
    refine Run.jk (gv := vIv) (by kernel_rfl) (fun h9 => ?_) (fun h9 => ?_)
    · refine Run.bk (e := vIv) (gv := vIv) (by kernel_rfl) (by kernel_rfl) (ok_spec_TurnI _) (fun _ => rfl) fun r10 hr10 => ?_
      refine Run.bk (e := vB) (gv := vIv) (by kernel_rfl) (by kernel_rfl) (ok_spec_OverlapI _ _) (fun _ => rfl) fun r11 hr11 => ?_
      refine Run.jk (gv := vIv) (by kernel_rfl) (fun h12 => ?_) (fun h12 => ?_)
      · exact Run.l (by kernel_rfl) (by kernel_rfl) (by kernel_rfl) (by kernel_rfl) (ih a1 a0 (w64 (x_k.val + 1)) y_2 (by have q1 := x_k.lo; first | exact Nat.lt_succ_self _ | (have q2 := spec_quarter_le a0.hi; have q3 := spec_quarter_ge a0.hi; simp only [w64_val, decide_eq_true_eq, decide_eq_false_iff_not, *] at *; omega)))
      · refine Run.jk (gv := vIv) (by kernel_rfl) (fun h13 => ?_) (fun h13 => ?_)
        · refine Run.bk (e := vIv) (gv := vIv) (by kernel_rfl) (by kernel_rfl) (ok_spec_Integer _) (fun _ => rfl) fun r14 hr14 => ?_
          refine Run.bk (e := vIv) (gv := vIv) (by kernel_rfl) (by kernel_rfl) (ok_spec_HullI _ _) (fun _ => rfl) fun r15 hr15 => ?_
          exact Run.l (by kernel_rfl) (by kernel_rfl) (by kernel_rfl) (by kernel_rfl) (ih a1 a0 (w64 (x_k.val + 1)) r15 (by have q1 := x_k.lo; first | exact Nat.lt_succ_self _ | (have q2 := spec_quarter_le a0.hi; have q3 := spec_quarter_ge a0.hi; simp only [w64_val, decide_eq_true_eq, decide_eq_false_iff_not, *] at *; omega)))
        · refine Run.jk (gv := vIv) (by kernel_rfl) (fun h16 => ?_) (fun h16 => ?_)
          · refine Run.bk (e := vIv) (gv := vIv) (by kernel_rfl) (by kernel_rfl) (ok_spec_Integer _) (fun _ => rfl) fun r17 hr17 => ?_
            refine Run.bk (e := vIv) (gv := vIv) (by kernel_rfl) (by kernel_rfl) (ok_spec_HullI _ _) (fun _ => rfl) fun r18 hr18 => ?_
            exact Run.l (by kernel_rfl) (by kernel_rfl) (by kernel_rfl) (by kernel_rfl) (ih a1 a0 (w64 (x_k.val + 1)) r18 (by have q1 := x_k.lo; first | exact Nat.lt_succ_self _ | (have q2 := spec_quarter_le a0.hi; have q3 := spec_quarter_ge a0.hi; simp only [w64_val, decide_eq_true_eq, decide_eq_false_iff_not, *] at *; omega)))
          · exact Run.l (by kernel_rfl) (by kernel_rfl) (by kernel_rfl) (by kernel_rfl) (ih a1 a0 (w64 (x_k.val + 1)) y_2 (by have q1 := x_k.lo; first | exact Nat.lt_succ_self _ | (have q2 := spec_quarter_le a0.hi; have q3 := spec_quarter_ge a0.hi; simp only [w64_val, decide_eq_true_eq, decide_eq_false_iff_not, *] at *; omega)))
    · exact Run.rh (k := 0) (by kernel_rfl) (by kernel_rfl)

theorem ok_spec_l06Over (a0 : Iv) (a1 : I64) : Fun Tryz.prog 87 [] #[vIv a0, vI a1] (vIv (F_spec_l06Over a0 a1)) [] := by
  refine Fun.ofH 400 E_ok mixed Tryz.func87 (by kernel_rfl) (by kernel_rfl) ?_
  unfold F_spec_l06Over
  refine Run.bk (e := vB) (gv := vIv) (by kernel_rfl) (by kernel_rfl) (ok_spec_l06Fits _) (fun _ => rfl) fun r1 hr1 => ?_
  refine Run.jk (gv := vIv) (by kernel_rfl) (fun h2 => ?_) (fun h2 => ?_)
  · refine Run.bk (e := vIv) (gv := vIv) (by kernel_rfl) (by kernel_rfl) (ok_spec_l06Ring) (fun _ => rfl) fun r3 hr3 => ?_
    exact Run.rh (k := 0) (by kernel_rfl) (by kernel_rfl)
  · refine Run.bk (e := vIv) (gv := vIv) (by kernel_rfl) (by kernel_rfl) (ok_spec_l06At _ _) (fun _ => rfl) fun r4 hr4 => ?_
    refine Run.bk (e := vIv) (gv := vIv) (by kernel_rfl) (by kernel_rfl) (ok_spec_l06At _ _) (fun _ => rfl) fun r5 hr5 => ?_
    refine Run.bk (e := vIv) (gv := vIv) (by kernel_rfl) (by kernel_rfl) (ok_spec_HullI _ _) (fun _ => rfl) fun r6 hr6 => ?_
    refine Run.bk (e := vI) (gv := vIv) (by kernel_rfl) (by kernel_rfl) (ok_spec_QuarterOf _) (fun _ => rfl) fun r7 hr7 => ?_
    exact Run.l (by kernel_rfl) (by kernel_rfl) (by kernel_rfl) (by kernel_rfl) (ok_spec_l06Over_L0 ((2000 - (w64 (r7.val - 1)).val).toNat + 1) a1 a0 (w64 (r7.val - 1)) r6 (by exact Nat.lt_succ_self _))

theorem ok_spec_SinI (a0 : Iv) : Fun Tryz.prog 30 [] #[vIv a0] (vIv (F_spec_SinI a0)) [] := by
  refine Fun.ofH 400 E_ok mixed Tryz.func30 (by kernel_rfl) (by kernel_rfl) ?_
  unfold F_spec_SinI
  refine Run.bH (e := vIv) (gv := vIv) (by kernel_rfl) (by kernel_rfl) (ok_spec_l06Over _ _) (fun _ => rfl) fun r1 => ?_
  exact Run.rh (k := 0) (by kernel_rfl) (by kernel_rfl)

theorem ok_spec_l20Left (a0 : I64) (a1 : I64) : Fun Tryz.prog 127 [] #[vI a0, vI a1] (vIv (F_spec_l20Left a0 a1)) [] := by
  refine Fun.ofH 400 E_ok mixed Tryz.func127 (by kernel_rfl) (by kernel_rfl) ?_
  unfold F_spec_l20Left
  refine Run.bH (e := vIv) (gv := vIv) (by kernel_rfl) (by kernel_rfl) (ok_spec_l05At _) (fun _ => rfl) fun r1 => ?_
  refine Run.jH (gv := vIv) (by kernel_rfl) (?_) (?_)
  · refine Run.bH (e := vIv) (gv := vIv) (by kernel_rfl) (by kernel_rfl) (ok_spec_l05At _) (fun _ => rfl) fun r2 => ?_
    refine Run.bH (e := vIv) (gv := vIv) (by kernel_rfl) (by kernel_rfl) (ok_spec_SinI _) (fun _ => rfl) fun r3 => ?_
    refine Run.bH (e := vIv) (gv := vIv) (by kernel_rfl) (by kernel_rfl) (ok_spec_AddI _ _) (fun _ => rfl) fun r4 => ?_
    exact Run.rh (k := 0) (by kernel_rfl) (by kernel_rfl)
  · refine Run.bH (e := vIv) (gv := vIv) (by kernel_rfl) (by kernel_rfl) (ok_spec_SinI _) (fun _ => rfl) fun r5 => ?_
    refine Run.bH (e := vIv) (gv := vIv) (by kernel_rfl) (by kernel_rfl) (ok_spec_AddI _ _) (fun _ => rfl) fun r6 => ?_
    exact Run.rh (k := 0) (by kernel_rfl) (by kernel_rfl)

theorem ok_spec_l20Solve_L1 : ∀ (fu : Nat) (a0 : I64) (a1 : I64) (x_from : I64) (x_low : I64) (x_high : I64) (q0 : 0 ≤ x_low.val) (q1 : x_low.val ≤ x_high.val) (q2 : x_high.val ≤ 6746518853) (hm : (x_high.val - x_low.val).toNat < fu) (t : Array Value) (ht : maskA t [2, 3, 5, 8, 10, 11, 12, 13, 14, 15, 16, 17, 18, 19, 20, 21, 22, 23, 24, 25, 26, 27, 28, 29, 30, 31, 32, 33, 34, 35, 36, 37, 38, 39, 40, 41, 42, 43, 44, 45, 46, 47, 48, 49, 50] = #[.int .i64 a0.val, .int .i64 a1.val, undef, undef, .pointer (some ⟨0, 0, none⟩), undef, .int .i64 x_low.val, .int .i64 x_high.val, undef, .int .i64 x_from.val, undef, undef, undef, undef, undef, undef, undef, undef, undef, undef, undef, undef, undef, undef, undef, undef, undef, undef, undef, undef, undef, undef, undef, undef, undef, undef, undef, undef, undef, undef, undef, undef, undef, undef, undef, undef, undef, undef, undef, undef, undef]), Cfg Tryz.prog 71 (loopAt Tryz.f71 1) t [(#[.int .i64 0, .int .i64 0], 23)] (RvH [] (vIv (F_spec_l20Solve_L1 fu a0 a1 x_from x_low x_high))) := by
  intro fu
  induction fu with
  | zero => intro a0 a1 x_from x_low x_high q0 q1 q2 hm; exact absurd hm (Nat.not_lt_zero _)
  | succ fu ih =>
    intro a0 a1 x_from x_low x_high q0 q1 q2 hm t ht
    refine Cfg.round E_ok mixed Tryz.func71 ht fun g => ?_
    unfold F_spec_l20Solve_L1
    refine Run.jk (gv := vIv) (by kernel_rfl) (fun h5 => ?_) (fun h5 => ?_)
    · refine Run.p [true] (by kernel_rfl) ?_
      refine Run.bk (e := vIv) (gv := vIv) (by kernel_rfl) (by kernel_rfl) (ok_spec_l20Left _ _) (fun _ => rfl) fun r6 hr6 => ?_
      refine Run.jk (gv := vIv) (by kernel_rfl) (fun h7 => ?_) (fun h7 => ?_)
      · exact Run.l (by kernel_rfl) (by kernel_rfl) (by kernel_rfl) (by kernel_rfl) (ih a0 a1 x_from x_low (ishr (w64 (x_low.val + x_high.val)) 1) (by first | exact Nat.lt_succ_self _ | (simp only [shr1_val, w64_val, c64_val, decide_eq_true_eq, decide_eq_false_iff_not, cond_true, cond_false] at *; omega)) (by first | exact Nat.lt_succ_self _ | (simp only [shr1_val, w64_val, c64_val, decide_eq_true_eq, decide_eq_false_iff_not, cond_true, cond_false] at *; omega)) (by first | exact Nat.lt_succ_self _ | (simp only [shr1_val, w64_val, c64_val, decide_eq_true_eq, decide_eq_false_iff_not, cond_true, cond_false] at *; omega)) (by first | exact Nat.lt_succ_self _ | (simp only [shr1_val, w64_val, c64_val, decide_eq_true_eq, decide_eq_false_iff_not, cond_true, cond_false] at *; omega)))
      · exact Run.l (by kernel_rfl) (by kernel_rfl) (by kernel_rfl) (by kernel_rfl) (ih a0 a1 x_from (ishr (w64 (x_low.val + x_high.val)) 1) x_high (by first | exact Nat.lt_succ_self _ | (simp only [shr1_val, w64_val, c64_val, decide_eq_true_eq, decide_eq_false_iff_not, cond_true, cond_false] at *; omega)) (by first | exact Nat.lt_succ_self _ | (simp only [shr1_val, w64_val, c64_val, decide_eq_true_eq, decide_eq_false_iff_not, cond_true, cond_false] at *; omega)) (by first | exact Nat.lt_succ_self _ | (simp only [shr1_val, w64_val, c64_val, decide_eq_true_eq, decide_eq_false_iff_not, cond_true, cond_false] at *; omega)) (by first | exact Nat.lt_succ_self _ | (simp only [shr1_val, w64_val, c64_val, decide_eq_true_eq, decide_eq_false_iff_not, cond_true, cond_false] at *; omega)))
    · exact Run.rh (k := 0) (by kernel_rfl) (by kernel_rfl)

end Go.Proofs.YtmkiegnnaabmaaaGreat.Abs
