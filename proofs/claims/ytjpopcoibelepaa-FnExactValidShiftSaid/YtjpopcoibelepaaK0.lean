/- The program's functions are these; part 0 (written by w.py). -/
import Derived.Test.YtjpopcoibelepaaE
import Derived.Test.YtjpopcoibelepaaF0
set_option linter.unusedVariables false
set_option linter.unusedSimpArgs false
namespace Go.Proofs.Ytjpopcoibelepaa.Abs
open Go Go.RowKit

theorem ok_spec_l00In (a0 : I64) (a1 : I64) (a2 : I64) : Fun Try.prog 37 [] #[vI a0, vI a1, vI a2] (vB (F_spec_l00In a0 a1 a2)) [] := by
  refine Fun.ofH 400 E_ok mixed Try.func37 (by kernel_rfl) (by kernel_rfl) ?_
  unfold F_spec_l00In
  refine Run.jH (gv := vB) (by kernel_rfl) (?_) (?_)
  · refine Run.p [true, true, true] (by kernel_rfl) ?_
    exact Run.rh (k := 0) (by kernel_rfl) (by kernel_rfl)
  · refine Run.p [false, false, false] (by kernel_rfl) ?_
    exact Run.rh (k := 0) (by kernel_rfl) (by kernel_rfl)

theorem ok_spec_l21Middle (a0 : I64) : Fun Try.prog 38 [] #[vI a0] (vI (F_spec_l21Middle a0)) [] := by
  refine Fun.ofH 400 E_ok mixed Try.func38 (by kernel_rfl) (by kernel_rfl) ?_
  unfold F_spec_l21Middle
  exact Run.rh (k := 0) (by kernel_rfl) (by kernel_rfl)

theorem ok_spec_ZoneMiddle (a0 : I64) : Fun Try.prog 12 [] #[vI a0] (vT_I_I (F_spec_ZoneMiddle a0)) [] := by
  refine Fun.ofH 400 E_ok mixed Try.func12 (by kernel_rfl) (by kernel_rfl) ?_
  unfold F_spec_ZoneMiddle
  refine Run.bH (e := vB) (gv := vT_I_I) (by kernel_rfl) (by kernel_rfl) (ok_spec_l00In _ _ _) (fun _ => rfl) fun r1 => ?_
  refine Run.jH (gv := vT_I_I) (by kernel_rfl) (?_) (?_)
  · exact Run.rh (k := 0) (by kernel_rfl) (by kernel_rfl)
  · refine Run.bH (e := vI) (gv := vT_I_I) (by kernel_rfl) (by kernel_rfl) (ok_spec_l21Middle _) (fun _ => rfl) fun r2 => ?_
    exact Run.rh (k := 0) (by kernel_rfl) (by kernel_rfl)

theorem ok_impl_within (a0 : I64) (a1 : I64) (a2 : I64) : Fun Try.prog 39 [] #[vI a0, vI a1, vI a2] (vB (F_impl_within a0 a1 a2)) [] := by
  refine Fun.ofH 400 E_ok mixed Try.func39 (by kernel_rfl) (by kernel_rfl) ?_
  unfold F_impl_within
  refine Run.jH (gv := vB) (by kernel_rfl) (?_) (?_)
  · refine Run.p [true, true, true] (by kernel_rfl) ?_
    exact Run.rh (k := 0) (by kernel_rfl) (by kernel_rfl)
  · refine Run.p [false, false, false] (by kernel_rfl) ?_
    exact Run.rh (k := 0) (by kernel_rfl) (by kernel_rfl)

theorem ok_impl_ZoneMiddle (a0 : I64) : Fun Try.prog 13 [] #[vI a0] (vT_I_I (F_impl_ZoneMiddle a0)) [] := by
  refine Fun.ofH 400 E_ok mixed Try.func13 (by kernel_rfl) (by kernel_rfl) ?_
  unfold F_impl_ZoneMiddle
  refine Run.bH (e := vB) (gv := vT_I_I) (by kernel_rfl) (by kernel_rfl) (ok_impl_within _ _ _) (fun _ => rfl) fun r1 => ?_
  refine Run.jH (gv := vT_I_I) (by kernel_rfl) (?_) (?_)
  · exact Run.rh (k := 0) (by kernel_rfl) (by kernel_rfl)
  · exact Run.rh (k := 0) (by kernel_rfl) (by kernel_rfl)

theorem ok_laws_FnExactZoneMiddle (a0 : I64) : Fun Try.prog 3 [] #[vI a0] (vB (F_laws_FnExactZoneMiddle a0)) [] := by
  refine Fun.ofH 400 E_ok mixed Try.func3 (by kernel_rfl) (by kernel_rfl) ?_
  unfold F_laws_FnExactZoneMiddle
  refine Run.bH (e := vT_I_I) (gv := vB) (by kernel_rfl) (by kernel_rfl) (ok_spec_ZoneMiddle _) (fun _ => rfl) fun r1 => ?_
  refine Run.bH (e := vT_I_I) (gv := vB) (by kernel_rfl) (by kernel_rfl) (ok_impl_ZoneMiddle _) (fun _ => rfl) fun r2 => ?_
  refine Run.jH (gv := vB) (by kernel_rfl) (?_) (?_)
  · refine Run.p [true, true, true, true] (by kernel_rfl) ?_
    exact Run.rh (k := 0) (by kernel_rfl) (by kernel_rfl)
  · refine Run.p [false, false, false] (by kernel_rfl) ?_
    refine Run.jH (gv := vB) (by kernel_rfl) (?_) (?_)
    · exact Run.rh (k := 0) (by kernel_rfl) (by kernel_rfl)
    · exact Run.rh (k := 0) (by kernel_rfl) (by kernel_rfl)

theorem ok_spec_l00Has__s4 (b0_0 : I64) (b0_1 : I64) (b0_2 : I64) (b0_3 : I64) (a0 : I64) : Fun Try.prog 40 [(#[.int .i64 b0_0.val, .int .i64 b0_1.val, .int .i64 b0_2.val, .int .i64 b0_3.val], 2)] #[.slice (some ⟨0, 0, none⟩) 4 4, vI a0] (vB (F_spec_l00Has__s4 b0_0 b0_1 b0_2 b0_3 a0)) [(#[.int .i64 b0_0.val, .int .i64 b0_1.val, .int .i64 b0_2.val, .int .i64 b0_3.val], 2)] := by
  refine Fun.ofH 400 E_ok mixed Try.func40 (by kernel_rfl) (by kernel_rfl) ?_
  unfold F_spec_l00Has__s4
  refine Run.u 400 E_ok mixed Try.func40 ?_
  refine Run.p [true, true] (by kernel_rfl) ?_
  refine Run.jH (gv := vB) (by kernel_rfl) (?_) (?_)
  · exact Run.rh (k := 1) (by kernel_rfl) (by kernel_rfl)
  · refine Run.u 400 E_ok mixed Try.func40 ?_
    refine Run.p [true, true] (by kernel_rfl) ?_
    refine Run.jH (gv := vB) (by kernel_rfl) (?_) (?_)
    · exact Run.rh (k := 1) (by kernel_rfl) (by kernel_rfl)
    · refine Run.u 400 E_ok mixed Try.func40 ?_
      refine Run.p [true, true] (by kernel_rfl) ?_
      refine Run.jH (gv := vB) (by kernel_rfl) (?_) (?_)
      · exact Run.rh (k := 1) (by kernel_rfl) (by kernel_rfl)
      · refine Run.u 400 E_ok mixed Try.func40 ?_
        refine Run.p [true, true] (by kernel_rfl) ?_
        refine Run.jH (gv := vB) (by kernel_rfl) (?_) (?_)
        · exact Run.rh (k := 1) (by kernel_rfl) (by kernel_rfl)
        · refine Run.u 400 E_ok mixed Try.func40 ?_
          refine Run.p [false] (by kernel_rfl) ?_
          exact Run.rh (k := 1) (by kernel_rfl) (by kernel_rfl)

theorem ok_spec_IsConformal (a0 : I64) : Fun Try.prog 14 [] #[vI a0] (vB (F_spec_IsConformal a0)) [] := by
  refine Fun.ofH 400 E_ok mixed Try.func14 (by kernel_rfl) (by kernel_rfl) ?_
  unfold F_spec_IsConformal
  refine Run.sb (e := vB) (gv := vB) [0] (by kernel_rfl) (by kernel_rfl) (by kernel_rfl) (by decide) (by kernel_rfl) (ok_spec_l00Has__s4 _ _ _ _ _) (fun _ => rfl) fun r1 => ?_
  exact Run.rh (k := 0) (by kernel_rfl) (by kernel_rfl)

theorem ok_slices_Index_int64_int64__s4 (b0_0 : I64) (b0_1 : I64) (b0_2 : I64) (b0_3 : I64) (a0 : I64) : Fun Try.prog 59 [(#[.int .i64 b0_0.val, .int .i64 b0_1.val, .int .i64 b0_2.val, .int .i64 b0_3.val], 2)] #[.slice (some ⟨0, 0, none⟩) 4 4, vI a0] (vI (F_slices_Index_int64_int64__s4 b0_0 b0_1 b0_2 b0_3 a0)) [(#[.int .i64 b0_0.val, .int .i64 b0_1.val, .int .i64 b0_2.val, .int .i64 b0_3.val], 2)] := by
  refine Fun.ofH 400 E_ok mixed Try.func59 (by kernel_rfl) (by kernel_rfl) ?_
  unfold F_slices_Index_int64_int64__s4
  refine Run.u 400 E_ok mixed Try.func59 ?_
  refine Run.p [true, true] (by kernel_rfl) ?_
  refine Run.jH (gv := vI) (by kernel_rfl) (?_) (?_)
  · exact Run.rh (k := 1) (by kernel_rfl) (by kernel_rfl)
  · refine Run.u 400 E_ok mixed Try.func59 ?_
    refine Run.p [true, true] (by kernel_rfl) ?_
    refine Run.jH (gv := vI) (by kernel_rfl) (?_) (?_)
    · exact Run.rh (k := 1) (by kernel_rfl) (by kernel_rfl)
    · refine Run.u 400 E_ok mixed Try.func59 ?_
      refine Run.p [true, true] (by kernel_rfl) ?_
      refine Run.jH (gv := vI) (by kernel_rfl) (?_) (?_)
      · exact Run.rh (k := 1) (by kernel_rfl) (by kernel_rfl)
      · refine Run.u 400 E_ok mixed Try.func59 ?_
        refine Run.p [true, true] (by kernel_rfl) ?_
        refine Run.jH (gv := vI) (by kernel_rfl) (?_) (?_)
        · exact Run.rh (k := 1) (by kernel_rfl) (by kernel_rfl)
        · refine Run.u 400 E_ok mixed Try.func59 ?_
          refine Run.p [false] (by kernel_rfl) ?_
          exact Run.rh (k := 1) (by kernel_rfl) (by kernel_rfl)

theorem ok_slices_Contains_int64_int64__s4 (b0_0 : I64) (b0_1 : I64) (b0_2 : I64) (b0_3 : I64) (a0 : I64) : Fun Try.prog 41 [(#[.int .i64 b0_0.val, .int .i64 b0_1.val, .int .i64 b0_2.val, .int .i64 b0_3.val], 2)] #[.slice (some ⟨0, 0, none⟩) 4 4, vI a0] (vB (F_slices_Contains_int64_int64__s4 b0_0 b0_1 b0_2 b0_3 a0)) [(#[.int .i64 b0_0.val, .int .i64 b0_1.val, .int .i64 b0_2.val, .int .i64 b0_3.val], 2)] := by
  refine Fun.ofH 400 E_ok mixed Try.func41 (by kernel_rfl) (by kernel_rfl) ?_
  unfold F_slices_Contains_int64_int64__s4
  refine Run.sb (e := vI) (gv := vB) [0] (by kernel_rfl) (by kernel_rfl) (by kernel_rfl) (by decide) (by kernel_rfl) (ok_slices_Index_int64_int64__s4 _ _ _ _ _) (fun _ => rfl) fun r1 => ?_
  exact Run.rh (k := 1) (by kernel_rfl) (by kernel_rfl)

theorem ok_impl_IsConformal (a0 : I64) : Fun Try.prog 15 [] #[vI a0] (vB (F_impl_IsConformal a0)) [] := by
  refine Fun.ofH 400 E_ok mixed Try.func15 (by kernel_rfl) (by kernel_rfl) ?_
  unfold F_impl_IsConformal
  refine Run.sb (e := vB) (gv := vB) [0] (by kernel_rfl) (by kernel_rfl) (by kernel_rfl) (by decide) (by kernel_rfl) (ok_slices_Contains_int64_int64__s4 _ _ _ _ _) (fun _ => rfl) fun r1 => ?_
  exact Run.rh (k := 0) (by kernel_rfl) (by kernel_rfl)

theorem ok_laws_FnExactIsConformal (a0 : I64) : Fun Try.prog 4 [] #[vI a0] (vB (F_laws_FnExactIsConformal a0)) [] := by
  refine Fun.ofH 400 E_ok mixed Try.func4 (by kernel_rfl) (by kernel_rfl) ?_
  unfold F_laws_FnExactIsConformal
  refine Run.bH (e := vB) (gv := vB) (by kernel_rfl) (by kernel_rfl) (ok_spec_IsConformal _) (fun _ => rfl) fun r1 => ?_
  refine Run.bH (e := vB) (gv := vB) (by kernel_rfl) (by kernel_rfl) (ok_impl_IsConformal _) (fun _ => rfl) fun r2 => ?_
  refine Run.jH (gv := vB) (by kernel_rfl) (?_) (?_)
  · exact Run.rh (k := 0) (by kernel_rfl) (by kernel_rfl)
  · exact Run.rh (k := 0) (by kernel_rfl) (by kernel_rfl)

theorem ok_spec_l00Has__s6 (b0_0 : I64) (b0_1 : I64) (b0_2 : I64) (b0_3 : I64) (b0_4 : I64) (b0_5 : I64) (a0 : I64) : Fun Try.prog 40 [(#[.int .i64 b0_0.val, .int .i64 b0_1.val, .int .i64 b0_2.val, .int .i64 b0_3.val, .int .i64 b0_4.val, .int .i64 b0_5.val], 2)] #[.slice (some ⟨0, 0, none⟩) 6 6, vI a0] (vB (F_spec_l00Has__s6 b0_0 b0_1 b0_2 b0_3 b0_4 b0_5 a0)) [(#[.int .i64 b0_0.val, .int .i64 b0_1.val, .int .i64 b0_2.val, .int .i64 b0_3.val, .int .i64 b0_4.val, .int .i64 b0_5.val], 2)] := by
  refine Fun.ofH 400 E_ok mixed Try.func40 (by kernel_rfl) (by kernel_rfl) ?_
  unfold F_spec_l00Has__s6
  refine Run.u 400 E_ok mixed Try.func40 ?_
  refine Run.p [true, true] (by kernel_rfl) ?_
  refine Run.jH (gv := vB) (by kernel_rfl) (?_) (?_)
  · exact Run.rh (k := 1) (by kernel_rfl) (by kernel_rfl)
  · refine Run.u 400 E_ok mixed Try.func40 ?_
    refine Run.p [true, true] (by kernel_rfl) ?_
    refine Run.jH (gv := vB) (by kernel_rfl) (?_) (?_)
    · exact Run.rh (k := 1) (by kernel_rfl) (by kernel_rfl)
    · refine Run.u 400 E_ok mixed Try.func40 ?_
      refine Run.p [true, true] (by kernel_rfl) ?_
      refine Run.jH (gv := vB) (by kernel_rfl) (?_) (?_)
      · exact Run.rh (k := 1) (by kernel_rfl) (by kernel_rfl)
      · refine Run.u 400 E_ok mixed Try.func40 ?_
        refine Run.p [true, true] (by kernel_rfl) ?_
        refine Run.jH (gv := vB) (by kernel_rfl) (?_) (?_)
        · exact Run.rh (k := 1) (by kernel_rfl) (by kernel_rfl)
        · refine Run.u 400 E_ok mixed Try.func40 ?_
          refine Run.p [true, true] (by kernel_rfl) ?_
          refine Run.jH (gv := vB) (by kernel_rfl) (?_) (?_)
          · exact Run.rh (k := 1) (by kernel_rfl) (by kernel_rfl)
          · refine Run.u 400 E_ok mixed Try.func40 ?_
            refine Run.p [true, true] (by kernel_rfl) ?_
            refine Run.jH (gv := vB) (by kernel_rfl) (?_) (?_)
            · exact Run.rh (k := 1) (by kernel_rfl) (by kernel_rfl)
            · refine Run.u 400 E_ok mixed Try.func40 ?_
              refine Run.p [false] (by kernel_rfl) ?_
              exact Run.rh (k := 1) (by kernel_rfl) (by kernel_rfl)

theorem ok_spec_IsEqualArea (a0 : I64) : Fun Try.prog 16 [] #[vI a0] (vB (F_spec_IsEqualArea a0)) [] := by
  refine Fun.ofH 400 E_ok mixed Try.func16 (by kernel_rfl) (by kernel_rfl) ?_
  unfold F_spec_IsEqualArea
  refine Run.sb (e := vB) (gv := vB) [0] (by kernel_rfl) (by kernel_rfl) (by kernel_rfl) (by decide) (by kernel_rfl) (ok_spec_l00Has__s6 _ _ _ _ _ _ _) (fun _ => rfl) fun r1 => ?_
  exact Run.rh (k := 0) (by kernel_rfl) (by kernel_rfl)

theorem ok_slices_Index_int64_int64__s6 (b0_0 : I64) (b0_1 : I64) (b0_2 : I64) (b0_3 : I64) (b0_4 : I64) (b0_5 : I64) (a0 : I64) : Fun Try.prog 59 [(#[.int .i64 b0_0.val, .int .i64 b0_1.val, .int .i64 b0_2.val, .int .i64 b0_3.val, .int .i64 b0_4.val, .int .i64 b0_5.val], 2)] #[.slice (some ⟨0, 0, none⟩) 6 6, vI a0] (vI (F_slices_Index_int64_int64__s6 b0_0 b0_1 b0_2 b0_3 b0_4 b0_5 a0)) [(#[.int .i64 b0_0.val, .int .i64 b0_1.val, .int .i64 b0_2.val, .int .i64 b0_3.val, .int .i64 b0_4.val, .int .i64 b0_5.val], 2)] := by
  refine Fun.ofH 400 E_ok mixed Try.func59 (by kernel_rfl) (by kernel_rfl) ?_
  unfold F_slices_Index_int64_int64__s6
  refine Run.u 400 E_ok mixed Try.func59 ?_
  refine Run.p [true, true] (by kernel_rfl) ?_
  refine Run.jH (gv := vI) (by kernel_rfl) (?_) (?_)
  · exact Run.rh (k := 1) (by kernel_rfl) (by kernel_rfl)
  · refine Run.u 400 E_ok mixed Try.func59 ?_
    refine Run.p [true, true] (by kernel_rfl) ?_
    refine Run.jH (gv := vI) (by kernel_rfl) (?_) (?_)
    · exact Run.rh (k := 1) (by kernel_rfl) (by kernel_rfl)
    · refine Run.u 400 E_ok mixed Try.func59 ?_
      refine Run.p [true, true] (by kernel_rfl) ?_
      refine Run.jH (gv := vI) (by kernel_rfl) (?_) (?_)
      · exact Run.rh (k := 1) (by kernel_rfl) (by kernel_rfl)
      · refine Run.u 400 E_ok mixed Try.func59 ?_
        refine Run.p [true, true] (by kernel_rfl) ?_
        refine Run.jH (gv := vI) (by kernel_rfl) (?_) (?_)
        · exact Run.rh (k := 1) (by kernel_rfl) (by kernel_rfl)
        · refine Run.u 400 E_ok mixed Try.func59 ?_
          refine Run.p [true, true] (by kernel_rfl) ?_
          refine Run.jH (gv := vI) (by kernel_rfl) (?_) (?_)
          · exact Run.rh (k := 1) (by kernel_rfl) (by kernel_rfl)
          · refine Run.u 400 E_ok mixed Try.func59 ?_
            refine Run.p [true, true] (by kernel_rfl) ?_
            refine Run.jH (gv := vI) (by kernel_rfl) (?_) (?_)
            · exact Run.rh (k := 1) (by kernel_rfl) (by kernel_rfl)
            · refine Run.u 400 E_ok mixed Try.func59 ?_
              refine Run.p [false] (by kernel_rfl) ?_
              exact Run.rh (k := 1) (by kernel_rfl) (by kernel_rfl)

theorem ok_slices_Contains_int64_int64__s6 (b0_0 : I64) (b0_1 : I64) (b0_2 : I64) (b0_3 : I64) (b0_4 : I64) (b0_5 : I64) (a0 : I64) : Fun Try.prog 41 [(#[.int .i64 b0_0.val, .int .i64 b0_1.val, .int .i64 b0_2.val, .int .i64 b0_3.val, .int .i64 b0_4.val, .int .i64 b0_5.val], 2)] #[.slice (some ⟨0, 0, none⟩) 6 6, vI a0] (vB (F_slices_Contains_int64_int64__s6 b0_0 b0_1 b0_2 b0_3 b0_4 b0_5 a0)) [(#[.int .i64 b0_0.val, .int .i64 b0_1.val, .int .i64 b0_2.val, .int .i64 b0_3.val, .int .i64 b0_4.val, .int .i64 b0_5.val], 2)] := by
  refine Fun.ofH 400 E_ok mixed Try.func41 (by kernel_rfl) (by kernel_rfl) ?_
  unfold F_slices_Contains_int64_int64__s6
  refine Run.sb (e := vI) (gv := vB) [0] (by kernel_rfl) (by kernel_rfl) (by kernel_rfl) (by decide) (by kernel_rfl) (ok_slices_Index_int64_int64__s6 _ _ _ _ _ _ _) (fun _ => rfl) fun r1 => ?_
  exact Run.rh (k := 1) (by kernel_rfl) (by kernel_rfl)

theorem ok_impl_IsEqualArea (a0 : I64) : Fun Try.prog 17 [] #[vI a0] (vB (F_impl_IsEqualArea a0)) [] := by
  refine Fun.ofH 400 E_ok mixed Try.func17 (by kernel_rfl) (by kernel_rfl) ?_
  unfold F_impl_IsEqualArea
  refine Run.sb (e := vB) (gv := vB) [0] (by kernel_rfl) (by kernel_rfl) (by kernel_rfl) (by decide) (by kernel_rfl) (ok_slices_Contains_int64_int64__s6 _ _ _ _ _ _ _) (fun _ => rfl) fun r1 => ?_
  exact Run.rh (k := 0) (by kernel_rfl) (by kernel_rfl)

theorem ok_laws_FnExactIsEqualArea (a0 : I64) : Fun Try.prog 5 [] #[vI a0] (vB (F_laws_FnExactIsEqualArea a0)) [] := by
  refine Fun.ofH 400 E_ok mixed Try.func5 (by kernel_rfl) (by kernel_rfl) ?_
  unfold F_laws_FnExactIsEqualArea
  refine Run.bH (e := vB) (gv := vB) (by kernel_rfl) (by kernel_rfl) (ok_spec_IsEqualArea _) (fun _ => rfl) fun r1 => ?_
  refine Run.bH (e := vB) (gv := vB) (by kernel_rfl) (by kernel_rfl) (ok_impl_IsEqualArea _) (fun _ => rfl) fun r2 => ?_
  refine Run.jH (gv := vB) (by kernel_rfl) (?_) (?_)
  · exact Run.rh (k := 0) (by kernel_rfl) (by kernel_rfl)
  · exact Run.rh (k := 0) (by kernel_rfl) (by kernel_rfl)

theorem ok_laws_toShift (a0 : Sf) : Fun Try.prog 19 [] #[vSf a0] (vSf (F_laws_toShift a0)) [] := by
  refine Fun.ofH 400 E_ok mixed Try.func19 (by kernel_rfl) (by kernel_rfl) ?_
  unfold F_laws_toShift
  exact Run.rh (k := 0) (by kernel_rfl) (by kernel_rfl)

theorem ok_spec_l23Ok__pSf (b0 : Sf) : Fun Try.prog 42 [(#[.int .i64 b0.tx.val, .int .i64 b0.ty.val, .int .i64 b0.tz.val, .int .i64 b0.rx.val, .int .i64 b0.ry.val, .int .i64 b0.rz.val, .int .i64 b0.sc.val], 28)] #[.pointer (some ⟨0, 0, none⟩)] (vB (F_spec_l23Ok__pSf b0)) [(#[.int .i64 b0.tx.val, .int .i64 b0.ty.val, .int .i64 b0.tz.val, .int .i64 b0.rx.val, .int .i64 b0.ry.val, .int .i64 b0.rz.val, .int .i64 b0.sc.val], 28)] := by
  refine Fun.ofH 400 E_ok mixed Try.func42 (by kernel_rfl) (by kernel_rfl) ?_
  unfold F_spec_l23Ok__pSf
  refine Run.u 400 E_ok mixed Try.func42 ?_
  refine Run.p [true, true] (by kernel_rfl) ?_
  refine Run.bH (e := vB) (gv := vB) (by kernel_rfl) (by kernel_rfl) (ok_spec_l00In _ _ _) (fun _ => rfl) fun r1 => ?_
  refine Run.jH (gv := vB) (by kernel_rfl) (?_) (?_)
  · refine Run.p [true, true, true, true, true, true, true] (by kernel_rfl) ?_
    exact Run.rh (k := 1) (by kernel_rfl) (by kernel_rfl)
  · refine Run.p [false, false, true, false, false] (by kernel_rfl) ?_
    refine Run.bH (e := vB) (gv := vB) (by kernel_rfl) (by kernel_rfl) (ok_spec_l00In _ _ _) (fun _ => rfl) fun r2 => ?_
    refine Run.p [false, false] (by kernel_rfl) ?_
    refine Run.jH (gv := vB) (by kernel_rfl) (?_) (?_)
    · exact Run.rh (k := 1) (by kernel_rfl) (by kernel_rfl)
    · refine Run.u 400 E_ok mixed Try.func42 ?_
      refine Run.p [true, true] (by kernel_rfl) ?_
      refine Run.bH (e := vB) (gv := vB) (by kernel_rfl) (by kernel_rfl) (ok_spec_l00In _ _ _) (fun _ => rfl) fun r3 => ?_
      refine Run.jH (gv := vB) (by kernel_rfl) (?_) (?_)
      · refine Run.p [true, true, true, true, true, true, true] (by kernel_rfl) ?_
        exact Run.rh (k := 1) (by kernel_rfl) (by kernel_rfl)
      · refine Run.p [false, false, true, false, false] (by kernel_rfl) ?_
        refine Run.bH (e := vB) (gv := vB) (by kernel_rfl) (by kernel_rfl) (ok_spec_l00In _ _ _) (fun _ => rfl) fun r4 => ?_
        refine Run.p [false, false] (by kernel_rfl) ?_
        refine Run.jH (gv := vB) (by kernel_rfl) (?_) (?_)
        · exact Run.rh (k := 1) (by kernel_rfl) (by kernel_rfl)
        · refine Run.u 400 E_ok mixed Try.func42 ?_
          refine Run.p [true, true] (by kernel_rfl) ?_
          refine Run.bH (e := vB) (gv := vB) (by kernel_rfl) (by kernel_rfl) (ok_spec_l00In _ _ _) (fun _ => rfl) fun r5 => ?_
          refine Run.jH (gv := vB) (by kernel_rfl) (?_) (?_)
          · refine Run.p [true, true, true, true, true, true, true] (by kernel_rfl) ?_
            exact Run.rh (k := 1) (by kernel_rfl) (by kernel_rfl)
          · refine Run.p [false, false, true, false, false] (by kernel_rfl) ?_
            refine Run.bH (e := vB) (gv := vB) (by kernel_rfl) (by kernel_rfl) (ok_spec_l00In _ _ _) (fun _ => rfl) fun r6 => ?_
            refine Run.p [false, false] (by kernel_rfl) ?_
            refine Run.jH (gv := vB) (by kernel_rfl) (?_) (?_)
            · exact Run.rh (k := 1) (by kernel_rfl) (by kernel_rfl)
            · refine Run.u 400 E_ok mixed Try.func42 ?_
              refine Run.p [false] (by kernel_rfl) ?_
              refine Run.bH (e := vB) (gv := vB) (by kernel_rfl) (by kernel_rfl) (ok_spec_l00In _ _ _) (fun _ => rfl) fun r7 => ?_
              exact Run.rh (k := 1) (by kernel_rfl) (by kernel_rfl)

theorem ok_spec_ValidShift (a0 : Sf) : Fun Try.prog 18 [] #[vSf a0] (vB (F_spec_ValidShift a0)) [] := by
  refine Fun.ofH 400 E_ok mixed Try.func18 (by kernel_rfl) (by kernel_rfl) ?_
  unfold F_spec_ValidShift
  refine Run.sb (e := vB) (gv := vB) [0] (by kernel_rfl) (by kernel_rfl) (by kernel_rfl) (by decide) (by kernel_rfl) (ok_spec_l23Ok__pSf _) (fun _ => rfl) fun r1 => ?_
  exact Run.rh (k := 0) (by kernel_rfl) (by kernel_rfl)

theorem ok_impl_areWithin__s3 (b0_0 : I64) (b0_1 : I64) (b0_2 : I64) (a0 : I64) : Fun Try.prog 43 [(#[.int .i64 b0_0.val, .int .i64 b0_1.val, .int .i64 b0_2.val], 2)] #[vI a0, .slice (some ⟨0, 0, none⟩) 3 3] (vB (F_impl_areWithin__s3 b0_0 b0_1 b0_2 a0)) [(#[.int .i64 b0_0.val, .int .i64 b0_1.val, .int .i64 b0_2.val], 2)] := by
  refine Fun.ofH 400 E_ok mixed Try.func43 (by kernel_rfl) (by kernel_rfl) ?_
  unfold F_impl_areWithin__s3
  refine Run.u 400 E_ok mixed Try.func43 ?_
  refine Run.p [true, true] (by kernel_rfl) ?_
  refine Run.bH (e := vB) (gv := vB) (by kernel_rfl) (by kernel_rfl) (ok_impl_within _ _ _) (fun _ => rfl) fun r1 => ?_
  refine Run.jH (gv := vB) (by kernel_rfl) (?_) (?_)
  · exact Run.rh (k := 1) (by kernel_rfl) (by kernel_rfl)
  · refine Run.u 400 E_ok mixed Try.func43 ?_
    refine Run.p [true, true] (by kernel_rfl) ?_
    refine Run.bH (e := vB) (gv := vB) (by kernel_rfl) (by kernel_rfl) (ok_impl_within _ _ _) (fun _ => rfl) fun r2 => ?_
    refine Run.jH (gv := vB) (by kernel_rfl) (?_) (?_)
    · exact Run.rh (k := 1) (by kernel_rfl) (by kernel_rfl)
    · refine Run.u 400 E_ok mixed Try.func43 ?_
      refine Run.p [true, true] (by kernel_rfl) ?_
      refine Run.bH (e := vB) (gv := vB) (by kernel_rfl) (by kernel_rfl) (ok_impl_within _ _ _) (fun _ => rfl) fun r3 => ?_
      refine Run.jH (gv := vB) (by kernel_rfl) (?_) (?_)
      · exact Run.rh (k := 1) (by kernel_rfl) (by kernel_rfl)
      · refine Run.u 400 E_ok mixed Try.func43 ?_
        refine Run.p [false] (by kernel_rfl) ?_
        exact Run.rh (k := 1) (by kernel_rfl) (by kernel_rfl)

theorem ok_impl_areWithin__s1 (b0 : I64) (a0 : I64) : Fun Try.prog 43 [(#[.int .i64 b0.val], 2)] #[vI a0, .slice (some ⟨0, 0, none⟩) 1 1] (vB (F_impl_areWithin__s1 b0 a0)) [(#[.int .i64 b0.val], 2)] := by
  refine Fun.ofH 400 E_ok mixed Try.func43 (by kernel_rfl) (by kernel_rfl) ?_
  unfold F_impl_areWithin__s1
  refine Run.u 400 E_ok mixed Try.func43 ?_
  refine Run.p [true, true] (by kernel_rfl) ?_
  refine Run.bH (e := vB) (gv := vB) (by kernel_rfl) (by kernel_rfl) (ok_impl_within _ _ _) (fun _ => rfl) fun r1 => ?_
  refine Run.jH (gv := vB) (by kernel_rfl) (?_) (?_)
  · exact Run.rh (k := 1) (by kernel_rfl) (by kernel_rfl)
  · refine Run.u 400 E_ok mixed Try.func43 ?_
    refine Run.p [false] (by kernel_rfl) ?_
    exact Run.rh (k := 1) (by kernel_rfl) (by kernel_rfl)

theorem ok_impl_ValidShift (a0 : Sf) : Fun Try.prog 20 [] #[vSf a0] (vB (F_impl_ValidShift a0)) [] := by
  refine Fun.ofH 400 E_ok mixed Try.func20 (by kernel_rfl) (by kernel_rfl) ?_
  unfold F_impl_ValidShift
  refine Run.sb (e := vB) (gv := vB) [1] (by kernel_rfl) (by kernel_rfl) (by kernel_rfl) (by decide) (by kernel_rfl) (ok_impl_areWithin__s3 _ _ _ _) (fun _ => rfl) fun r1 => ?_
  refine Run.jH (gv := vB) (by kernel_rfl) (?_) (?_)
  · refine Run.p [true, true, true, true, true, true, true] (by kernel_rfl) ?_
    refine Run.sb (e := vB) (gv := vB) [2] (by kernel_rfl) (by kernel_rfl) (by kernel_rfl) (by decide) (by kernel_rfl) (ok_impl_areWithin__s3 _ _ _ _) (fun _ => rfl) fun r2 => ?_
    refine Run.p [true] (by kernel_rfl) ?_
    refine Run.jH (gv := vB) (by kernel_rfl) (?_) (?_)
    · refine Run.p [true, true, true] (by kernel_rfl) ?_
      refine Run.sb (e := vB) (gv := vB) [3] (by kernel_rfl) (by kernel_rfl) (by kernel_rfl) (by decide) (by kernel_rfl) (ok_impl_areWithin__s1 _ _) (fun _ => rfl) fun r3 => ?_
      refine Run.p [true] (by kernel_rfl) ?_
      exact Run.rh (k := 0) (by kernel_rfl) (by kernel_rfl)
    · refine Run.p [false, false, false, false] (by kernel_rfl) ?_
      exact Run.rh (k := 0) (by kernel_rfl) (by kernel_rfl)
  · refine Run.p [false, false, false, false, false, false, false, false, false, false, false, false, false] (by kernel_rfl) ?_
    exact Run.rh (k := 0) (by kernel_rfl) (by kernel_rfl)

theorem ok_laws_FnExactValidShift (a0 : Sf) : Fun Try.prog 6 [] #[vSf a0] (vB (F_laws_FnExactValidShift a0)) [] := by
  refine Fun.ofH 400 E_ok mixed Try.func6 (by kernel_rfl) (by kernel_rfl) ?_
  unfold F_laws_FnExactValidShift
  refine Run.bH (e := vSf) (gv := vB) (by kernel_rfl) (by kernel_rfl) (ok_laws_toShift _) (fun _ => rfl) fun r1 => ?_
  refine Run.bH (e := vB) (gv := vB) (by kernel_rfl) (by kernel_rfl) (ok_spec_ValidShift _) (fun _ => rfl) fun r2 => ?_
  refine Run.bH (e := vSf) (gv := vB) (by kernel_rfl) (by kernel_rfl) (ok_laws_toShift _) (fun _ => rfl) fun r3 => ?_
  refine Run.bH (e := vB) (gv := vB) (by kernel_rfl) (by kernel_rfl) (ok_impl_ValidShift _) (fun _ => rfl) fun r4 => ?_
  refine Run.jH (gv := vB) (by kernel_rfl) (?_) (?_)
  · exact Run.rh (k := 0) (by kernel_rfl) (by kernel_rfl)
  · exact Run.rh (k := 0) (by kernel_rfl) (by kernel_rfl)

theorem ok_spec_l22Family (a0 : I64) : Fun Try.prog 44 [] #[vI a0] (vI (F_spec_l22Family a0)) [] := by
  refine Fun.ofH 400 E_ok mixed Try.func44 (by kernel_rfl) (by kernel_rfl) ?_
  unfold F_spec_l22Family
  refine Run.bH (e := vB) (gv := vI) (by kernel_rfl) (by kernel_rfl) (ok_spec_l00In _ _ _) (fun _ => rfl) fun r1 => ?_
  refine Run.jH (gv := vI) (by kernel_rfl) (?_) (?_)
  · exact Run.rh (k := 0) (by kernel_rfl) (by kernel_rfl)
  · refine Run.bH (e := vB) (gv := vI) (by kernel_rfl) (by kernel_rfl) (ok_spec_l00In _ _ _) (fun _ => rfl) fun r2 => ?_
    refine Run.jH (gv := vI) (by kernel_rfl) (?_) (?_)
    · exact Run.rh (k := 0) (by kernel_rfl) (by kernel_rfl)
    · refine Run.bH (e := vB) (gv := vI) (by kernel_rfl) (by kernel_rfl) (ok_spec_l00In _ _ _) (fun _ => rfl) fun r3 => ?_
      refine Run.jH (gv := vI) (by kernel_rfl) (?_) (?_)
      · exact Run.rh (k := 0) (by kernel_rfl) (by kernel_rfl)
      · refine Run.bH (e := vB) (gv := vI) (by kernel_rfl) (by kernel_rfl) (ok_spec_l00In _ _ _) (fun _ => rfl) fun r4 => ?_
        refine Run.jH (gv := vI) (by kernel_rfl) (?_) (?_)
        · exact Run.rh (k := 0) (by kernel_rfl) (by kernel_rfl)
        · refine Run.jH (gv := vI) (by kernel_rfl) (?_) (?_)
          · exact Run.rh (k := 0) (by kernel_rfl) (by kernel_rfl)
          · exact Run.rh (k := 0) (by kernel_rfl) (by kernel_rfl)

theorem ok_spec_FamilyOf (a0 : I64) : Fun Try.prog 21 [] #[vI a0] (vI (F_spec_FamilyOf a0)) [] := by
  refine Fun.ofH 400 E_ok mixed Try.func21 (by kernel_rfl) (by kernel_rfl) ?_
  unfold F_spec_FamilyOf
  refine Run.bH (e := vI) (gv := vI) (by kernel_rfl) (by kernel_rfl) (ok_spec_l22Family _) (fun _ => rfl) fun r1 => ?_
  exact Run.rh (k := 0) (by kernel_rfl) (by kernel_rfl)

theorem ok_impl_isCylindrical (a0 : I64) : Fun Try.prog 45 [] #[vI a0] (vB (F_impl_isCylindrical a0)) [] := by
  refine Fun.ofH 400 E_ok mixed Try.func45 (by kernel_rfl) (by kernel_rfl) ?_
  unfold F_impl_isCylindrical
  refine Run.bH (e := vB) (gv := vB) (by kernel_rfl) (by kernel_rfl) (ok_impl_within _ _ _) (fun _ => rfl) fun r1 => ?_
  exact Run.rh (k := 0) (by kernel_rfl) (by kernel_rfl)

theorem ok_impl_isAzimuthal (a0 : I64) : Fun Try.prog 46 [] #[vI a0] (vB (F_impl_isAzimuthal a0)) [] := by
  refine Fun.ofH 400 E_ok mixed Try.func46 (by kernel_rfl) (by kernel_rfl) ?_
  unfold F_impl_isAzimuthal
  refine Run.bH (e := vB) (gv := vB) (by kernel_rfl) (by kernel_rfl) (ok_impl_within _ _ _) (fun _ => rfl) fun r1 => ?_
  exact Run.rh (k := 0) (by kernel_rfl) (by kernel_rfl)

theorem ok_impl_isConic (a0 : I64) : Fun Try.prog 47 [] #[vI a0] (vB (F_impl_isConic a0)) [] := by
  refine Fun.ofH 400 E_ok mixed Try.func47 (by kernel_rfl) (by kernel_rfl) ?_
  unfold F_impl_isConic
  refine Run.bH (e := vB) (gv := vB) (by kernel_rfl) (by kernel_rfl) (ok_impl_within _ _ _) (fun _ => rfl) fun r1 => ?_
  exact Run.rh (k := 0) (by kernel_rfl) (by kernel_rfl)

theorem ok_impl_isPseudo (a0 : I64) : Fun Try.prog 48 [] #[vI a0] (vB (F_impl_isPseudo a0)) [] := by
  refine Fun.ofH 400 E_ok mixed Try.func48 (by kernel_rfl) (by kernel_rfl) ?_
  unfold F_impl_isPseudo
  refine Run.bH (e := vB) (gv := vB) (by kernel_rfl) (by kernel_rfl) (ok_impl_within _ _ _) (fun _ => rfl) fun r1 => ?_
  exact Run.rh (k := 0) (by kernel_rfl) (by kernel_rfl)

theorem ok_impl_FamilyOf (a0 : I64) : Fun Try.prog 22 [] #[vI a0] (vI (F_impl_FamilyOf a0)) [] := by
  refine Fun.ofH 400 E_ok mixed Try.func22 (by kernel_rfl) (by kernel_rfl) ?_
  unfold F_impl_FamilyOf
  refine Run.bH (e := vB) (gv := vI) (by kernel_rfl) (by kernel_rfl) (ok_impl_isCylindrical _) (fun _ => rfl) fun r1 => ?_
  refine Run.jH (gv := vI) (by kernel_rfl) (?_) (?_)
  · exact Run.rh (k := 0) (by kernel_rfl) (by kernel_rfl)
  · refine Run.bH (e := vB) (gv := vI) (by kernel_rfl) (by kernel_rfl) (ok_impl_isAzimuthal _) (fun _ => rfl) fun r2 => ?_
    refine Run.jH (gv := vI) (by kernel_rfl) (?_) (?_)
    · exact Run.rh (k := 0) (by kernel_rfl) (by kernel_rfl)
    · refine Run.bH (e := vB) (gv := vI) (by kernel_rfl) (by kernel_rfl) (ok_impl_isConic _) (fun _ => rfl) fun r3 => ?_
      refine Run.jH (gv := vI) (by kernel_rfl) (?_) (?_)
      · exact Run.rh (k := 0) (by kernel_rfl) (by kernel_rfl)
      · refine Run.bH (e := vB) (gv := vI) (by kernel_rfl) (by kernel_rfl) (ok_impl_isPseudo _) (fun _ => rfl) fun r4 => ?_
        refine Run.jH (gv := vI) (by kernel_rfl) (?_) (?_)
        · exact Run.rh (k := 0) (by kernel_rfl) (by kernel_rfl)
        · refine Run.jH (gv := vI) (by kernel_rfl) (?_) (?_)
          · exact Run.rh (k := 0) (by kernel_rfl) (by kernel_rfl)
          · exact Run.rh (k := 0) (by kernel_rfl) (by kernel_rfl)

theorem ok_laws_FnExactFamilyOf (a0 : I64) : Fun Try.prog 7 [] #[vI a0] (vB (F_laws_FnExactFamilyOf a0)) [] := by
  refine Fun.ofH 400 E_ok mixed Try.func7 (by kernel_rfl) (by kernel_rfl) ?_
  unfold F_laws_FnExactFamilyOf
  refine Run.bH (e := vI) (gv := vB) (by kernel_rfl) (by kernel_rfl) (ok_spec_FamilyOf _) (fun _ => rfl) fun r1 => ?_
  refine Run.bH (e := vI) (gv := vB) (by kernel_rfl) (by kernel_rfl) (ok_impl_FamilyOf _) (fun _ => rfl) fun r2 => ?_
  refine Run.jH (gv := vB) (by kernel_rfl) (?_) (?_)
  · exact Run.rh (k := 0) (by kernel_rfl) (by kernel_rfl)
  · exact Run.rh (k := 0) (by kernel_rfl) (by kernel_rfl)

theorem ok_laws_toPoint (a0 : Pt) : Fun Try.prog 24 [] #[vPt a0] (vPt (F_laws_toPoint a0)) [] := by
  refine Fun.ofH 400 E_ok mixed Try.func24 (by kernel_rfl) (by kernel_rfl) ?_
  unfold F_laws_toPoint
  exact Run.rh (k := 0) (by kernel_rfl) (by kernel_rfl)

theorem ok_spec_l11Ok (a0 : Pt) : Fun Try.prog 49 [] #[vPt a0] (vB (F_spec_l11Ok a0)) [] := by
  refine Fun.ofH 400 E_ok mixed Try.func49 (by kernel_rfl) (by kernel_rfl) ?_
  unfold F_spec_l11Ok
  refine Run.bH (e := vB) (gv := vB) (by kernel_rfl) (by kernel_rfl) (ok_spec_l00In _ _ _) (fun _ => rfl) fun r1 => ?_
  refine Run.jH (gv := vB) (by kernel_rfl) (?_) (?_)
  · refine Run.p [true, true] (by kernel_rfl) ?_
    refine Run.bH (e := vB) (gv := vB) (by kernel_rfl) (by kernel_rfl) (ok_spec_l00In _ _ _) (fun _ => rfl) fun r2 => ?_
    refine Run.p [true] (by kernel_rfl) ?_
    exact Run.rh (k := 0) (by kernel_rfl) (by kernel_rfl)
  · refine Run.p [false, false, false] (by kernel_rfl) ?_
    exact Run.rh (k := 0) (by kernel_rfl) (by kernel_rfl)

theorem ok_spec_l21Zone (a0 : Pt) : Fun Try.prog 50 [] #[vPt a0] (vI (F_spec_l21Zone a0)) [] := by
  refine Fun.ofH 400 E_ok mixed Try.func50 (by kernel_rfl) (by kernel_rfl) ?_
  unfold F_spec_l21Zone
  refine Run.jH (gv := vI) (by kernel_rfl) (?_) (?_)
  · exact Run.rh (k := 0) (by kernel_rfl) (by kernel_rfl)
  · refine Run.p [true] (by kernel_rfl) ?_
    exact Run.rh (k := 0) (by kernel_rfl) (by kernel_rfl)

theorem ok_spec_ZoneOf (a0 : Pt) : Fun Try.prog 23 [] #[vPt a0] (vT_I_I (F_spec_ZoneOf a0)) [] := by
  refine Fun.ofH 400 E_ok mixed Try.func23 (by kernel_rfl) (by kernel_rfl) ?_
  unfold F_spec_ZoneOf
  refine Run.bH (e := vB) (gv := vT_I_I) (by kernel_rfl) (by kernel_rfl) (ok_spec_l11Ok _) (fun _ => rfl) fun r1 => ?_
  refine Run.jH (gv := vT_I_I) (by kernel_rfl) (?_) (?_)
  · exact Run.rh (k := 0) (by kernel_rfl) (by kernel_rfl)
  · refine Run.bH (e := vI) (gv := vT_I_I) (by kernel_rfl) (by kernel_rfl) (ok_spec_l21Zone _) (fun _ => rfl) fun r2 => ?_
    exact Run.rh (k := 0) (by kernel_rfl) (by kernel_rfl)

theorem ok_impl_ValidPoint (a0 : Pt) : Fun Try.prog 51 [] #[vPt a0] (vB (F_impl_ValidPoint a0)) [] := by
  refine Fun.ofH 400 E_ok mixed Try.func51 (by kernel_rfl) (by kernel_rfl) ?_
  unfold F_impl_ValidPoint
  refine Run.bH (e := vB) (gv := vB) (by kernel_rfl) (by kernel_rfl) (ok_impl_within _ _ _) (fun _ => rfl) fun r1 => ?_
  refine Run.jH (gv := vB) (by kernel_rfl) (?_) (?_)
  · refine Run.p [true, true, true] (by kernel_rfl) ?_
    refine Run.jH (gv := vB) (by kernel_rfl) (?_) (?_)
    · refine Run.p [true, true, true] (by kernel_rfl) ?_
      exact Run.rh (k := 0) (by kernel_rfl) (by kernel_rfl)
    · refine Run.p [false, false, false] (by kernel_rfl) ?_
      exact Run.rh (k := 0) (by kernel_rfl) (by kernel_rfl)
  · refine Run.p [false, false, false, false, false, false, false] (by kernel_rfl) ?_
    exact Run.rh (k := 0) (by kernel_rfl) (by kernel_rfl)

theorem ok_impl_zoneOf (a0 : Pt) : Fun Try.prog 52 [] #[vPt a0] (vI (F_impl_zoneOf a0)) [] := by
  refine Fun.ofH 400 E_ok mixed Try.func52 (by kernel_rfl) (by kernel_rfl) ?_
  unfold F_impl_zoneOf
  refine Run.jH (gv := vI) (by kernel_rfl) (?_) (?_)
  · exact Run.rh (k := 0) (by kernel_rfl) (by kernel_rfl)
  · refine Run.p [true] (by kernel_rfl) ?_
    exact Run.rh (k := 0) (by kernel_rfl) (by kernel_rfl)

theorem ok_impl_ZoneOf (a0 : Pt) : Fun Try.prog 25 [] #[vPt a0] (vT_I_I (F_impl_ZoneOf a0)) [] := by
  refine Fun.ofH 400 E_ok mixed Try.func25 (by kernel_rfl) (by kernel_rfl) ?_
  unfold F_impl_ZoneOf
  refine Run.bH (e := vB) (gv := vT_I_I) (by kernel_rfl) (by kernel_rfl) (ok_impl_ValidPoint _) (fun _ => rfl) fun r1 => ?_
  refine Run.jH (gv := vT_I_I) (by kernel_rfl) (?_) (?_)
  · exact Run.rh (k := 0) (by kernel_rfl) (by kernel_rfl)
  · refine Run.bH (e := vI) (gv := vT_I_I) (by kernel_rfl) (by kernel_rfl) (ok_impl_zoneOf _) (fun _ => rfl) fun r2 => ?_
    exact Run.rh (k := 0) (by kernel_rfl) (by kernel_rfl)

theorem ok_laws_FnExactZoneOf (a0 : Pt) : Fun Try.prog 8 [] #[vPt a0] (vB (F_laws_FnExactZoneOf a0)) [] := by
  refine Fun.ofH 400 E_ok mixed Try.func8 (by kernel_rfl) (by kernel_rfl) ?_
  unfold F_laws_FnExactZoneOf
  refine Run.bH (e := vPt) (gv := vB) (by kernel_rfl) (by kernel_rfl) (ok_laws_toPoint _) (fun _ => rfl) fun r1 => ?_
  refine Run.bH (e := vT_I_I) (gv := vB) (by kernel_rfl) (by kernel_rfl) (ok_spec_ZoneOf _) (fun _ => rfl) fun r2 => ?_
  refine Run.bH (e := vPt) (gv := vB) (by kernel_rfl) (by kernel_rfl) (ok_laws_toPoint _) (fun _ => rfl) fun r3 => ?_
  refine Run.bH (e := vT_I_I) (gv := vB) (by kernel_rfl) (by kernel_rfl) (ok_impl_ZoneOf _) (fun _ => rfl) fun r4 => ?_
  refine Run.jH (gv := vB) (by kernel_rfl) (?_) (?_)
  · refine Run.p [true, true, true, true] (by kernel_rfl) ?_
    exact Run.rh (k := 0) (by kernel_rfl) (by kernel_rfl)
  · refine Run.p [false, false, false] (by kernel_rfl) ?_
    refine Run.jH (gv := vB) (by kernel_rfl) (?_) (?_)
    · exact Run.rh (k := 0) (by kernel_rfl) (by kernel_rfl)
    · exact Run.rh (k := 0) (by kernel_rfl) (by kernel_rfl)

theorem ok_spec_l21Projection (a0 : I64) : Fun Try.prog 53 [] #[vI a0] (vPj (F_spec_l21Projection a0)) [] := by
  refine Fun.ofH 400 E_ok mixed Try.func53 (by kernel_rfl) (by kernel_rfl) ?_
  unfold F_spec_l21Projection
  refine Run.bH (e := vI) (gv := vPj) (by kernel_rfl) (by kernel_rfl) (ok_spec_l21Middle _) (fun _ => rfl) fun r1 => ?_
  exact Run.rh (k := 0) (by kernel_rfl) (by kernel_rfl)

theorem ok_spec_ZoneProjection (a0 : I64) : Fun Try.prog 26 [] #[vI a0] (vT_Pj_I (F_spec_ZoneProjection a0)) [] := by
  refine Fun.ofH 400 E_ok mixed Try.func26 (by kernel_rfl) (by kernel_rfl) ?_
  unfold F_spec_ZoneProjection
  refine Run.bH (e := vB) (gv := vT_Pj_I) (by kernel_rfl) (by kernel_rfl) (ok_spec_l00In _ _ _) (fun _ => rfl) fun r1 => ?_
  refine Run.jH (gv := vT_Pj_I) (by kernel_rfl) (?_) (?_)
  · exact Run.rh (k := 0) (by kernel_rfl) (by kernel_rfl)
  · refine Run.bH (e := vPj) (gv := vT_Pj_I) (by kernel_rfl) (by kernel_rfl) (ok_spec_l21Projection _) (fun _ => rfl) fun r2 => ?_
    exact Run.rh (k := 0) (by kernel_rfl) (by kernel_rfl)

theorem ok_impl_ZoneProjection (a0 : I64) : Fun Try.prog 27 [] #[vI a0] (vT_Pj_I (F_impl_ZoneProjection a0)) [] := by
  refine Fun.ofH 400 E_ok mixed Try.func27 (by kernel_rfl) (by kernel_rfl) ?_
  unfold F_impl_ZoneProjection
  refine Run.bH (e := vT_I_I) (gv := vT_Pj_I) (by kernel_rfl) (by kernel_rfl) (ok_impl_ZoneMiddle _) (fun _ => rfl) fun r1 => ?_
  refine Run.jH (gv := vT_Pj_I) (by kernel_rfl) (?_) (?_)
  · exact Run.rh (k := 0) (by kernel_rfl) (by kernel_rfl)
  · exact Run.rh (k := 0) (by kernel_rfl) (by kernel_rfl)

theorem ok_laws_eqProjection (a0 : Pj) (a1 : Pj) : Fun Try.prog 28 [] #[vPj a0, vPj a1] (vB (F_laws_eqProjection a0 a1)) [] := by
  refine Fun.ofH 400 E_ok mixed Try.func28 (by kernel_rfl) (by kernel_rfl) ?_
  unfold F_laws_eqProjection
  refine Run.jH (gv := vB) (by kernel_rfl) (?_) (?_)
  · exact Run.rh (k := 0) (by kernel_rfl) (by kernel_rfl)
  · refine Run.jH (gv := vB) (by kernel_rfl) (?_) (?_)
    · exact Run.rh (k := 0) (by kernel_rfl) (by kernel_rfl)
    · refine Run.jH (gv := vB) (by kernel_rfl) (?_) (?_)
      · exact Run.rh (k := 0) (by kernel_rfl) (by kernel_rfl)
      · refine Run.jH (gv := vB) (by kernel_rfl) (?_) (?_)
        · exact Run.rh (k := 0) (by kernel_rfl) (by kernel_rfl)
        · refine Run.jH (gv := vB) (by kernel_rfl) (?_) (?_)
          · exact Run.rh (k := 0) (by kernel_rfl) (by kernel_rfl)
          · exact Run.rh (k := 0) (by kernel_rfl) (by kernel_rfl)

theorem ok_laws_FnExactZoneProjection (a0 : I64) : Fun Try.prog 9 [] #[vI a0] (vB (F_laws_FnExactZoneProjection a0)) [] := by
  refine Fun.ofH 400 E_ok mixed Try.func9 (by kernel_rfl) (by kernel_rfl) ?_
  unfold F_laws_FnExactZoneProjection
  refine Run.bH (e := vT_Pj_I) (gv := vB) (by kernel_rfl) (by kernel_rfl) (ok_spec_ZoneProjection _) (fun _ => rfl) fun r1 => ?_
  refine Run.bH (e := vT_Pj_I) (gv := vB) (by kernel_rfl) (by kernel_rfl) (ok_impl_ZoneProjection _) (fun _ => rfl) fun r2 => ?_
  refine Run.bH (e := vB) (gv := vB) (by kernel_rfl) (by kernel_rfl) (ok_laws_eqProjection _ _) (fun _ => rfl) fun r3 => ?_
  refine Run.jH (gv := vB) (by kernel_rfl) (?_) (?_)
  · refine Run.p [true, true, true, true] (by kernel_rfl) ?_
    exact Run.rh (k := 0) (by kernel_rfl) (by kernel_rfl)
  · refine Run.p [false, false, false] (by kernel_rfl) ?_
    refine Run.jH (gv := vB) (by kernel_rfl) (?_) (?_)
    · exact Run.rh (k := 0) (by kernel_rfl) (by kernel_rfl)
    · exact Run.rh (k := 0) (by kernel_rfl) (by kernel_rfl)

theorem ok_spec_OppositeShift (a0 : Sf) : Fun Try.prog 29 [] #[vSf a0] (vT_Sf_I (F_spec_OppositeShift a0)) [] := by
  refine Fun.ofH 400 E_ok mixed Try.func29 (by kernel_rfl) (by kernel_rfl) ?_
  unfold F_spec_OppositeShift
  refine Run.sb (e := vB) (gv := vT_Sf_I) [0] (by kernel_rfl) (by kernel_rfl) (by kernel_rfl) (by decide) (by kernel_rfl) (ok_spec_l23Ok__pSf _) (fun _ => rfl) fun r1 => ?_
  refine Run.jH (gv := vT_Sf_I) (by kernel_rfl) (?_) (?_)
  · exact Run.rh (k := 0) (by kernel_rfl) (by kernel_rfl)
  · exact Run.rh (k := 0) (by kernel_rfl) (by kernel_rfl)

theorem ok_impl_OppositeShift (a0 : Sf) : Fun Try.prog 30 [] #[vSf a0] (vT_Sf_I (F_impl_OppositeShift a0)) [] := by
  refine Fun.ofH 400 E_ok mixed Try.func30 (by kernel_rfl) (by kernel_rfl) ?_
  unfold F_impl_OppositeShift
  refine Run.bH (e := vB) (gv := vT_Sf_I) (by kernel_rfl) (by kernel_rfl) (ok_impl_ValidShift _) (fun _ => rfl) fun r1 => ?_
  refine Run.jH (gv := vT_Sf_I) (by kernel_rfl) (?_) (?_)
  · exact Run.rh (k := 0) (by kernel_rfl) (by kernel_rfl)
  · exact Run.rh (k := 0) (by kernel_rfl) (by kernel_rfl)

theorem ok_laws_eqShift (a0 : Sf) (a1 : Sf) : Fun Try.prog 31 [] #[vSf a0, vSf a1] (vB (F_laws_eqShift a0 a1)) [] := by
  refine Fun.ofH 400 E_ok mixed Try.func31 (by kernel_rfl) (by kernel_rfl) ?_
  unfold F_laws_eqShift
  refine Run.jH (gv := vB) (by kernel_rfl) (?_) (?_)
  · exact Run.rh (k := 0) (by kernel_rfl) (by kernel_rfl)
  · refine Run.jH (gv := vB) (by kernel_rfl) (?_) (?_)
    · exact Run.rh (k := 0) (by kernel_rfl) (by kernel_rfl)
    · refine Run.jH (gv := vB) (by kernel_rfl) (?_) (?_)
      · exact Run.rh (k := 0) (by kernel_rfl) (by kernel_rfl)
      · refine Run.jH (gv := vB) (by kernel_rfl) (?_) (?_)
        · exact Run.rh (k := 0) (by kernel_rfl) (by kernel_rfl)
        · refine Run.jH (gv := vB) (by kernel_rfl) (?_) (?_)
          · exact Run.rh (k := 0) (by kernel_rfl) (by kernel_rfl)
          · refine Run.jH (gv := vB) (by kernel_rfl) (?_) (?_)
            · exact Run.rh (k := 0) (by kernel_rfl) (by kernel_rfl)
            · refine Run.jH (gv := vB) (by kernel_rfl) (?_) (?_)
              · exact Run.rh (k := 0) (by kernel_rfl) (by kernel_rfl)
              · exact Run.rh (k := 0) (by kernel_rfl) (by kernel_rfl)

theorem ok_laws_FnExactOppositeShift (a0 : Sf) : Fun Try.prog 10 [] #[vSf a0] (vB (F_laws_FnExactOppositeShift a0)) [] := by
  refine Fun.ofH 400 E_ok mixed Try.func10 (by kernel_rfl) (by kernel_rfl) ?_
  unfold F_laws_FnExactOppositeShift
  refine Run.bH (e := vSf) (gv := vB) (by kernel_rfl) (by kernel_rfl) (ok_laws_toShift _) (fun _ => rfl) fun r1 => ?_
  refine Run.bH (e := vT_Sf_I) (gv := vB) (by kernel_rfl) (by kernel_rfl) (ok_spec_OppositeShift _) (fun _ => rfl) fun r2 => ?_
  refine Run.bH (e := vSf) (gv := vB) (by kernel_rfl) (by kernel_rfl) (ok_laws_toShift _) (fun _ => rfl) fun r3 => ?_
  refine Run.bH (e := vT_Sf_I) (gv := vB) (by kernel_rfl) (by kernel_rfl) (ok_impl_OppositeShift _) (fun _ => rfl) fun r4 => ?_
  refine Run.bH (e := vB) (gv := vB) (by kernel_rfl) (by kernel_rfl) (ok_laws_eqShift _ _) (fun _ => rfl) fun r5 => ?_
  refine Run.jH (gv := vB) (by kernel_rfl) (?_) (?_)
  · refine Run.p [true, true, true, true] (by kernel_rfl) ?_
    exact Run.rh (k := 0) (by kernel_rfl) (by kernel_rfl)
  · refine Run.p [false, false, false] (by kernel_rfl) ?_
    refine Run.jH (gv := vB) (by kernel_rfl) (?_) (?_)
    · exact Run.rh (k := 0) (by kernel_rfl) (by kernel_rfl)
    · exact Run.rh (k := 0) (by kernel_rfl) (by kernel_rfl)

end Go.Proofs.Ytjpopcoibelepaa.Abs
