/- The program's functions are these; part 3 (written by w.py). -/
import Derived.Test.YtebaobmmnkebaaaGreatK2
import Derived.Test.YtebaobmmnkebaaaGreatF4
set_option linter.unusedVariables false
set_option linter.unusedSimpArgs false
namespace Go.Proofs.YtebaobmmnkebaaaGreat.Abs
open Go Go.RowKit

theorem ok_impl_DirectionAt (a0 : I64) (a1 : I64) : Fun Tryz.prog 107 [] #[vI a0, vI a1] (vIv (F_impl_DirectionAt a0 a1)) [] := by
  refine Fun.ofH 400 E_ok mixed Tryz.func107 (by kernel_rfl) (by kernel_rfl) ?_
  unfold F_impl_DirectionAt
  refine Run.bH (e := vB) (gv := vIv) (by kernel_rfl) (by kernel_rfl) (ok_impl_isOpen _) (fun _ => rfl) fun r1 => ?_
  refine Run.jH (gv := vIv) (by kernel_rfl) (?_) (?_)
  · refine Run.p [true, true, true, true, true, true, true, true, true] (by kernel_rfl) ?_
    refine Run.bH (e := vIv) (gv := vIv) (by kernel_rfl) (by kernel_rfl) (ok_impl_Whole) (fun _ => rfl) fun r2 => ?_
    exact Run.rh (k := 0) (by kernel_rfl) (by kernel_rfl)
  · refine Run.p [false] (by kernel_rfl) ?_
    refine Run.bH (e := vB) (gv := vIv) (by kernel_rfl) (by kernel_rfl) (ok_impl_isOpen _) (fun _ => rfl) fun r3 => ?_
    refine Run.p [false, false] (by kernel_rfl) ?_
    refine Run.jH (gv := vIv) (by kernel_rfl) (?_) (?_)
    · refine Run.p [true, true, true, true, true] (by kernel_rfl) ?_
      refine Run.bH (e := vIv) (gv := vIv) (by kernel_rfl) (by kernel_rfl) (ok_impl_Whole) (fun _ => rfl) fun r4 => ?_
      exact Run.rh (k := 0) (by kernel_rfl) (by kernel_rfl)
    · refine Run.p [false, false] (by kernel_rfl) ?_
      refine Run.jH (gv := vIv) (by kernel_rfl) (?_) (?_)
      · refine Run.p [true, false, true, false] (by kernel_rfl) ?_
        refine Run.jH (gv := vIv) (by kernel_rfl) (?_) (?_)
        · refine Run.bH (e := vIv) (gv := vIv) (by kernel_rfl) (by kernel_rfl) (ok_impl_Whole) (fun _ => rfl) fun r5 => ?_
          exact Run.rh (k := 0) (by kernel_rfl) (by kernel_rfl)
        · refine Run.bH (e := vI) (gv := vIv) (by kernel_rfl) (by kernel_rfl) (ok_impl_abs _) (fun _ => rfl) fun r6 => ?_
          refine Run.bH (e := vI) (gv := vIv) (by kernel_rfl) (by kernel_rfl) (ok_impl_abs _) (fun _ => rfl) fun r7 => ?_
          refine Run.jH (gv := vIv) (by kernel_rfl) (?_) (?_)
          · refine Run.bH (e := vIv) (gv := vIv) (by kernel_rfl) (by kernel_rfl) (ok_impl_TurnI _) (fun _ => rfl) fun r8 => ?_
            refine Run.jH (gv := vIv) (by kernel_rfl) (?_) (?_)
            · refine Run.bH (e := vIv) (gv := vIv) (by kernel_rfl) (by kernel_rfl) (ok_impl_TurnI _) (fun _ => rfl) fun r9 => ?_
              refine Run.bH (e := vIv) (gv := vIv) (by kernel_rfl) (by kernel_rfl) (ok_impl_at _) (fun _ => rfl) fun r10 => ?_
              refine Run.bH (e := vIv) (gv := vIv) (by kernel_rfl) (by kernel_rfl) (ok_impl_at _) (fun _ => rfl) fun r11 => ?_
              refine Run.bH (e := vIv) (gv := vIv) (by kernel_rfl) (by kernel_rfl) (ok_impl_DivI _ _) (fun _ => rfl) fun r12 => ?_
              refine Run.bH (e := vIv) (gv := vIv) (by kernel_rfl) (by kernel_rfl) (ok_impl_AtanI _) (fun _ => rfl) fun r13 => ?_
              refine Run.bH (e := vIv) (gv := vIv) (by kernel_rfl) (by kernel_rfl) (ok_impl_SubI _ _) (fun _ => rfl) fun r14 => ?_
              exact Run.rh (k := 0) (by kernel_rfl) (by kernel_rfl)
            · refine Run.bH (e := vIv) (gv := vIv) (by kernel_rfl) (by kernel_rfl) (ok_impl_at _) (fun _ => rfl) fun r15 => ?_
              refine Run.bH (e := vIv) (gv := vIv) (by kernel_rfl) (by kernel_rfl) (ok_impl_at _) (fun _ => rfl) fun r16 => ?_
              refine Run.bH (e := vIv) (gv := vIv) (by kernel_rfl) (by kernel_rfl) (ok_impl_DivI _ _) (fun _ => rfl) fun r17 => ?_
              refine Run.bH (e := vIv) (gv := vIv) (by kernel_rfl) (by kernel_rfl) (ok_impl_AtanI _) (fun _ => rfl) fun r18 => ?_
              refine Run.bH (e := vIv) (gv := vIv) (by kernel_rfl) (by kernel_rfl) (ok_impl_SubI _ _) (fun _ => rfl) fun r19 => ?_
              exact Run.rh (k := 0) (by kernel_rfl) (by kernel_rfl)
          · refine Run.bH (e := vIv) (gv := vIv) (by kernel_rfl) (by kernel_rfl) (ok_impl_at _) (fun _ => rfl) fun r20 => ?_
            refine Run.bH (e := vIv) (gv := vIv) (by kernel_rfl) (by kernel_rfl) (ok_impl_at _) (fun _ => rfl) fun r21 => ?_
            refine Run.bH (e := vIv) (gv := vIv) (by kernel_rfl) (by kernel_rfl) (ok_impl_DivI _ _) (fun _ => rfl) fun r22 => ?_
            refine Run.bH (e := vIv) (gv := vIv) (by kernel_rfl) (by kernel_rfl) (ok_impl_AtanI _) (fun _ => rfl) fun r23 => ?_
            refine Run.jH (gv := vIv) (by kernel_rfl) (?_) (?_)
            · exact Run.rh (k := 0) (by kernel_rfl) (by kernel_rfl)
            · refine Run.jH (gv := vIv) (by kernel_rfl) (?_) (?_)
              · refine Run.bH (e := vIv) (gv := vIv) (by kernel_rfl) (by kernel_rfl) (ok_impl_TurnI _) (fun _ => rfl) fun r24 => ?_
                refine Run.bH (e := vIv) (gv := vIv) (by kernel_rfl) (by kernel_rfl) (ok_impl_AddI _ _) (fun _ => rfl) fun r25 => ?_
                exact Run.rh (k := 0) (by kernel_rfl) (by kernel_rfl)
              · refine Run.bH (e := vIv) (gv := vIv) (by kernel_rfl) (by kernel_rfl) (ok_impl_TurnI _) (fun _ => rfl) fun r26 => ?_
                refine Run.bH (e := vIv) (gv := vIv) (by kernel_rfl) (by kernel_rfl) (ok_impl_AddI _ _) (fun _ => rfl) fun r27 => ?_
                exact Run.rh (k := 0) (by kernel_rfl) (by kernel_rfl)
      · refine Run.p [false, false, false, false, false] (by kernel_rfl) ?_
        refine Run.bH (e := vI) (gv := vIv) (by kernel_rfl) (by kernel_rfl) (ok_impl_abs _) (fun _ => rfl) fun r28 => ?_
        refine Run.bH (e := vI) (gv := vIv) (by kernel_rfl) (by kernel_rfl) (ok_impl_abs _) (fun _ => rfl) fun r29 => ?_
        refine Run.jH (gv := vIv) (by kernel_rfl) (?_) (?_)
        · refine Run.bH (e := vIv) (gv := vIv) (by kernel_rfl) (by kernel_rfl) (ok_impl_TurnI _) (fun _ => rfl) fun r30 => ?_
          refine Run.jH (gv := vIv) (by kernel_rfl) (?_) (?_)
          · refine Run.bH (e := vIv) (gv := vIv) (by kernel_rfl) (by kernel_rfl) (ok_impl_TurnI _) (fun _ => rfl) fun r31 => ?_
            refine Run.bH (e := vIv) (gv := vIv) (by kernel_rfl) (by kernel_rfl) (ok_impl_at _) (fun _ => rfl) fun r32 => ?_
            refine Run.bH (e := vIv) (gv := vIv) (by kernel_rfl) (by kernel_rfl) (ok_impl_at _) (fun _ => rfl) fun r33 => ?_
            refine Run.bH (e := vIv) (gv := vIv) (by kernel_rfl) (by kernel_rfl) (ok_impl_DivI _ _) (fun _ => rfl) fun r34 => ?_
            refine Run.bH (e := vIv) (gv := vIv) (by kernel_rfl) (by kernel_rfl) (ok_impl_AtanI _) (fun _ => rfl) fun r35 => ?_
            refine Run.bH (e := vIv) (gv := vIv) (by kernel_rfl) (by kernel_rfl) (ok_impl_SubI _ _) (fun _ => rfl) fun r36 => ?_
            exact Run.rh (k := 0) (by kernel_rfl) (by kernel_rfl)
          · refine Run.bH (e := vIv) (gv := vIv) (by kernel_rfl) (by kernel_rfl) (ok_impl_at _) (fun _ => rfl) fun r37 => ?_
            refine Run.bH (e := vIv) (gv := vIv) (by kernel_rfl) (by kernel_rfl) (ok_impl_at _) (fun _ => rfl) fun r38 => ?_
            refine Run.bH (e := vIv) (gv := vIv) (by kernel_rfl) (by kernel_rfl) (ok_impl_DivI _ _) (fun _ => rfl) fun r39 => ?_
            refine Run.bH (e := vIv) (gv := vIv) (by kernel_rfl) (by kernel_rfl) (ok_impl_AtanI _) (fun _ => rfl) fun r40 => ?_
            refine Run.bH (e := vIv) (gv := vIv) (by kernel_rfl) (by kernel_rfl) (ok_impl_SubI _ _) (fun _ => rfl) fun r41 => ?_
            exact Run.rh (k := 0) (by kernel_rfl) (by kernel_rfl)
        · refine Run.bH (e := vIv) (gv := vIv) (by kernel_rfl) (by kernel_rfl) (ok_impl_at _) (fun _ => rfl) fun r42 => ?_
          refine Run.bH (e := vIv) (gv := vIv) (by kernel_rfl) (by kernel_rfl) (ok_impl_at _) (fun _ => rfl) fun r43 => ?_
          refine Run.bH (e := vIv) (gv := vIv) (by kernel_rfl) (by kernel_rfl) (ok_impl_DivI _ _) (fun _ => rfl) fun r44 => ?_
          refine Run.bH (e := vIv) (gv := vIv) (by kernel_rfl) (by kernel_rfl) (ok_impl_AtanI _) (fun _ => rfl) fun r45 => ?_
          refine Run.jH (gv := vIv) (by kernel_rfl) (?_) (?_)
          · exact Run.rh (k := 0) (by kernel_rfl) (by kernel_rfl)
          · refine Run.jH (gv := vIv) (by kernel_rfl) (?_) (?_)
            · refine Run.bH (e := vIv) (gv := vIv) (by kernel_rfl) (by kernel_rfl) (ok_impl_TurnI _) (fun _ => rfl) fun r46 => ?_
              refine Run.bH (e := vIv) (gv := vIv) (by kernel_rfl) (by kernel_rfl) (ok_impl_AddI _ _) (fun _ => rfl) fun r47 => ?_
              exact Run.rh (k := 0) (by kernel_rfl) (by kernel_rfl)
            · refine Run.bH (e := vIv) (gv := vIv) (by kernel_rfl) (by kernel_rfl) (ok_impl_TurnI _) (fun _ => rfl) fun r48 => ?_
              refine Run.bH (e := vIv) (gv := vIv) (by kernel_rfl) (by kernel_rfl) (ok_impl_AddI _ _) (fun _ => rfl) fun r49 => ?_
              exact Run.rh (k := 0) (by kernel_rfl) (by kernel_rfl)

theorem ok_impl_DirectionI (a0 : Iv) (a1 : Iv) : Fun Tryz.prog 38 [] #[vIv a0, vIv a1] (vIv (F_impl_DirectionI a0 a1)) [] := by
  refine Fun.ofH 400 E_ok mixed Tryz.func38 (by kernel_rfl) (by kernel_rfl) ?_
  unfold F_impl_DirectionI
  refine Run.bH (e := vB) (gv := vIv) (by kernel_rfl) (by kernel_rfl) (ok_impl_areBounded _ _) (fun _ => rfl) fun r1 => ?_
  refine Run.jH (gv := vIv) (by kernel_rfl) (?_) (?_)
  · refine Run.p [true, true, true, true, true, true, true, true, true, true, true, true, true] (by kernel_rfl) ?_
    refine Run.bH (e := vIv) (gv := vIv) (by kernel_rfl) (by kernel_rfl) (ok_impl_Whole) (fun _ => rfl) fun r2 => ?_
    exact Run.rh (k := 0) (by kernel_rfl) (by kernel_rfl)
  · refine Run.p [false] (by kernel_rfl) ?_
    refine Run.bH (e := vB) (gv := vIv) (by kernel_rfl) (by kernel_rfl) (ok_impl_HasI _ _) (fun _ => rfl) fun r3 => ?_
    refine Run.p [false] (by kernel_rfl) ?_
    refine Run.jH (gv := vIv) (by kernel_rfl) (?_) (?_)
    · refine Run.p [true] (by kernel_rfl) ?_
      refine Run.bH (e := vB) (gv := vIv) (by kernel_rfl) (by kernel_rfl) (ok_impl_HasI _ _) (fun _ => rfl) fun r4 => ?_
      refine Run.p [false, true, false] (by kernel_rfl) ?_
      refine Run.jH (gv := vIv) (by kernel_rfl) (?_) (?_)
      · refine Run.p [true, true, true, true, true, true, true, true] (by kernel_rfl) ?_
        refine Run.bH (e := vIv) (gv := vIv) (by kernel_rfl) (by kernel_rfl) (ok_impl_Whole) (fun _ => rfl) fun r5 => ?_
        exact Run.rh (k := 0) (by kernel_rfl) (by kernel_rfl)
      · refine Run.p [false, false, false] (by kernel_rfl) ?_
        refine Run.jH (gv := vIv) (by kernel_rfl) (?_) (?_)
        · refine Run.p [true, true, false, true, false] (by kernel_rfl) ?_
          refine Run.jH (gv := vIv) (by kernel_rfl) (?_) (?_)
          · refine Run.p [true, true, false, true, false] (by kernel_rfl) ?_
            refine Run.jH (gv := vIv) (by kernel_rfl) (?_) (?_)
            · refine Run.bH (e := vIv) (gv := vIv) (by kernel_rfl) (by kernel_rfl) (ok_impl_Whole) (fun _ => rfl) fun r6 => ?_
              exact Run.rh (k := 0) (by kernel_rfl) (by kernel_rfl)
            · refine Run.bH (e := vIv) (gv := vIv) (by kernel_rfl) (by kernel_rfl) (ok_impl_DirectionAt _ _) (fun _ => rfl) fun r7 => ?_
              refine Run.bH (e := vIv) (gv := vIv) (by kernel_rfl) (by kernel_rfl) (ok_impl_DirectionAt _ _) (fun _ => rfl) fun r8 => ?_
              refine Run.bH (e := vIv) (gv := vIv) (by kernel_rfl) (by kernel_rfl) (ok_impl_HullI _ _) (fun _ => rfl) fun r9 => ?_
              refine Run.bH (e := vIv) (gv := vIv) (by kernel_rfl) (by kernel_rfl) (ok_impl_DirectionAt _ _) (fun _ => rfl) fun r10 => ?_
              refine Run.bH (e := vIv) (gv := vIv) (by kernel_rfl) (by kernel_rfl) (ok_impl_DirectionAt _ _) (fun _ => rfl) fun r11 => ?_
              refine Run.bH (e := vIv) (gv := vIv) (by kernel_rfl) (by kernel_rfl) (ok_impl_HullI _ _) (fun _ => rfl) fun r12 => ?_
              refine Run.bH (e := vIv) (gv := vIv) (by kernel_rfl) (by kernel_rfl) (ok_impl_HullI _ _) (fun _ => rfl) fun r13 => ?_
              exact Run.rh (k := 0) (by kernel_rfl) (by kernel_rfl)
          · refine Run.p [false, false, false, false, false, false] (by kernel_rfl) ?_
            refine Run.bH (e := vIv) (gv := vIv) (by kernel_rfl) (by kernel_rfl) (ok_impl_DirectionAt _ _) (fun _ => rfl) fun r14 => ?_
            refine Run.bH (e := vIv) (gv := vIv) (by kernel_rfl) (by kernel_rfl) (ok_impl_DirectionAt _ _) (fun _ => rfl) fun r15 => ?_
            refine Run.bH (e := vIv) (gv := vIv) (by kernel_rfl) (by kernel_rfl) (ok_impl_HullI _ _) (fun _ => rfl) fun r16 => ?_
            refine Run.bH (e := vIv) (gv := vIv) (by kernel_rfl) (by kernel_rfl) (ok_impl_DirectionAt _ _) (fun _ => rfl) fun r17 => ?_
            refine Run.bH (e := vIv) (gv := vIv) (by kernel_rfl) (by kernel_rfl) (ok_impl_DirectionAt _ _) (fun _ => rfl) fun r18 => ?_
            refine Run.bH (e := vIv) (gv := vIv) (by kernel_rfl) (by kernel_rfl) (ok_impl_HullI _ _) (fun _ => rfl) fun r19 => ?_
            refine Run.bH (e := vIv) (gv := vIv) (by kernel_rfl) (by kernel_rfl) (ok_impl_HullI _ _) (fun _ => rfl) fun r20 => ?_
            exact Run.rh (k := 0) (by kernel_rfl) (by kernel_rfl)
        · refine Run.p [false, false, false, false, false, false, false, false, false, false, false, false] (by kernel_rfl) ?_
          refine Run.bH (e := vIv) (gv := vIv) (by kernel_rfl) (by kernel_rfl) (ok_impl_DirectionAt _ _) (fun _ => rfl) fun r21 => ?_
          refine Run.bH (e := vIv) (gv := vIv) (by kernel_rfl) (by kernel_rfl) (ok_impl_DirectionAt _ _) (fun _ => rfl) fun r22 => ?_
          refine Run.bH (e := vIv) (gv := vIv) (by kernel_rfl) (by kernel_rfl) (ok_impl_HullI _ _) (fun _ => rfl) fun r23 => ?_
          refine Run.bH (e := vIv) (gv := vIv) (by kernel_rfl) (by kernel_rfl) (ok_impl_DirectionAt _ _) (fun _ => rfl) fun r24 => ?_
          refine Run.bH (e := vIv) (gv := vIv) (by kernel_rfl) (by kernel_rfl) (ok_impl_DirectionAt _ _) (fun _ => rfl) fun r25 => ?_
          refine Run.bH (e := vIv) (gv := vIv) (by kernel_rfl) (by kernel_rfl) (ok_impl_HullI _ _) (fun _ => rfl) fun r26 => ?_
          refine Run.bH (e := vIv) (gv := vIv) (by kernel_rfl) (by kernel_rfl) (ok_impl_HullI _ _) (fun _ => rfl) fun r27 => ?_
          exact Run.rh (k := 0) (by kernel_rfl) (by kernel_rfl)
    · refine Run.p [false, false, false, false, false, false, false, false] (by kernel_rfl) ?_
      refine Run.jH (gv := vIv) (by kernel_rfl) (?_) (?_)
      · refine Run.p [true, true, false, true, false] (by kernel_rfl) ?_
        refine Run.jH (gv := vIv) (by kernel_rfl) (?_) (?_)
        · refine Run.p [true, true, false, true, false] (by kernel_rfl) ?_
          refine Run.jH (gv := vIv) (by kernel_rfl) (?_) (?_)
          · refine Run.bH (e := vIv) (gv := vIv) (by kernel_rfl) (by kernel_rfl) (ok_impl_Whole) (fun _ => rfl) fun r28 => ?_
            exact Run.rh (k := 0) (by kernel_rfl) (by kernel_rfl)
          · refine Run.bH (e := vIv) (gv := vIv) (by kernel_rfl) (by kernel_rfl) (ok_impl_DirectionAt _ _) (fun _ => rfl) fun r29 => ?_
            refine Run.bH (e := vIv) (gv := vIv) (by kernel_rfl) (by kernel_rfl) (ok_impl_DirectionAt _ _) (fun _ => rfl) fun r30 => ?_
            refine Run.bH (e := vIv) (gv := vIv) (by kernel_rfl) (by kernel_rfl) (ok_impl_HullI _ _) (fun _ => rfl) fun r31 => ?_
            refine Run.bH (e := vIv) (gv := vIv) (by kernel_rfl) (by kernel_rfl) (ok_impl_DirectionAt _ _) (fun _ => rfl) fun r32 => ?_
            refine Run.bH (e := vIv) (gv := vIv) (by kernel_rfl) (by kernel_rfl) (ok_impl_DirectionAt _ _) (fun _ => rfl) fun r33 => ?_
            refine Run.bH (e := vIv) (gv := vIv) (by kernel_rfl) (by kernel_rfl) (ok_impl_HullI _ _) (fun _ => rfl) fun r34 => ?_
            refine Run.bH (e := vIv) (gv := vIv) (by kernel_rfl) (by kernel_rfl) (ok_impl_HullI _ _) (fun _ => rfl) fun r35 => ?_
            exact Run.rh (k := 0) (by kernel_rfl) (by kernel_rfl)
        · refine Run.p [false, false, false, false, false, false] (by kernel_rfl) ?_
          refine Run.bH (e := vIv) (gv := vIv) (by kernel_rfl) (by kernel_rfl) (ok_impl_DirectionAt _ _) (fun _ => rfl) fun r36 => ?_
          refine Run.bH (e := vIv) (gv := vIv) (by kernel_rfl) (by kernel_rfl) (ok_impl_DirectionAt _ _) (fun _ => rfl) fun r37 => ?_
          refine Run.bH (e := vIv) (gv := vIv) (by kernel_rfl) (by kernel_rfl) (ok_impl_HullI _ _) (fun _ => rfl) fun r38 => ?_
          refine Run.bH (e := vIv) (gv := vIv) (by kernel_rfl) (by kernel_rfl) (ok_impl_DirectionAt _ _) (fun _ => rfl) fun r39 => ?_
          refine Run.bH (e := vIv) (gv := vIv) (by kernel_rfl) (by kernel_rfl) (ok_impl_DirectionAt _ _) (fun _ => rfl) fun r40 => ?_
          refine Run.bH (e := vIv) (gv := vIv) (by kernel_rfl) (by kernel_rfl) (ok_impl_HullI _ _) (fun _ => rfl) fun r41 => ?_
          refine Run.bH (e := vIv) (gv := vIv) (by kernel_rfl) (by kernel_rfl) (ok_impl_HullI _ _) (fun _ => rfl) fun r42 => ?_
          exact Run.rh (k := 0) (by kernel_rfl) (by kernel_rfl)
      · refine Run.p [false, false, false, false, false, false, false, false, false, false, false, false] (by kernel_rfl) ?_
        refine Run.bH (e := vIv) (gv := vIv) (by kernel_rfl) (by kernel_rfl) (ok_impl_DirectionAt _ _) (fun _ => rfl) fun r43 => ?_
        refine Run.bH (e := vIv) (gv := vIv) (by kernel_rfl) (by kernel_rfl) (ok_impl_DirectionAt _ _) (fun _ => rfl) fun r44 => ?_
        refine Run.bH (e := vIv) (gv := vIv) (by kernel_rfl) (by kernel_rfl) (ok_impl_HullI _ _) (fun _ => rfl) fun r45 => ?_
        refine Run.bH (e := vIv) (gv := vIv) (by kernel_rfl) (by kernel_rfl) (ok_impl_DirectionAt _ _) (fun _ => rfl) fun r46 => ?_
        refine Run.bH (e := vIv) (gv := vIv) (by kernel_rfl) (by kernel_rfl) (ok_impl_DirectionAt _ _) (fun _ => rfl) fun r47 => ?_
        refine Run.bH (e := vIv) (gv := vIv) (by kernel_rfl) (by kernel_rfl) (ok_impl_HullI _ _) (fun _ => rfl) fun r48 => ?_
        refine Run.bH (e := vIv) (gv := vIv) (by kernel_rfl) (by kernel_rfl) (ok_impl_HullI _ _) (fun _ => rfl) fun r49 => ?_
        exact Run.rh (k := 0) (by kernel_rfl) (by kernel_rfl)

theorem ok_impl_knownI (a0 : Iv) : Fun Tryz.prog 37 [] #[vIv a0] (vT_Iv_I (F_impl_knownI a0)) [] := by
  refine Fun.ofH 400 E_ok mixed Tryz.func37 (by kernel_rfl) (by kernel_rfl) ?_
  unfold F_impl_knownI
  refine Run.bH (e := vB) (gv := vT_Iv_I) (by kernel_rfl) (by kernel_rfl) (ok_impl_IsWhole _) (fun _ => rfl) fun r1 => ?_
  refine Run.jH (gv := vT_Iv_I) (by kernel_rfl) (?_) (?_)
  · exact Run.rh (k := 0) (by kernel_rfl) (by kernel_rfl)
  · exact Run.rh (k := 0) (by kernel_rfl) (by kernel_rfl)

theorem ok_impl_TransverseTurn (a0 : Pj) (a1 : Pt) : Fun Tryz.prog 12 [] #[vPj a0, vPt a1] (vT_Iv_I (F_impl_TransverseTurn a0 a1)) [] := by
  refine Fun.ofH 400 E_ok mixed Tryz.func12 (by kernel_rfl) (by kernel_rfl) ?_
  unfold F_impl_TransverseTurn
  refine Run.bH (e := vT_Iv_Iv_Iv_I) (gv := vT_Iv_I) (by kernel_rfl) (by kernel_rfl) (ok_impl_transverse _ _) (fun _ => rfl) fun r1 => ?_
  refine Run.jH (gv := vT_Iv_I) (by kernel_rfl) (?_) (?_)
  · exact Run.rh (k := 0) (by kernel_rfl) (by kernel_rfl)
  · refine Run.bH (e := vIv) (gv := vT_Iv_I) (by kernel_rfl) (by kernel_rfl) (ok_impl_SinI _) (fun _ => rfl) fun r2 => ?_
    refine Run.bH (e := vIv) (gv := vT_Iv_I) (by kernel_rfl) (by kernel_rfl) (ok_impl_SinI _) (fun _ => rfl) fun r3 => ?_
    refine Run.bH (e := vIv) (gv := vT_Iv_I) (by kernel_rfl) (by kernel_rfl) (ok_impl_MulI _ _) (fun _ => rfl) fun r4 => ?_
    refine Run.bH (e := vIv) (gv := vT_Iv_I) (by kernel_rfl) (by kernel_rfl) (ok_impl_CosI _) (fun _ => rfl) fun r5 => ?_
    refine Run.bH (e := vIv) (gv := vT_Iv_I) (by kernel_rfl) (by kernel_rfl) (ok_impl_DirectionI _ _) (fun _ => rfl) fun r6 => ?_
    refine Run.bH (e := vT_Iv_I) (gv := vT_Iv_I) (by kernel_rfl) (by kernel_rfl) (ok_impl_knownI _) (fun _ => rfl) fun r7 => ?_
    exact Run.rh (k := 0) (by kernel_rfl) (by kernel_rfl)

theorem ok_laws_eqInterval (a0 : Iv) (a1 : Iv) : Fun Tryz.prog 13 [] #[vIv a0, vIv a1] (vB (F_laws_eqInterval a0 a1)) [] := by
  refine Fun.ofH 400 E_ok mixed Tryz.func13 (by kernel_rfl) (by kernel_rfl) ?_
  unfold F_laws_eqInterval
  refine Run.jH (gv := vB) (by kernel_rfl) (?_) (?_)
  · exact Run.rh (k := 0) (by kernel_rfl) (by kernel_rfl)
  · refine Run.jH (gv := vB) (by kernel_rfl) (?_) (?_)
    · exact Run.rh (k := 0) (by kernel_rfl) (by kernel_rfl)
    · exact Run.rh (k := 0) (by kernel_rfl) (by kernel_rfl)

theorem ok_laws_FnExactTransverseTurn (a0 : Pj) (a1 : Pt) : Fun Tryz.prog 3 [] #[vPj a0, vPt a1] (vB (F_laws_FnExactTransverseTurn a0 a1)) [] := by
  refine Fun.ofH 400 E_ok mixed Tryz.func3 (by kernel_rfl) (by kernel_rfl) ?_
  unfold F_laws_FnExactTransverseTurn
  refine Run.bH (e := vPj) (gv := vB) (by kernel_rfl) (by kernel_rfl) (ok_laws_toProjection _) (fun _ => rfl) fun r1 => ?_
  refine Run.bH (e := vPt) (gv := vB) (by kernel_rfl) (by kernel_rfl) (ok_laws_toPoint _) (fun _ => rfl) fun r2 => ?_
  refine Run.bH (e := vT_Iv_I) (gv := vB) (by kernel_rfl) (by kernel_rfl) (ok_spec_TransverseTurn _ _) (fun _ => rfl) fun r3 => ?_
  refine Run.bH (e := vPj) (gv := vB) (by kernel_rfl) (by kernel_rfl) (ok_laws_toProjection _) (fun _ => rfl) fun r4 => ?_
  refine Run.bH (e := vPt) (gv := vB) (by kernel_rfl) (by kernel_rfl) (ok_laws_toPoint _) (fun _ => rfl) fun r5 => ?_
  refine Run.bH (e := vT_Iv_I) (gv := vB) (by kernel_rfl) (by kernel_rfl) (ok_impl_TransverseTurn _ _) (fun _ => rfl) fun r6 => ?_
  refine Run.bH (e := vB) (gv := vB) (by kernel_rfl) (by kernel_rfl) (ok_laws_eqInterval _ _) (fun _ => rfl) fun r7 => ?_
  refine Run.jH (gv := vB) (by kernel_rfl) (?_) (?_)
  · refine Run.p [true, true, true, true] (by kernel_rfl) ?_
    exact Run.rh (k := 0) (by kernel_rfl) (by kernel_rfl)
  · refine Run.p [false, false, false] (by kernel_rfl) ?_
    refine Run.jH (gv := vB) (by kernel_rfl) (?_) (?_)
    · exact Run.rh (k := 0) (by kernel_rfl) (by kernel_rfl)
    · exact Run.rh (k := 0) (by kernel_rfl) (by kernel_rfl)

theorem ok_laws_toInterval (a0 : Iv) : Fun Tryz.prog 49 [] #[vIv a0] (vIv (F_laws_toInterval a0)) [] := by
  refine Fun.ofH 400 E_ok mixed Tryz.func49 (by kernel_rfl) (by kernel_rfl) ?_
  unfold F_laws_toInterval
  exact Run.rh (k := 0) (by kernel_rfl) (by kernel_rfl)

theorem ok_laws_toPlanar (a0 : Pn) : Fun Tryz.prog 15 [] #[vPn a0] (vPn (F_laws_toPlanar a0)) [] := by
  refine Fun.ofH 400 E_ok mixed Tryz.func15 (by kernel_rfl) (by kernel_rfl) ?_
  unfold F_laws_toPlanar
  refine Run.bH (e := vIv) (gv := vPn) (by kernel_rfl) (by kernel_rfl) (ok_laws_toInterval _) (fun _ => rfl) fun r1 => ?_
  refine Run.bH (e := vIv) (gv := vPn) (by kernel_rfl) (by kernel_rfl) (ok_laws_toInterval _) (fun _ => rfl) fun r2 => ?_
  exact Run.rh (k := 0) (by kernel_rfl) (by kernel_rfl)

theorem ok_spec_l20Kind (a0 : I64) : Fun Tryz.prog 112 [] #[vI a0] (vB (F_spec_l20Kind a0)) [] := by
  refine Fun.ofH 400 E_ok mixed Tryz.func112 (by kernel_rfl) (by kernel_rfl) ?_
  unfold F_spec_l20Kind
  refine Run.bH (e := vB) (gv := vB) (by kernel_rfl) (by kernel_rfl) (ok_spec_l00In _ _ _) (fun _ => rfl) fun r1 => ?_
  exact Run.rh (k := 0) (by kernel_rfl) (by kernel_rfl)

theorem ok_spec_l20Ok__pPj (b0 : Pj) : Fun Tryz.prog 42 [(#[.int .i64 b0.kind.val, .int .i64 b0.lat0.val, .int .i64 b0.lon0.val, .int .i64 b0.lat1.val, .int .i64 b0.lat2.val], 30)] #[.pointer (some ⟨0, 0, none⟩)] (vB (F_spec_l20Ok__pPj b0)) [(#[.int .i64 b0.kind.val, .int .i64 b0.lat0.val, .int .i64 b0.lon0.val, .int .i64 b0.lat1.val, .int .i64 b0.lat2.val], 30)] := by
  refine Fun.ofH 400 E_ok mixed Tryz.func42 (by kernel_rfl) (by kernel_rfl) ?_
  unfold F_spec_l20Ok__pPj
  refine Run.bH (e := vB) (gv := vB) (by kernel_rfl) (by kernel_rfl) (ok_spec_l20Kind _) (fun _ => rfl) fun r1 => ?_
  refine Run.jH (gv := vB) (by kernel_rfl) (?_) (?_)
  · refine Run.p [true, true, true] (by kernel_rfl) ?_
    refine Run.bH (e := vB) (gv := vB) (by kernel_rfl) (by kernel_rfl) (ok_spec_ValidProjection _) (fun _ => rfl) fun r2 => ?_
    refine Run.p [true] (by kernel_rfl) ?_
    exact Run.rh (k := 1) (by kernel_rfl) (by kernel_rfl)
  · refine Run.p [false, false, false, false] (by kernel_rfl) ?_
    exact Run.rh (k := 1) (by kernel_rfl) (by kernel_rfl)

theorem ok_spec_PiI : Fun Tryz.prog 48 [] #[] (vIv (F_spec_PiI)) [] := by
  refine Fun.ofH 400 E_ok mixed Tryz.func48 (by kernel_rfl) (by kernel_rfl) ?_
  unfold F_spec_PiI
  refine Run.bk (e := vIv) (gv := vIv) (by kernel_rfl) (by kernel_rfl) (ok_spec_l05Turn _ (by decide)) (fun _ => rfl) fun r1 hr1 => ?_
  exact Run.rh (k := 0) (by kernel_rfl) (by kernel_rfl)

theorem ok_spec_l20Root (a0 : I64) : Fun Tryz.prog 114 [] #[vI a0] (vIv (F_spec_l20Root a0)) [] := by
  refine Fun.ofH 400 E_ok mixed Tryz.func114 (by kernel_rfl) (by kernel_rfl) ?_
  unfold F_spec_l20Root
  refine Run.jH (gv := vIv) (by kernel_rfl) (?_) (?_)
  · refine Run.bH (e := vIv) (gv := vIv) (by kernel_rfl) (by kernel_rfl) (ok_spec_Integer _) (fun _ => rfl) fun r1 => ?_
    refine Run.bH (e := vIv) (gv := vIv) (by kernel_rfl) (by kernel_rfl) (ok_spec_SqrtI _) (fun _ => rfl) fun r2 => ?_
    exact Run.rh (k := 0) (by kernel_rfl) (by kernel_rfl)
  · refine Run.bH (e := vIv) (gv := vIv) (by kernel_rfl) (by kernel_rfl) (ok_spec_Integer _) (fun _ => rfl) fun r3 => ?_
    refine Run.bH (e := vIv) (gv := vIv) (by kernel_rfl) (by kernel_rfl) (ok_spec_PiI) (fun _ => rfl) fun r4 => ?_
    refine Run.bH (e := vIv) (gv := vIv) (by kernel_rfl) (by kernel_rfl) (ok_spec_AddI _ _) (fun _ => rfl) fun r5 => ?_
    refine Run.bH (e := vIv) (gv := vIv) (by kernel_rfl) (by kernel_rfl) (ok_spec_SqrtI _) (fun _ => rfl) fun r6 => ?_
    exact Run.rh (k := 0) (by kernel_rfl) (by kernel_rfl)

theorem ok_spec_l20High (a0 : I64) : Fun Tryz.prog 44 [] #[vI a0] (vIv (F_spec_l20High a0)) [] := by
  refine Fun.ofH 400 E_ok mixed Tryz.func44 (by kernel_rfl) (by kernel_rfl) ?_
  unfold F_spec_l20High
  refine Run.jH (gv := vIv) (by kernel_rfl) (?_) (?_)
  · refine Run.bH (e := vIv) (gv := vIv) (by kernel_rfl) (by kernel_rfl) (ok_spec_TurnI _) (fun _ => rfl) fun r1 => ?_
    exact Run.rh (k := 0) (by kernel_rfl) (by kernel_rfl)
  · refine Run.jH (gv := vIv) (by kernel_rfl) (?_) (?_)
    · refine Run.bH (e := vIv) (gv := vIv) (by kernel_rfl) (by kernel_rfl) (ok_spec_l20Root _) (fun _ => rfl) fun r2 => ?_
      exact Run.rh (k := 0) (by kernel_rfl) (by kernel_rfl)
    · refine Run.bH (e := vIv) (gv := vIv) (by kernel_rfl) (by kernel_rfl) (ok_spec_PiI) (fun _ => rfl) fun r3 => ?_
      refine Run.bH (e := vIv) (gv := vIv) (by kernel_rfl) (by kernel_rfl) (ok_spec_l20Root _) (fun _ => rfl) fun r4 => ?_
      refine Run.bH (e := vIv) (gv := vIv) (by kernel_rfl) (by kernel_rfl) (ok_spec_DivI _ _) (fun _ => rfl) fun r5 => ?_
      exact Run.rh (k := 0) (by kernel_rfl) (by kernel_rfl)

theorem ok_spec_AbsI (a0 : Iv) : Fun Tryz.prog 45 [] #[vIv a0] (vIv (F_spec_AbsI a0)) [] := by
  refine Fun.ofH 400 E_ok mixed Tryz.func45 (by kernel_rfl) (by kernel_rfl) ?_
  unfold F_spec_AbsI
  refine Run.bH (e := vB) (gv := vIv) (by kernel_rfl) (by kernel_rfl) (ok_spec_l04Ok _) (fun _ => rfl) fun r1 => ?_
  refine Run.jH (gv := vIv) (by kernel_rfl) (?_) (?_)
  · refine Run.bH (e := vIv) (gv := vIv) (by kernel_rfl) (by kernel_rfl) (ok_spec_l04Whole) (fun _ => rfl) fun r2 => ?_
    exact Run.rh (k := 0) (by kernel_rfl) (by kernel_rfl)
  · refine Run.bH (e := vT_I_I) (gv := vIv) (by kernel_rfl) (by kernel_rfl) (ok_spec_l04Ends _) (fun _ => rfl) fun r3 => ?_
    refine Run.bH (e := vIv) (gv := vIv) (by kernel_rfl) (by kernel_rfl) (ok_spec_l04Make _ _) (fun _ => rfl) fun r4 => ?_
    exact Run.rh (k := 0) (by kernel_rfl) (by kernel_rfl)

theorem ok_spec_LessI (a0 : Iv) (a1 : Iv) : Fun Tryz.prog 43 [] #[vIv a0, vIv a1] (vI (F_spec_LessI a0 a1)) [] := by
  refine Fun.ofH 400 E_ok mixed Tryz.func43 (by kernel_rfl) (by kernel_rfl) ?_
  unfold F_spec_LessI
  refine Run.bH (e := vB) (gv := vI) (by kernel_rfl) (by kernel_rfl) (ok_spec_l04Ok _) (fun _ => rfl) fun r1 => ?_
  refine Run.jH (gv := vI) (by kernel_rfl) (?_) (?_)
  · refine Run.p [true, true, true, true] (by kernel_rfl) ?_
    exact Run.rh (k := 0) (by kernel_rfl) (by kernel_rfl)
  · refine Run.p [false] (by kernel_rfl) ?_
    refine Run.bH (e := vB) (gv := vI) (by kernel_rfl) (by kernel_rfl) (ok_spec_l04Ok _) (fun _ => rfl) fun r2 => ?_
    refine Run.p [false, false] (by kernel_rfl) ?_
    refine Run.jH (gv := vI) (by kernel_rfl) (?_) (?_)
    · exact Run.rh (k := 0) (by kernel_rfl) (by kernel_rfl)
    · refine Run.jH (gv := vI) (by kernel_rfl) (?_) (?_)
      · exact Run.rh (k := 0) (by kernel_rfl) (by kernel_rfl)
      · refine Run.jH (gv := vI) (by kernel_rfl) (?_) (?_)
        · exact Run.rh (k := 0) (by kernel_rfl) (by kernel_rfl)
        · exact Run.rh (k := 0) (by kernel_rfl) (by kernel_rfl)

theorem ok_spec_WideMul (a0 : I64) (a1 : I64) : Fun Tryz.prog 264 [] #[vI a0, vI a1] (vWd (F_spec_WideMul a0 a1)) [] := by
  refine Fun.ofH 400 E_ok mixed Tryz.func264 (by kernel_rfl) (by kernel_rfl) ?_
  unfold F_spec_WideMul
  refine Run.bH (e := vWd) (gv := vWd) (by kernel_rfl) (by kernel_rfl) (ok_spec_l02Mul _ _) (fun _ => rfl) fun r1 => ?_
  exact Run.rh (k := 0) (by kernel_rfl) (by kernel_rfl)

theorem ok_spec_CircleAt (a0 : I64) : Fun Tryz.prog 228 [] #[vI a0] (vIv (F_spec_CircleAt a0)) [] := by
  refine Fun.ofH 400 E_ok mixed Tryz.func228 (by kernel_rfl) (by kernel_rfl) ?_
  unfold F_spec_CircleAt
  refine Run.bH (e := vB) (gv := vIv) (by kernel_rfl) (by kernel_rfl) (ok_spec_l00In _ _ _) (fun _ => rfl) fun r1 => ?_
  refine Run.jH (gv := vIv) (by kernel_rfl) (?_) (?_)
  · refine Run.bH (e := vIv) (gv := vIv) (by kernel_rfl) (by kernel_rfl) (ok_spec_Whole) (fun _ => rfl) fun r2 => ?_
    exact Run.rh (k := 0) (by kernel_rfl) (by kernel_rfl)
  · refine Run.bH (e := vT_I_B) (gv := vIv) (by kernel_rfl) (by kernel_rfl) (ok_spec_SqrtFloor _ _) (fun _ => rfl) fun r3 => ?_
    refine Run.bH (e := vWd) (gv := vIv) (by kernel_rfl) (by kernel_rfl) (ok_spec_WideMul _ _) (fun _ => rfl) fun r4 => ?_
    refine Run.bH (e := vWd) (gv := vIv) (by kernel_rfl) (by kernel_rfl) (ok_spec_WideMul _ _) (fun _ => rfl) fun r5 => ?_
    refine Run.jH (gv := vIv) (by kernel_rfl) (?_) (?_)
    · exact Run.rh (k := 0) (by kernel_rfl) (by kernel_rfl)
    · exact Run.rh (k := 0) (by kernel_rfl) (by kernel_rfl)

theorem ok_spec_AsinAt (a0 : I64) : Fun Tryz.prog 182 [] #[vI a0] (vIv (F_spec_AsinAt a0)) [] := by
  refine Fun.ofH 400 E_ok mixed Tryz.func182 (by kernel_rfl) (by kernel_rfl) ?_
  unfold F_spec_AsinAt
  refine Run.bH (e := vB) (gv := vIv) (by kernel_rfl) (by kernel_rfl) (ok_spec_l00In _ _ _) (fun _ => rfl) fun r1 => ?_
  refine Run.jH (gv := vIv) (by kernel_rfl) (?_) (?_)
  · refine Run.bH (e := vIv) (gv := vIv) (by kernel_rfl) (by kernel_rfl) (ok_spec_Whole) (fun _ => rfl) fun r2 => ?_
    exact Run.rh (k := 0) (by kernel_rfl) (by kernel_rfl)
  · refine Run.bH (e := vIv) (gv := vIv) (by kernel_rfl) (by kernel_rfl) (ok_spec_l05At _) (fun _ => rfl) fun r3 => ?_
    refine Run.bH (e := vIv) (gv := vIv) (by kernel_rfl) (by kernel_rfl) (ok_spec_Integer _) (fun _ => rfl) fun r4 => ?_
    refine Run.bH (e := vIv) (gv := vIv) (by kernel_rfl) (by kernel_rfl) (ok_spec_CircleAt _) (fun _ => rfl) fun r5 => ?_
    refine Run.bH (e := vIv) (gv := vIv) (by kernel_rfl) (by kernel_rfl) (ok_spec_AddI _ _) (fun _ => rfl) fun r6 => ?_
    refine Run.bH (e := vIv) (gv := vIv) (by kernel_rfl) (by kernel_rfl) (ok_spec_DivI _ _) (fun _ => rfl) fun r7 => ?_
    refine Run.bH (e := vIv) (gv := vIv) (by kernel_rfl) (by kernel_rfl) (ok_spec_AtanI _) (fun _ => rfl) fun r8 => ?_
    refine Run.bH (e := vIv) (gv := vIv) (by kernel_rfl) (by kernel_rfl) (ok_spec_DoubleI _) (fun _ => rfl) fun r9 => ?_
    refine Run.bH (e := vIv) (gv := vIv) (by kernel_rfl) (by kernel_rfl) (ok_spec_l07Quarter) (fun _ => rfl) fun r10 => ?_
    refine Run.bH (e := vT_Iv_B) (gv := vIv) (by kernel_rfl) (by kernel_rfl) (ok_spec_MeetI _ _) (fun _ => rfl) fun r11 => ?_
    exact Run.rh (k := 0) (by kernel_rfl) (by kernel_rfl)

theorem ok_spec_AsinI (a0 : Iv) : Fun Tryz.prog 117 [] #[vIv a0] (vIv (F_spec_AsinI a0)) [] := by
  refine Fun.ofH 400 E_ok mixed Tryz.func117 (by kernel_rfl) (by kernel_rfl) ?_
  unfold F_spec_AsinI
  refine Run.bH (e := vIv) (gv := vIv) (by kernel_rfl) (by kernel_rfl) (ok_spec_l06Ring) (fun _ => rfl) fun r1 => ?_
  refine Run.bH (e := vT_Iv_B) (gv := vIv) (by kernel_rfl) (by kernel_rfl) (ok_spec_MeetI _ _) (fun _ => rfl) fun r2 => ?_
  refine Run.jH (gv := vIv) (by kernel_rfl) (?_) (?_)
  · refine Run.bH (e := vIv) (gv := vIv) (by kernel_rfl) (by kernel_rfl) (ok_spec_Whole) (fun _ => rfl) fun r3 => ?_
    exact Run.rh (k := 0) (by kernel_rfl) (by kernel_rfl)
  · refine Run.bH (e := vIv) (gv := vIv) (by kernel_rfl) (by kernel_rfl) (ok_spec_AsinAt _) (fun _ => rfl) fun r4 => ?_
    refine Run.bH (e := vIv) (gv := vIv) (by kernel_rfl) (by kernel_rfl) (ok_spec_AsinAt _) (fun _ => rfl) fun r5 => ?_
    refine Run.bH (e := vIv) (gv := vIv) (by kernel_rfl) (by kernel_rfl) (ok_spec_HullI _ _) (fun _ => rfl) fun r6 => ?_
    exact Run.rh (k := 0) (by kernel_rfl) (by kernel_rfl)

theorem ok_spec_HalfI (a0 : Iv) : Fun Tryz.prog 118 [] #[vIv a0] (vIv (F_spec_HalfI a0)) [] := by
  refine Fun.ofH 400 E_ok mixed Tryz.func118 (by kernel_rfl) (by kernel_rfl) ?_
  unfold F_spec_HalfI
  refine Run.bH (e := vB) (gv := vIv) (by kernel_rfl) (by kernel_rfl) (ok_spec_l04Ok _) (fun _ => rfl) fun r1 => ?_
  refine Run.jH (gv := vIv) (by kernel_rfl) (?_) (?_)
  · refine Run.bH (e := vIv) (gv := vIv) (by kernel_rfl) (by kernel_rfl) (ok_spec_l04Whole) (fun _ => rfl) fun r2 => ?_
    exact Run.rh (k := 0) (by kernel_rfl) (by kernel_rfl)
  · refine Run.p [true, true] (by kernel_rfl) ?_
    refine Run.bH (e := vIv) (gv := vIv) (by kernel_rfl) (by kernel_rfl) (ok_spec_l04Make _ _) (fun _ => rfl) fun r3 => ?_
    exact Run.rh (k := 0) (by kernel_rfl) (by kernel_rfl)

theorem ok_spec_l20Back (a0 : I64) (a1 : Iv) : Fun Tryz.prog 47 [] #[vI a0, vIv a1] (vIv (F_spec_l20Back a0 a1)) [] := by
  refine Fun.ofH 400 E_ok mixed Tryz.func47 (by kernel_rfl) (by kernel_rfl) ?_
  unfold F_spec_l20Back
  refine Run.jH (gv := vIv) (by kernel_rfl) (?_) (?_)
  · exact Run.rh (k := 0) (by kernel_rfl) (by kernel_rfl)
  · refine Run.jH (gv := vIv) (by kernel_rfl) (?_) (?_)
    · refine Run.bH (e := vIv) (gv := vIv) (by kernel_rfl) (by kernel_rfl) (ok_spec_l20Root _) (fun _ => rfl) fun r1 => ?_
      refine Run.bH (e := vIv) (gv := vIv) (by kernel_rfl) (by kernel_rfl) (ok_spec_DivI _ _) (fun _ => rfl) fun r2 => ?_
      refine Run.bH (e := vIv) (gv := vIv) (by kernel_rfl) (by kernel_rfl) (ok_spec_AsinI _) (fun _ => rfl) fun r3 => ?_
      exact Run.rh (k := 0) (by kernel_rfl) (by kernel_rfl)
    · refine Run.bH (e := vIv) (gv := vIv) (by kernel_rfl) (by kernel_rfl) (ok_spec_l20Root _) (fun _ => rfl) fun r4 => ?_
      refine Run.bH (e := vIv) (gv := vIv) (by kernel_rfl) (by kernel_rfl) (ok_spec_MulI _ _) (fun _ => rfl) fun r5 => ?_
      refine Run.bH (e := vIv) (gv := vIv) (by kernel_rfl) (by kernel_rfl) (ok_spec_HalfI _) (fun _ => rfl) fun r6 => ?_
      exact Run.rh (k := 0) (by kernel_rfl) (by kernel_rfl)

theorem ok_spec_l20Parallel (a0 : I64) (a1 : Iv) : Fun Tryz.prog 46 [] #[vI a0, vIv a1] (vT_Iv_Iv (F_spec_l20Parallel a0 a1)) [] := by
  refine Fun.ofH 400 E_ok mixed Tryz.func46 (by kernel_rfl) (by kernel_rfl) ?_
  unfold F_spec_l20Parallel
  refine Run.jH (gv := vT_Iv_Iv) (by kernel_rfl) (?_) (?_)
  · refine Run.bH (e := vIv) (gv := vT_Iv_Iv) (by kernel_rfl) (by kernel_rfl) (ok_spec_CosI _) (fun _ => rfl) fun r1 => ?_
    exact Run.rh (k := 0) (by kernel_rfl) (by kernel_rfl)
  · refine Run.jH (gv := vT_Iv_Iv) (by kernel_rfl) (?_) (?_)
    · refine Run.bH (e := vIv) (gv := vT_Iv_Iv) (by kernel_rfl) (by kernel_rfl) (ok_spec_Integer _) (fun _ => rfl) fun r2 => ?_
      refine Run.bH (e := vIv) (gv := vT_Iv_Iv) (by kernel_rfl) (by kernel_rfl) (ok_spec_l20Root _) (fun _ => rfl) fun r3 => ?_
      refine Run.bH (e := vIv) (gv := vT_Iv_Iv) (by kernel_rfl) (by kernel_rfl) (ok_spec_MulI _ _) (fun _ => rfl) fun r4 => ?_
      refine Run.bH (e := vIv) (gv := vT_Iv_Iv) (by kernel_rfl) (by kernel_rfl) (ok_spec_CosI _) (fun _ => rfl) fun r5 => ?_
      refine Run.bH (e := vIv) (gv := vT_Iv_Iv) (by kernel_rfl) (by kernel_rfl) (ok_spec_MulI _ _) (fun _ => rfl) fun r6 => ?_
      refine Run.bH (e := vIv) (gv := vT_Iv_Iv) (by kernel_rfl) (by kernel_rfl) (ok_spec_PiI) (fun _ => rfl) fun r7 => ?_
      refine Run.bH (e := vIv) (gv := vT_Iv_Iv) (by kernel_rfl) (by kernel_rfl) (ok_spec_DivI _ _) (fun _ => rfl) fun r8 => ?_
      refine Run.bH (e := vIv) (gv := vT_Iv_Iv) (by kernel_rfl) (by kernel_rfl) (ok_spec_l20Root _) (fun _ => rfl) fun r9 => ?_
      refine Run.bH (e := vIv) (gv := vT_Iv_Iv) (by kernel_rfl) (by kernel_rfl) (ok_spec_SinI _) (fun _ => rfl) fun r10 => ?_
      refine Run.bH (e := vIv) (gv := vT_Iv_Iv) (by kernel_rfl) (by kernel_rfl) (ok_spec_MulI _ _) (fun _ => rfl) fun r11 => ?_
      exact Run.rh (k := 0) (by kernel_rfl) (by kernel_rfl)
    · refine Run.bH (e := vIv) (gv := vT_Iv_Iv) (by kernel_rfl) (by kernel_rfl) (ok_spec_Integer _) (fun _ => rfl) fun r12 => ?_
      refine Run.bH (e := vIv) (gv := vT_Iv_Iv) (by kernel_rfl) (by kernel_rfl) (ok_spec_CosI _) (fun _ => rfl) fun r13 => ?_
      refine Run.bH (e := vIv) (gv := vT_Iv_Iv) (by kernel_rfl) (by kernel_rfl) (ok_spec_AddI _ _) (fun _ => rfl) fun r14 => ?_
      refine Run.bH (e := vIv) (gv := vT_Iv_Iv) (by kernel_rfl) (by kernel_rfl) (ok_spec_l20Root _) (fun _ => rfl) fun r15 => ?_
      refine Run.bH (e := vIv) (gv := vT_Iv_Iv) (by kernel_rfl) (by kernel_rfl) (ok_spec_DivI _ _) (fun _ => rfl) fun r16 => ?_
      refine Run.bH (e := vIv) (gv := vT_Iv_Iv) (by kernel_rfl) (by kernel_rfl) (ok_spec_Integer _) (fun _ => rfl) fun r17 => ?_
      refine Run.bH (e := vIv) (gv := vT_Iv_Iv) (by kernel_rfl) (by kernel_rfl) (ok_spec_MulI _ _) (fun _ => rfl) fun r18 => ?_
      refine Run.bH (e := vIv) (gv := vT_Iv_Iv) (by kernel_rfl) (by kernel_rfl) (ok_spec_l20Root _) (fun _ => rfl) fun r19 => ?_
      refine Run.bH (e := vIv) (gv := vT_Iv_Iv) (by kernel_rfl) (by kernel_rfl) (ok_spec_DivI _ _) (fun _ => rfl) fun r20 => ?_
      exact Run.rh (k := 0) (by kernel_rfl) (by kernel_rfl)

theorem ok_spec_OnMap (a0 : Pj) (a1 : Pn) : Fun Tryz.prog 14 [] #[vPj a0, vPn a1] (vT_I_I (F_spec_OnMap a0 a1)) [] := by
  refine Fun.ofH 400 E_ok mixed Tryz.func14 (by kernel_rfl) (by kernel_rfl) ?_
  unfold F_spec_OnMap
  refine Run.sb (e := vB) (gv := vT_I_I) [0] (by kernel_rfl) (by kernel_rfl) (by kernel_rfl) (by decide) (by kernel_rfl) (ok_spec_l20Ok__pPj _) (fun _ => rfl) fun r1 => ?_
  refine Run.jH (gv := vT_I_I) (by kernel_rfl) (?_) (?_)
  · exact Run.rh (k := 0) (by kernel_rfl) (by kernel_rfl)
  · refine Run.bH (e := vIv) (gv := vT_I_I) (by kernel_rfl) (by kernel_rfl) (ok_spec_l20High _) (fun _ => rfl) fun r2 => ?_
    refine Run.bH (e := vIv) (gv := vT_I_I) (by kernel_rfl) (by kernel_rfl) (ok_spec_AbsI _) (fun _ => rfl) fun r3 => ?_
    refine Run.bH (e := vI) (gv := vT_I_I) (by kernel_rfl) (by kernel_rfl) (ok_spec_LessI _ _) (fun _ => rfl) fun r4 => ?_
    refine Run.jH (gv := vT_I_I) (by kernel_rfl) (?_) (?_)
    · exact Run.rh (k := 0) (by kernel_rfl) (by kernel_rfl)
    · refine Run.bH (e := vIv) (gv := vT_I_I) (by kernel_rfl) (by kernel_rfl) (ok_spec_l20Back _ _) (fun _ => rfl) fun r5 => ?_
      refine Run.bH (e := vT_Iv_Iv) (gv := vT_I_I) (by kernel_rfl) (by kernel_rfl) (ok_spec_l20Parallel _ _) (fun _ => rfl) fun r6 => ?_
      refine Run.bH (e := vIv) (gv := vT_I_I) (by kernel_rfl) (by kernel_rfl) (ok_spec_PiI) (fun _ => rfl) fun r7 => ?_
      refine Run.bH (e := vIv) (gv := vT_I_I) (by kernel_rfl) (by kernel_rfl) (ok_spec_MulI _ _) (fun _ => rfl) fun r8 => ?_
      refine Run.bH (e := vIv) (gv := vT_I_I) (by kernel_rfl) (by kernel_rfl) (ok_spec_AbsI _) (fun _ => rfl) fun r9 => ?_
      refine Run.bH (e := vI) (gv := vT_I_I) (by kernel_rfl) (by kernel_rfl) (ok_spec_LessI _ _) (fun _ => rfl) fun r10 => ?_
      refine Run.jH (gv := vT_I_I) (by kernel_rfl) (?_) (?_)
      · exact Run.rh (k := 0) (by kernel_rfl) (by kernel_rfl)
      · refine Run.jH (gv := vT_I_I) (by kernel_rfl) (?_) (?_)
        · refine Run.p [true, true] (by kernel_rfl) ?_
          refine Run.jH (gv := vT_I_I) (by kernel_rfl) (?_) (?_)
          · exact Run.rh (k := 0) (by kernel_rfl) (by kernel_rfl)
          · exact Run.rh (k := 0) (by kernel_rfl) (by kernel_rfl)
        · refine Run.p [false, false, false] (by kernel_rfl) ?_
          exact Run.rh (k := 0) (by kernel_rfl) (by kernel_rfl)

theorem ok_impl_isPseudo (a0 : I64) : Fun Tryz.prog 121 [] #[vI a0] (vB (F_impl_isPseudo a0)) [] := by
  refine Fun.ofH 400 E_ok mixed Tryz.func121 (by kernel_rfl) (by kernel_rfl) ?_
  unfold F_impl_isPseudo
  refine Run.bH (e := vB) (gv := vB) (by kernel_rfl) (by kernel_rfl) (ok_impl_within _ _ _) (fun _ => rfl) fun r1 => ?_
  exact Run.rh (k := 0) (by kernel_rfl) (by kernel_rfl)

theorem ok_impl_isPseudoOne (a0 : Pj) : Fun Tryz.prog 50 [] #[vPj a0] (vB (F_impl_isPseudoOne a0)) [] := by
  refine Fun.ofH 400 E_ok mixed Tryz.func50 (by kernel_rfl) (by kernel_rfl) ?_
  unfold F_impl_isPseudoOne
  refine Run.bH (e := vB) (gv := vB) (by kernel_rfl) (by kernel_rfl) (ok_impl_ValidProjection _) (fun _ => rfl) fun r1 => ?_
  refine Run.jH (gv := vB) (by kernel_rfl) (?_) (?_)
  · refine Run.p [true, true] (by kernel_rfl) ?_
    refine Run.bH (e := vB) (gv := vB) (by kernel_rfl) (by kernel_rfl) (ok_impl_isPseudo _) (fun _ => rfl) fun r2 => ?_
    refine Run.p [true] (by kernel_rfl) ?_
    exact Run.rh (k := 0) (by kernel_rfl) (by kernel_rfl)
  · refine Run.p [false, false, false] (by kernel_rfl) ?_
    exact Run.rh (k := 0) (by kernel_rfl) (by kernel_rfl)

theorem ok_impl_normalI (a0 : Iv) : Fun Tryz.prog 125 [] #[vIv a0] (vIv (F_impl_normalI a0)) [] := by
  refine Fun.ofH 400 E_ok mixed Tryz.func125 (by kernel_rfl) (by kernel_rfl) ?_
  unfold F_impl_normalI
  refine Run.bH (e := vIv) (gv := vIv) (by kernel_rfl) (by kernel_rfl) (ok_impl_bounded _ _ _) (fun _ => rfl) fun r1 => ?_
  exact Run.rh (k := 0) (by kernel_rfl) (by kernel_rfl)

theorem ok_impl_PiI : Fun Tryz.prog 56 [] #[] (vIv (F_impl_PiI)) [] := by
  refine Fun.ofH 400 E_ok mixed Tryz.func56 (by kernel_rfl) (by kernel_rfl) ?_
  unfold F_impl_PiI
  refine Run.bH (e := vIv) (gv := vIv) (by kernel_rfl) (by kernel_rfl) (ok_impl_TurnI _) (fun _ => rfl) fun r1 => ?_
  exact Run.rh (k := 0) (by kernel_rfl) (by kernel_rfl)

theorem ok_impl_pseudoRadius (a0 : I64) : Fun Tryz.prog 122 [] #[vI a0] (vIv (F_impl_pseudoRadius a0)) [] := by
  refine Fun.ofH 400 E_ok mixed Tryz.func122 (by kernel_rfl) (by kernel_rfl) ?_
  unfold F_impl_pseudoRadius
  refine Run.jH (gv := vIv) (by kernel_rfl) (?_) (?_)
  · refine Run.bH (e := vIv) (gv := vIv) (by kernel_rfl) (by kernel_rfl) (ok_impl_Integer _) (fun _ => rfl) fun r1 => ?_
    refine Run.bH (e := vIv) (gv := vIv) (by kernel_rfl) (by kernel_rfl) (ok_impl_SqrtI _) (fun _ => rfl) fun r2 => ?_
    exact Run.rh (k := 0) (by kernel_rfl) (by kernel_rfl)
  · refine Run.bH (e := vIv) (gv := vIv) (by kernel_rfl) (by kernel_rfl) (ok_impl_Integer _) (fun _ => rfl) fun r3 => ?_
    refine Run.bH (e := vIv) (gv := vIv) (by kernel_rfl) (by kernel_rfl) (ok_impl_PiI) (fun _ => rfl) fun r4 => ?_
    refine Run.bH (e := vIv) (gv := vIv) (by kernel_rfl) (by kernel_rfl) (ok_impl_AddI _ _) (fun _ => rfl) fun r5 => ?_
    refine Run.bH (e := vIv) (gv := vIv) (by kernel_rfl) (by kernel_rfl) (ok_impl_SqrtI _) (fun _ => rfl) fun r6 => ?_
    exact Run.rh (k := 0) (by kernel_rfl) (by kernel_rfl)

theorem ok_impl_CircleAt (a0 : I64) : Fun Tryz.prog 231 [] #[vI a0] (vIv (F_impl_CircleAt a0)) [] := by
  refine Fun.ofH 400 E_ok mixed Tryz.func231 (by kernel_rfl) (by kernel_rfl) ?_
  unfold F_impl_CircleAt
  refine Run.bH (e := vB) (gv := vIv) (by kernel_rfl) (by kernel_rfl) (ok_impl_within _ _ _) (fun _ => rfl) fun r1 => ?_
  refine Run.jH (gv := vIv) (by kernel_rfl) (?_) (?_)
  · refine Run.bH (e := vIv) (gv := vIv) (by kernel_rfl) (by kernel_rfl) (ok_impl_Whole) (fun _ => rfl) fun r2 => ?_
    exact Run.rh (k := 0) (by kernel_rfl) (by kernel_rfl)
  · refine Run.bH (e := vT_I_B) (gv := vIv) (by kernel_rfl) (by kernel_rfl) (ok_impl_SqrtFloor _ _) (fun _ => rfl) fun r3 => ?_
    refine Run.bH (e := vWd) (gv := vIv) (by kernel_rfl) (by kernel_rfl) (ok_impl_WideMul _ _) (fun _ => rfl) fun r4 => ?_
    refine Run.bH (e := vWd) (gv := vIv) (by kernel_rfl) (by kernel_rfl) (ok_impl_WideMul _ _) (fun _ => rfl) fun r5 => ?_
    refine Run.jH (gv := vIv) (by kernel_rfl) (?_) (?_)
    · refine Run.bH (e := vIv) (gv := vIv) (by kernel_rfl) (by kernel_rfl) (ok_impl_at _) (fun _ => rfl) fun r6 => ?_
      exact Run.rh (k := 0) (by kernel_rfl) (by kernel_rfl)
    · exact Run.rh (k := 0) (by kernel_rfl) (by kernel_rfl)

theorem ok_impl_AsinAt (a0 : I64) : Fun Tryz.prog 186 [] #[vI a0] (vIv (F_impl_AsinAt a0)) [] := by
  refine Fun.ofH 400 E_ok mixed Tryz.func186 (by kernel_rfl) (by kernel_rfl) ?_
  unfold F_impl_AsinAt
  refine Run.bH (e := vB) (gv := vIv) (by kernel_rfl) (by kernel_rfl) (ok_impl_within _ _ _) (fun _ => rfl) fun r1 => ?_
  refine Run.jH (gv := vIv) (by kernel_rfl) (?_) (?_)
  · refine Run.bH (e := vIv) (gv := vIv) (by kernel_rfl) (by kernel_rfl) (ok_impl_Whole) (fun _ => rfl) fun r2 => ?_
    exact Run.rh (k := 0) (by kernel_rfl) (by kernel_rfl)
  · refine Run.bH (e := vIv) (gv := vIv) (by kernel_rfl) (by kernel_rfl) (ok_impl_at _) (fun _ => rfl) fun r3 => ?_
    refine Run.bH (e := vIv) (gv := vIv) (by kernel_rfl) (by kernel_rfl) (ok_impl_Integer _) (fun _ => rfl) fun r4 => ?_
    refine Run.bH (e := vIv) (gv := vIv) (by kernel_rfl) (by kernel_rfl) (ok_impl_CircleAt _) (fun _ => rfl) fun r5 => ?_
    refine Run.bH (e := vIv) (gv := vIv) (by kernel_rfl) (by kernel_rfl) (ok_impl_AddI _ _) (fun _ => rfl) fun r6 => ?_
    refine Run.bH (e := vIv) (gv := vIv) (by kernel_rfl) (by kernel_rfl) (ok_impl_DivI _ _) (fun _ => rfl) fun r7 => ?_
    refine Run.bH (e := vIv) (gv := vIv) (by kernel_rfl) (by kernel_rfl) (ok_impl_AtanI _) (fun _ => rfl) fun r8 => ?_
    refine Run.bH (e := vIv) (gv := vIv) (by kernel_rfl) (by kernel_rfl) (ok_impl_DoubleI _) (fun _ => rfl) fun r9 => ?_
    refine Run.bH (e := vIv) (gv := vIv) (by kernel_rfl) (by kernel_rfl) (ok_impl_halfCircle) (fun _ => rfl) fun r10 => ?_
    refine Run.bH (e := vT_Iv_B) (gv := vIv) (by kernel_rfl) (by kernel_rfl) (ok_impl_MeetI _ _) (fun _ => rfl) fun r11 => ?_
    exact Run.rh (k := 0) (by kernel_rfl) (by kernel_rfl)

theorem ok_impl_AsinI (a0 : Iv) : Fun Tryz.prog 126 [] #[vIv a0] (vIv (F_impl_AsinI a0)) [] := by
  refine Fun.ofH 400 E_ok mixed Tryz.func126 (by kernel_rfl) (by kernel_rfl) ?_
  unfold F_impl_AsinI
  refine Run.bH (e := vIv) (gv := vIv) (by kernel_rfl) (by kernel_rfl) (ok_impl_ring) (fun _ => rfl) fun r1 => ?_
  refine Run.bH (e := vT_Iv_B) (gv := vIv) (by kernel_rfl) (by kernel_rfl) (ok_impl_MeetI _ _) (fun _ => rfl) fun r2 => ?_
  refine Run.jH (gv := vIv) (by kernel_rfl) (?_) (?_)
  · refine Run.bH (e := vIv) (gv := vIv) (by kernel_rfl) (by kernel_rfl) (ok_impl_Whole) (fun _ => rfl) fun r3 => ?_
    exact Run.rh (k := 0) (by kernel_rfl) (by kernel_rfl)
  · refine Run.bH (e := vIv) (gv := vIv) (by kernel_rfl) (by kernel_rfl) (ok_impl_AsinAt _) (fun _ => rfl) fun r4 => ?_
    refine Run.bH (e := vIv) (gv := vIv) (by kernel_rfl) (by kernel_rfl) (ok_impl_AsinAt _) (fun _ => rfl) fun r5 => ?_
    refine Run.bH (e := vIv) (gv := vIv) (by kernel_rfl) (by kernel_rfl) (ok_impl_HullI _ _) (fun _ => rfl) fun r6 => ?_
    exact Run.rh (k := 0) (by kernel_rfl) (by kernel_rfl)

theorem ok_impl_HalfI (a0 : Iv) : Fun Tryz.prog 127 [] #[vIv a0] (vIv (F_impl_HalfI a0)) [] := by
  refine Fun.ofH 400 E_ok mixed Tryz.func127 (by kernel_rfl) (by kernel_rfl) ?_
  unfold F_impl_HalfI
  refine Run.bH (e := vB) (gv := vIv) (by kernel_rfl) (by kernel_rfl) (ok_impl_IsWhole _) (fun _ => rfl) fun r1 => ?_
  refine Run.jH (gv := vIv) (by kernel_rfl) (?_) (?_)
  · refine Run.bH (e := vIv) (gv := vIv) (by kernel_rfl) (by kernel_rfl) (ok_impl_Whole) (fun _ => rfl) fun r2 => ?_
    exact Run.rh (k := 0) (by kernel_rfl) (by kernel_rfl)
  · refine Run.p [true, true] (by kernel_rfl) ?_
    exact Run.rh (k := 0) (by kernel_rfl) (by kernel_rfl)

theorem ok_impl_inverseParameter (a0 : I64) (a1 : Iv) : Fun Tryz.prog 52 [] #[vI a0, vIv a1] (vIv (F_impl_inverseParameter a0 a1)) [] := by
  refine Fun.ofH 400 E_ok mixed Tryz.func52 (by kernel_rfl) (by kernel_rfl) ?_
  unfold F_impl_inverseParameter
  refine Run.jH (gv := vIv) (by kernel_rfl) (?_) (?_)
  · refine Run.bH (e := vIv) (gv := vIv) (by kernel_rfl) (by kernel_rfl) (ok_impl_normalI _) (fun _ => rfl) fun r1 => ?_
    exact Run.rh (k := 0) (by kernel_rfl) (by kernel_rfl)
  · refine Run.jH (gv := vIv) (by kernel_rfl) (?_) (?_)
    · refine Run.bH (e := vIv) (gv := vIv) (by kernel_rfl) (by kernel_rfl) (ok_impl_pseudoRadius _) (fun _ => rfl) fun r2 => ?_
      refine Run.bH (e := vIv) (gv := vIv) (by kernel_rfl) (by kernel_rfl) (ok_impl_DivI _ _) (fun _ => rfl) fun r3 => ?_
      refine Run.bH (e := vIv) (gv := vIv) (by kernel_rfl) (by kernel_rfl) (ok_impl_AsinI _) (fun _ => rfl) fun r4 => ?_
      exact Run.rh (k := 0) (by kernel_rfl) (by kernel_rfl)
    · refine Run.bH (e := vIv) (gv := vIv) (by kernel_rfl) (by kernel_rfl) (ok_impl_pseudoRadius _) (fun _ => rfl) fun r5 => ?_
      refine Run.bH (e := vIv) (gv := vIv) (by kernel_rfl) (by kernel_rfl) (ok_impl_MulI _ _) (fun _ => rfl) fun r6 => ?_
      refine Run.bH (e := vIv) (gv := vIv) (by kernel_rfl) (by kernel_rfl) (ok_impl_HalfI _) (fun _ => rfl) fun r7 => ?_
      exact Run.rh (k := 0) (by kernel_rfl) (by kernel_rfl)

theorem ok_impl_times (a0 : I64) (a1 : Iv) : Fun Tryz.prog 123 [] #[vI a0, vIv a1] (vIv (F_impl_times a0 a1)) [] := by
  refine Fun.ofH 400 E_ok mixed Tryz.func123 (by kernel_rfl) (by kernel_rfl) ?_
  unfold F_impl_times
  refine Run.bH (e := vIv) (gv := vIv) (by kernel_rfl) (by kernel_rfl) (ok_impl_Integer _) (fun _ => rfl) fun r1 => ?_
  refine Run.bH (e := vIv) (gv := vIv) (by kernel_rfl) (by kernel_rfl) (ok_impl_MulI _ _) (fun _ => rfl) fun r2 => ?_
  exact Run.rh (k := 0) (by kernel_rfl) (by kernel_rfl)

theorem ok_impl_parallelLength (a0 : I64) (a1 : Iv) : Fun Tryz.prog 51 [] #[vI a0, vIv a1] (vIv (F_impl_parallelLength a0 a1)) [] := by
  refine Fun.ofH 400 E_ok mixed Tryz.func51 (by kernel_rfl) (by kernel_rfl) ?_
  unfold F_impl_parallelLength
  refine Run.bH (e := vIv) (gv := vIv) (by kernel_rfl) (by kernel_rfl) (ok_impl_pseudoRadius _) (fun _ => rfl) fun r1 => ?_
  refine Run.jH (gv := vIv) (by kernel_rfl) (?_) (?_)
  · refine Run.bH (e := vIv) (gv := vIv) (by kernel_rfl) (by kernel_rfl) (ok_impl_CosI _) (fun _ => rfl) fun r2 => ?_
    exact Run.rh (k := 0) (by kernel_rfl) (by kernel_rfl)
  · refine Run.jH (gv := vIv) (by kernel_rfl) (?_) (?_)
    · refine Run.bH (e := vIv) (gv := vIv) (by kernel_rfl) (by kernel_rfl) (ok_impl_times _ _) (fun _ => rfl) fun r3 => ?_
      refine Run.bH (e := vIv) (gv := vIv) (by kernel_rfl) (by kernel_rfl) (ok_impl_CosI _) (fun _ => rfl) fun r4 => ?_
      refine Run.bH (e := vIv) (gv := vIv) (by kernel_rfl) (by kernel_rfl) (ok_impl_MulI _ _) (fun _ => rfl) fun r5 => ?_
      refine Run.bH (e := vIv) (gv := vIv) (by kernel_rfl) (by kernel_rfl) (ok_impl_PiI) (fun _ => rfl) fun r6 => ?_
      refine Run.bH (e := vIv) (gv := vIv) (by kernel_rfl) (by kernel_rfl) (ok_impl_DivI _ _) (fun _ => rfl) fun r7 => ?_
      exact Run.rh (k := 0) (by kernel_rfl) (by kernel_rfl)
    · refine Run.bH (e := vIv) (gv := vIv) (by kernel_rfl) (by kernel_rfl) (ok_impl_Integer _) (fun _ => rfl) fun r8 => ?_
      refine Run.bH (e := vIv) (gv := vIv) (by kernel_rfl) (by kernel_rfl) (ok_impl_CosI _) (fun _ => rfl) fun r9 => ?_
      refine Run.bH (e := vIv) (gv := vIv) (by kernel_rfl) (by kernel_rfl) (ok_impl_AddI _ _) (fun _ => rfl) fun r10 => ?_
      refine Run.bH (e := vIv) (gv := vIv) (by kernel_rfl) (by kernel_rfl) (ok_impl_DivI _ _) (fun _ => rfl) fun r11 => ?_
      exact Run.rh (k := 0) (by kernel_rfl) (by kernel_rfl)

theorem ok_impl_poleHeight (a0 : I64) : Fun Tryz.prog 54 [] #[vI a0] (vIv (F_impl_poleHeight a0)) [] := by
  refine Fun.ofH 400 E_ok mixed Tryz.func54 (by kernel_rfl) (by kernel_rfl) ?_
  unfold F_impl_poleHeight
  refine Run.jH (gv := vIv) (by kernel_rfl) (?_) (?_)
  · refine Run.bH (e := vIv) (gv := vIv) (by kernel_rfl) (by kernel_rfl) (ok_impl_TurnI _) (fun _ => rfl) fun r1 => ?_
    exact Run.rh (k := 0) (by kernel_rfl) (by kernel_rfl)
  · refine Run.jH (gv := vIv) (by kernel_rfl) (?_) (?_)
    · refine Run.bH (e := vIv) (gv := vIv) (by kernel_rfl) (by kernel_rfl) (ok_impl_pseudoRadius _) (fun _ => rfl) fun r2 => ?_
      exact Run.rh (k := 0) (by kernel_rfl) (by kernel_rfl)
    · refine Run.bH (e := vIv) (gv := vIv) (by kernel_rfl) (by kernel_rfl) (ok_impl_PiI) (fun _ => rfl) fun r3 => ?_
      refine Run.bH (e := vIv) (gv := vIv) (by kernel_rfl) (by kernel_rfl) (ok_impl_pseudoRadius _) (fun _ => rfl) fun r4 => ?_
      refine Run.bH (e := vIv) (gv := vIv) (by kernel_rfl) (by kernel_rfl) (ok_impl_DivI _ _) (fun _ => rfl) fun r5 => ?_
      exact Run.rh (k := 0) (by kernel_rfl) (by kernel_rfl)

theorem ok_impl_LessI (a0 : Iv) (a1 : Iv) : Fun Tryz.prog 53 [] #[vIv a0, vIv a1] (vI (F_impl_LessI a0 a1)) [] := by
  refine Fun.ofH 400 E_ok mixed Tryz.func53 (by kernel_rfl) (by kernel_rfl) ?_
  unfold F_impl_LessI
  refine Run.bH (e := vB) (gv := vI) (by kernel_rfl) (by kernel_rfl) (ok_impl_areBounded _ _) (fun _ => rfl) fun r1 => ?_
  refine Run.jH (gv := vI) (by kernel_rfl) (?_) (?_)
  · exact Run.rh (k := 0) (by kernel_rfl) (by kernel_rfl)
  · refine Run.jH (gv := vI) (by kernel_rfl) (?_) (?_)
    · exact Run.rh (k := 0) (by kernel_rfl) (by kernel_rfl)
    · refine Run.jH (gv := vI) (by kernel_rfl) (?_) (?_)
      · exact Run.rh (k := 0) (by kernel_rfl) (by kernel_rfl)
      · exact Run.rh (k := 0) (by kernel_rfl) (by kernel_rfl)

theorem ok_impl_NotAnswer (a0 : I64) : Fun Tryz.prog 57 [] #[vI a0] (vI (F_impl_NotAnswer a0)) [] := by
  refine Fun.ofH 400 E_ok mixed Tryz.func57 (by kernel_rfl) (by kernel_rfl) ?_
  unfold F_impl_NotAnswer
  refine Run.jH (gv := vI) (by kernel_rfl) (?_) (?_)
  · exact Run.rh (k := 0) (by kernel_rfl) (by kernel_rfl)
  · refine Run.jH (gv := vI) (by kernel_rfl) (?_) (?_)
    · exact Run.rh (k := 0) (by kernel_rfl) (by kernel_rfl)
    · exact Run.rh (k := 0) (by kernel_rfl) (by kernel_rfl)

theorem ok_impl_AndAnswer (a0 : I64) (a1 : I64) : Fun Tryz.prog 129 [] #[vI a0, vI a1] (vI (F_impl_AndAnswer a0 a1)) [] := by
  refine Fun.ofH 400 E_ok mixed Tryz.func129 (by kernel_rfl) (by kernel_rfl) ?_
  unfold F_impl_AndAnswer
  refine Run.jH (gv := vI) (by kernel_rfl) (?_) (?_)
  · refine Run.p [true, true, true] (by kernel_rfl) ?_
    exact Run.rh (k := 0) (by kernel_rfl) (by kernel_rfl)
  · refine Run.p [false, false] (by kernel_rfl) ?_
    refine Run.jH (gv := vI) (by kernel_rfl) (?_) (?_)
    · exact Run.rh (k := 0) (by kernel_rfl) (by kernel_rfl)
    · refine Run.jH (gv := vI) (by kernel_rfl) (?_) (?_)
      · refine Run.p [true, true] (by kernel_rfl) ?_
        refine Run.jH (gv := vI) (by kernel_rfl) (?_) (?_)
        · exact Run.rh (k := 0) (by kernel_rfl) (by kernel_rfl)
        · exact Run.rh (k := 0) (by kernel_rfl) (by kernel_rfl)
      · refine Run.p [false, false, false] (by kernel_rfl) ?_
        exact Run.rh (k := 0) (by kernel_rfl) (by kernel_rfl)

theorem ok_impl_OrAnswer (a0 : I64) (a1 : I64) : Fun Tryz.prog 58 [] #[vI a0, vI a1] (vI (F_impl_OrAnswer a0 a1)) [] := by
  refine Fun.ofH 400 E_ok mixed Tryz.func58 (by kernel_rfl) (by kernel_rfl) ?_
  unfold F_impl_OrAnswer
  refine Run.bH (e := vI) (gv := vI) (by kernel_rfl) (by kernel_rfl) (ok_impl_NotAnswer _) (fun _ => rfl) fun r1 => ?_
  refine Run.bH (e := vI) (gv := vI) (by kernel_rfl) (by kernel_rfl) (ok_impl_NotAnswer _) (fun _ => rfl) fun r2 => ?_
  refine Run.bH (e := vI) (gv := vI) (by kernel_rfl) (by kernel_rfl) (ok_impl_AndAnswer _ _) (fun _ => rfl) fun r3 => ?_
  refine Run.bH (e := vI) (gv := vI) (by kernel_rfl) (by kernel_rfl) (ok_impl_NotAnswer _) (fun _ => rfl) fun r4 => ?_
  exact Run.rh (k := 0) (by kernel_rfl) (by kernel_rfl)

theorem ok_impl_OnMap (a0 : Pj) (a1 : Pn) : Fun Tryz.prog 16 [] #[vPj a0, vPn a1] (vT_I_I (F_impl_OnMap a0 a1)) [] := by
  refine Fun.ofH 400 E_ok mixed Tryz.func16 (by kernel_rfl) (by kernel_rfl) ?_
  unfold F_impl_OnMap
  refine Run.bH (e := vB) (gv := vT_I_I) (by kernel_rfl) (by kernel_rfl) (ok_impl_isPseudoOne _) (fun _ => rfl) fun r1 => ?_
  refine Run.jH (gv := vT_I_I) (by kernel_rfl) (?_) (?_)
  · exact Run.rh (k := 0) (by kernel_rfl) (by kernel_rfl)
  · refine Run.bH (e := vIv) (gv := vT_I_I) (by kernel_rfl) (by kernel_rfl) (ok_impl_inverseParameter _ _) (fun _ => rfl) fun r2 => ?_
    refine Run.bH (e := vIv) (gv := vT_I_I) (by kernel_rfl) (by kernel_rfl) (ok_impl_parallelLength _ _) (fun _ => rfl) fun r3 => ?_
    refine Run.bH (e := vIv) (gv := vT_I_I) (by kernel_rfl) (by kernel_rfl) (ok_impl_poleHeight _) (fun _ => rfl) fun r4 => ?_
    refine Run.bH (e := vIv) (gv := vT_I_I) (by kernel_rfl) (by kernel_rfl) (ok_impl_AbsI _) (fun _ => rfl) fun r5 => ?_
    refine Run.bH (e := vI) (gv := vT_I_I) (by kernel_rfl) (by kernel_rfl) (ok_impl_LessI _ _) (fun _ => rfl) fun r6 => ?_
    refine Run.bH (e := vIv) (gv := vT_I_I) (by kernel_rfl) (by kernel_rfl) (ok_impl_PiI) (fun _ => rfl) fun r7 => ?_
    refine Run.bH (e := vIv) (gv := vT_I_I) (by kernel_rfl) (by kernel_rfl) (ok_impl_MulI _ _) (fun _ => rfl) fun r8 => ?_
    refine Run.bH (e := vIv) (gv := vT_I_I) (by kernel_rfl) (by kernel_rfl) (ok_impl_AbsI _) (fun _ => rfl) fun r9 => ?_
    refine Run.bH (e := vI) (gv := vT_I_I) (by kernel_rfl) (by kernel_rfl) (ok_impl_LessI _ _) (fun _ => rfl) fun r10 => ?_
    refine Run.bH (e := vI) (gv := vT_I_I) (by kernel_rfl) (by kernel_rfl) (ok_impl_OrAnswer _ _) (fun _ => rfl) fun r11 => ?_
    refine Run.bH (e := vI) (gv := vT_I_I) (by kernel_rfl) (by kernel_rfl) (ok_impl_NotAnswer _) (fun _ => rfl) fun r12 => ?_
    exact Run.rh (k := 0) (by kernel_rfl) (by kernel_rfl)

theorem ok_laws_FnExactOnMap (a0 : Pj) (a1 : Pn) : Fun Tryz.prog 4 [] #[vPj a0, vPn a1] (vB (F_laws_FnExactOnMap a0 a1)) [] := by
  refine Fun.ofH 400 E_ok mixed Tryz.func4 (by kernel_rfl) (by kernel_rfl) ?_
  unfold F_laws_FnExactOnMap
  refine Run.bH (e := vPj) (gv := vB) (by kernel_rfl) (by kernel_rfl) (ok_laws_toProjection _) (fun _ => rfl) fun r1 => ?_
  refine Run.bH (e := vPn) (gv := vB) (by kernel_rfl) (by kernel_rfl) (ok_laws_toPlanar _) (fun _ => rfl) fun r2 => ?_
  refine Run.bH (e := vT_I_I) (gv := vB) (by kernel_rfl) (by kernel_rfl) (ok_spec_OnMap _ _) (fun _ => rfl) fun r3 => ?_
  refine Run.bH (e := vPj) (gv := vB) (by kernel_rfl) (by kernel_rfl) (ok_laws_toProjection _) (fun _ => rfl) fun r4 => ?_
  refine Run.bH (e := vPn) (gv := vB) (by kernel_rfl) (by kernel_rfl) (ok_laws_toPlanar _) (fun _ => rfl) fun r5 => ?_
  refine Run.bH (e := vT_I_I) (gv := vB) (by kernel_rfl) (by kernel_rfl) (ok_impl_OnMap _ _) (fun _ => rfl) fun r6 => ?_
  refine Run.jH (gv := vB) (by kernel_rfl) (?_) (?_)
  · refine Run.p [true, true, true, true] (by kernel_rfl) ?_
    exact Run.rh (k := 0) (by kernel_rfl) (by kernel_rfl)
  · refine Run.p [false, false, false] (by kernel_rfl) ?_
    refine Run.jH (gv := vB) (by kernel_rfl) (?_) (?_)
    · exact Run.rh (k := 0) (by kernel_rfl) (by kernel_rfl)
    · exact Run.rh (k := 0) (by kernel_rfl) (by kernel_rfl)

theorem ok_laws_toVec (a0 : Vc) : Fun Tryz.prog 18 [] #[vVc a0] (vVc (F_laws_toVec a0)) [] := by
  refine Fun.ofH 400 E_ok mixed Tryz.func18 (by kernel_rfl) (by kernel_rfl) ?_
  unfold F_laws_toVec
  refine Run.bH (e := vIv) (gv := vVc) (by kernel_rfl) (by kernel_rfl) (ok_laws_toInterval _) (fun _ => rfl) fun r1 => ?_
  refine Run.bH (e := vIv) (gv := vVc) (by kernel_rfl) (by kernel_rfl) (ok_laws_toInterval _) (fun _ => rfl) fun r2 => ?_
  refine Run.bH (e := vIv) (gv := vVc) (by kernel_rfl) (by kernel_rfl) (ok_laws_toInterval _) (fun _ => rfl) fun r3 => ?_
  exact Run.rh (k := 0) (by kernel_rfl) (by kernel_rfl)

theorem ok_spec_l18Kind (a0 : I64) : Fun Tryz.prog 130 [] #[vI a0] (vB (F_spec_l18Kind a0)) [] := by
  refine Fun.ofH 400 E_ok mixed Tryz.func130 (by kernel_rfl) (by kernel_rfl) ?_
  unfold F_spec_l18Kind
  refine Run.bH (e := vB) (gv := vB) (by kernel_rfl) (by kernel_rfl) (ok_spec_l00In _ _ _) (fun _ => rfl) fun r1 => ?_
  exact Run.rh (k := 0) (by kernel_rfl) (by kernel_rfl)

theorem ok_spec_l18Ok__pPj (b0 : Pj) : Fun Tryz.prog 59 [(#[.int .i64 b0.kind.val, .int .i64 b0.lat0.val, .int .i64 b0.lon0.val, .int .i64 b0.lat1.val, .int .i64 b0.lat2.val], 30)] #[.pointer (some ⟨0, 0, none⟩)] (vB (F_spec_l18Ok__pPj b0)) [(#[.int .i64 b0.kind.val, .int .i64 b0.lat0.val, .int .i64 b0.lon0.val, .int .i64 b0.lat1.val, .int .i64 b0.lat2.val], 30)] := by
  refine Fun.ofH 400 E_ok mixed Tryz.func59 (by kernel_rfl) (by kernel_rfl) ?_
  unfold F_spec_l18Ok__pPj
  refine Run.bH (e := vB) (gv := vB) (by kernel_rfl) (by kernel_rfl) (ok_spec_l18Kind _) (fun _ => rfl) fun r1 => ?_
  refine Run.jH (gv := vB) (by kernel_rfl) (?_) (?_)
  · refine Run.p [true, true, true] (by kernel_rfl) ?_
    refine Run.bH (e := vB) (gv := vB) (by kernel_rfl) (by kernel_rfl) (ok_spec_ValidProjection _) (fun _ => rfl) fun r2 => ?_
    refine Run.p [true] (by kernel_rfl) ?_
    exact Run.rh (k := 1) (by kernel_rfl) (by kernel_rfl)
  · refine Run.p [false, false, false, false] (by kernel_rfl) ?_
    exact Run.rh (k := 1) (by kernel_rfl) (by kernel_rfl)

theorem ok_spec_l10Ends (a0 : Iv) : Fun Tryz.prog 232 [] #[vIv a0] (vT_I_I (F_spec_l10Ends a0)) [] := by
  refine Fun.ofH 400 E_ok mixed Tryz.func232 (by kernel_rfl) (by kernel_rfl) ?_
  unfold F_spec_l10Ends
  refine Run.bH (e := vIv) (gv := vT_I_I) (by kernel_rfl) (by kernel_rfl) (ok_spec_AbsI _) (fun _ => rfl) fun r1 => ?_
  exact Run.rh (k := 0) (by kernel_rfl) (by kernel_rfl)

theorem ok_spec_l10Sum (a0 : I64) (a1 : I64) (a2 : I64) : Fun Tryz.prog 234 [] #[vI a0, vI a1, vI a2] (vWd (F_spec_l10Sum a0 a1 a2)) [] := by
  refine Fun.ofH 400 E_ok mixed Tryz.func234 (by kernel_rfl) (by kernel_rfl) ?_
  unfold F_spec_l10Sum
  refine Run.bH (e := vWd) (gv := vWd) (by kernel_rfl) (by kernel_rfl) (ok_spec_l02Mul _ _) (fun _ => rfl) fun r1 => ?_
  refine Run.bH (e := vWd) (gv := vWd) (by kernel_rfl) (by kernel_rfl) (ok_spec_l02Mul _ _) (fun _ => rfl) fun r2 => ?_
  refine Run.bH (e := vWd) (gv := vWd) (by kernel_rfl) (by kernel_rfl) (ok_spec_l02Plus _ _) (fun _ => rfl) fun r3 => ?_
  refine Run.bH (e := vWd) (gv := vWd) (by kernel_rfl) (by kernel_rfl) (ok_spec_l02Mul _ _) (fun _ => rfl) fun r4 => ?_
  refine Run.bH (e := vWd) (gv := vWd) (by kernel_rfl) (by kernel_rfl) (ok_spec_l02Plus _ _) (fun _ => rfl) fun r5 => ?_
  exact Run.rh (k := 0) (by kernel_rfl) (by kernel_rfl)

theorem ok_spec_NormV (a0 : Vc) : Fun Tryz.prog 187 [] #[vVc a0] (vIv (F_spec_NormV a0)) [] := by
  refine Fun.ofH 400 E_ok mixed Tryz.func187 (by kernel_rfl) (by kernel_rfl) ?_
  unfold F_spec_NormV
  refine Run.bH (e := vB) (gv := vIv) (by kernel_rfl) (by kernel_rfl) (ok_spec_IsWhole _) (fun _ => rfl) fun r1 => ?_
  refine Run.jH (gv := vIv) (by kernel_rfl) (?_) (?_)
  · refine Run.p [true, true, true, true, true, true, true, true] (by kernel_rfl) ?_
    refine Run.bH (e := vIv) (gv := vIv) (by kernel_rfl) (by kernel_rfl) (ok_spec_Whole) (fun _ => rfl) fun r2 => ?_
    exact Run.rh (k := 0) (by kernel_rfl) (by kernel_rfl)
  · refine Run.p [false, false] (by kernel_rfl) ?_
    refine Run.bH (e := vB) (gv := vIv) (by kernel_rfl) (by kernel_rfl) (ok_spec_IsWhole _) (fun _ => rfl) fun r3 => ?_
    refine Run.p [false] (by kernel_rfl) ?_
    refine Run.jH (gv := vIv) (by kernel_rfl) (?_) (?_)
    · refine Run.p [true, true, true, true] (by kernel_rfl) ?_
      refine Run.bH (e := vIv) (gv := vIv) (by kernel_rfl) (by kernel_rfl) (ok_spec_Whole) (fun _ => rfl) fun r4 => ?_
      exact Run.rh (k := 0) (by kernel_rfl) (by kernel_rfl)
    · refine Run.p [false, false] (by kernel_rfl) ?_
      refine Run.bH (e := vB) (gv := vIv) (by kernel_rfl) (by kernel_rfl) (ok_spec_IsWhole _) (fun _ => rfl) fun r5 => ?_
      refine Run.p [false] (by kernel_rfl) ?_
      refine Run.jH (gv := vIv) (by kernel_rfl) (?_) (?_)
      · refine Run.bH (e := vIv) (gv := vIv) (by kernel_rfl) (by kernel_rfl) (ok_spec_Whole) (fun _ => rfl) fun r6 => ?_
        exact Run.rh (k := 0) (by kernel_rfl) (by kernel_rfl)
      · refine Run.bH (e := vT_I_I) (gv := vIv) (by kernel_rfl) (by kernel_rfl) (ok_spec_l10Ends _) (fun _ => rfl) fun r7 => ?_
        refine Run.bH (e := vT_I_I) (gv := vIv) (by kernel_rfl) (by kernel_rfl) (ok_spec_l10Ends _) (fun _ => rfl) fun r8 => ?_
        refine Run.bH (e := vT_I_I) (gv := vIv) (by kernel_rfl) (by kernel_rfl) (ok_spec_l10Ends _) (fun _ => rfl) fun r9 => ?_
        refine Run.bH (e := vWd) (gv := vIv) (by kernel_rfl) (by kernel_rfl) (ok_spec_l10Sum _ _ _) (fun _ => rfl) fun r10 => ?_
        refine Run.bH (e := vU) (gv := vIv) (by kernel_rfl) (by kernel_rfl) (ok_spec_l02Root _) (fun _ => rfl) fun r11 => ?_
        refine Run.bH (e := vWd) (gv := vIv) (by kernel_rfl) (by kernel_rfl) (ok_spec_l10Sum _ _ _) (fun _ => rfl) fun r12 => ?_
        refine Run.bH (e := vU) (gv := vIv) (by kernel_rfl) (by kernel_rfl) (ok_spec_l02Root _) (fun _ => rfl) fun r13 => ?_
        refine Run.bH (e := vWd) (gv := vIv) (by kernel_rfl) (by kernel_rfl) (ok_spec_l02Mul _ _) (fun _ => rfl) fun r14 => ?_
        refine Run.jH (gv := vIv) (by kernel_rfl) (?_) (?_)
        · refine Run.jH (gv := vIv) (by kernel_rfl) (?_) (?_)
          · refine Run.bH (e := vIv) (gv := vIv) (by kernel_rfl) (by kernel_rfl) (ok_spec_Whole) (fun _ => rfl) fun r15 => ?_
            exact Run.rh (k := 0) (by kernel_rfl) (by kernel_rfl)
          · exact Run.rh (k := 0) (by kernel_rfl) (by kernel_rfl)
        · refine Run.jH (gv := vIv) (by kernel_rfl) (?_) (?_)
          · refine Run.bH (e := vIv) (gv := vIv) (by kernel_rfl) (by kernel_rfl) (ok_spec_Whole) (fun _ => rfl) fun r16 => ?_
            exact Run.rh (k := 0) (by kernel_rfl) (by kernel_rfl)
          · exact Run.rh (k := 0) (by kernel_rfl) (by kernel_rfl)

theorem ok_spec_l15Flat (a0 : Vc) : Fun Tryz.prog 131 [] #[vVc a0] (vIv (F_spec_l15Flat a0)) [] := by
  refine Fun.ofH 400 E_ok mixed Tryz.func131 (by kernel_rfl) (by kernel_rfl) ?_
  unfold F_spec_l15Flat
  refine Run.bH (e := vIv) (gv := vIv) (by kernel_rfl) (by kernel_rfl) (ok_spec_NormV _) (fun _ => rfl) fun r1 => ?_
  exact Run.rh (k := 0) (by kernel_rfl) (by kernel_rfl)

theorem ok_spec_PositionOf (a0 : Vc) : Fun Tryz.prog 62 [] #[vVc a0] (vT_Iv_Iv_I (F_spec_PositionOf a0)) [] := by
  refine Fun.ofH 400 E_ok mixed Tryz.func62 (by kernel_rfl) (by kernel_rfl) ?_
  unfold F_spec_PositionOf
  refine Run.bH (e := vIv) (gv := vT_Iv_Iv_I) (by kernel_rfl) (by kernel_rfl) (ok_spec_l15Flat _) (fun _ => rfl) fun r1 => ?_
  refine Run.bH (e := vIv) (gv := vT_Iv_Iv_I) (by kernel_rfl) (by kernel_rfl) (ok_spec_DirectionI _ _) (fun _ => rfl) fun r2 => ?_
  refine Run.bH (e := vB) (gv := vT_Iv_Iv_I) (by kernel_rfl) (by kernel_rfl) (ok_spec_IsWhole _) (fun _ => rfl) fun r3 => ?_
  refine Run.jH (gv := vT_Iv_Iv_I) (by kernel_rfl) (?_) (?_)
  · exact Run.rh (k := 0) (by kernel_rfl) (by kernel_rfl)
  · refine Run.bH (e := vIv) (gv := vT_Iv_Iv_I) (by kernel_rfl) (by kernel_rfl) (ok_spec_DirectionI _ _) (fun _ => rfl) fun r4 => ?_
    exact Run.rh (k := 0) (by kernel_rfl) (by kernel_rfl)

theorem ok_spec_GlobalOf (a0 : Pj) (a1 : Vc) : Fun Tryz.prog 17 [] #[vPj a0, vVc a1] (vT_Iv_Iv_I (F_spec_GlobalOf a0 a1)) [] := by
  refine Fun.ofH 400 E_ok mixed Tryz.func17 (by kernel_rfl) (by kernel_rfl) ?_
  unfold F_spec_GlobalOf
  refine Run.sb (e := vB) (gv := vT_Iv_Iv_I) [0] (by kernel_rfl) (by kernel_rfl) (by kernel_rfl) (by decide) (by kernel_rfl) (ok_spec_l18Ok__pPj _) (fun _ => rfl) fun r1 => ?_
  refine Run.jH (gv := vT_Iv_Iv_I) (by kernel_rfl) (?_) (?_)
  · exact Run.rh (k := 0) (by kernel_rfl) (by kernel_rfl)
  · refine Run.bH (e := vIv) (gv := vT_Iv_Iv_I) (by kernel_rfl) (by kernel_rfl) (ok_spec_RadiansOf _) (fun _ => rfl) fun r2 => ?_
    refine Run.bH (e := vIv) (gv := vT_Iv_Iv_I) (by kernel_rfl) (by kernel_rfl) (ok_spec_CosI _) (fun _ => rfl) fun r3 => ?_
    refine Run.bH (e := vIv) (gv := vT_Iv_Iv_I) (by kernel_rfl) (by kernel_rfl) (ok_spec_MulI _ _) (fun _ => rfl) fun r4 => ?_
    refine Run.bH (e := vIv) (gv := vT_Iv_Iv_I) (by kernel_rfl) (by kernel_rfl) (ok_spec_SinI _) (fun _ => rfl) fun r5 => ?_
    refine Run.bH (e := vIv) (gv := vT_Iv_Iv_I) (by kernel_rfl) (by kernel_rfl) (ok_spec_MulI _ _) (fun _ => rfl) fun r6 => ?_
    refine Run.bH (e := vIv) (gv := vT_Iv_Iv_I) (by kernel_rfl) (by kernel_rfl) (ok_spec_SubI _ _) (fun _ => rfl) fun r7 => ?_
    refine Run.bH (e := vIv) (gv := vT_Iv_Iv_I) (by kernel_rfl) (by kernel_rfl) (ok_spec_SinI _) (fun _ => rfl) fun r8 => ?_
    refine Run.bH (e := vIv) (gv := vT_Iv_Iv_I) (by kernel_rfl) (by kernel_rfl) (ok_spec_MulI _ _) (fun _ => rfl) fun r9 => ?_
    refine Run.bH (e := vIv) (gv := vT_Iv_Iv_I) (by kernel_rfl) (by kernel_rfl) (ok_spec_CosI _) (fun _ => rfl) fun r10 => ?_
    refine Run.bH (e := vIv) (gv := vT_Iv_Iv_I) (by kernel_rfl) (by kernel_rfl) (ok_spec_MulI _ _) (fun _ => rfl) fun r11 => ?_
    refine Run.bH (e := vIv) (gv := vT_Iv_Iv_I) (by kernel_rfl) (by kernel_rfl) (ok_spec_AddI _ _) (fun _ => rfl) fun r12 => ?_
    refine Run.bH (e := vT_Iv_Iv_I) (gv := vT_Iv_Iv_I) (by kernel_rfl) (by kernel_rfl) (ok_spec_PositionOf _) (fun _ => rfl) fun r13 => ?_
    refine Run.jH (gv := vT_Iv_Iv_I) (by kernel_rfl) (?_) (?_)
    · exact Run.rh (k := 0) (by kernel_rfl) (by kernel_rfl)
    · refine Run.bH (e := vIv) (gv := vT_Iv_Iv_I) (by kernel_rfl) (by kernel_rfl) (ok_spec_RadiansOf _) (fun _ => rfl) fun r14 => ?_
      refine Run.bH (e := vIv) (gv := vT_Iv_Iv_I) (by kernel_rfl) (by kernel_rfl) (ok_spec_AddI _ _) (fun _ => rfl) fun r15 => ?_
      exact Run.rh (k := 0) (by kernel_rfl) (by kernel_rfl)

theorem ok_impl_isAzimuthalOne (a0 : Pj) : Fun Tryz.prog 63 [] #[vPj a0] (vB (F_impl_isAzimuthalOne a0)) [] := by
  refine Fun.ofH 400 E_ok mixed Tryz.func63 (by kernel_rfl) (by kernel_rfl) ?_
  unfold F_impl_isAzimuthalOne
  refine Run.bH (e := vB) (gv := vB) (by kernel_rfl) (by kernel_rfl) (ok_impl_ValidProjection _) (fun _ => rfl) fun r1 => ?_
  refine Run.jH (gv := vB) (by kernel_rfl) (?_) (?_)
  · refine Run.p [true, true] (by kernel_rfl) ?_
    refine Run.bH (e := vB) (gv := vB) (by kernel_rfl) (by kernel_rfl) (ok_impl_isAzimuthal _) (fun _ => rfl) fun r2 => ?_
    refine Run.p [true] (by kernel_rfl) ?_
    exact Run.rh (k := 0) (by kernel_rfl) (by kernel_rfl)
  · refine Run.p [false, false, false] (by kernel_rfl) ?_
    exact Run.rh (k := 0) (by kernel_rfl) (by kernel_rfl)

theorem ok_impl_Projection_centre (a0 : Pj) : Fun Tryz.prog 65 [] #[vPj a0] (vPt (F_impl_Projection_centre a0)) [] := by
  refine Fun.ofH 400 E_ok mixed Tryz.func65 (by kernel_rfl) (by kernel_rfl) ?_
  unfold F_impl_Projection_centre
  exact Run.rh (k := 0) (by kernel_rfl) (by kernel_rfl)

theorem ok_impl_WideAdd (a0 : Wd) (a1 : Wd) : Fun Tryz.prog 266 [] #[vWd a0, vWd a1] (vT_Wd_B (F_impl_WideAdd a0 a1)) [] := by
  refine Fun.ofH 400 E_ok mixed Tryz.func266 (by kernel_rfl) (by kernel_rfl) ?_
  unfold F_impl_WideAdd
  refine Run.k (c := (decide (0 ≤ (a0.lo.val : Int)) && (decide (0 ≤ (a1.lo.val : Int)) && (decide (0 ≤ (0 : Int)) && decide ((0 : Int) ≤ 1))))) (by kernel_rfl) (by simp only [Bool.and_eq_true, decide_eq_true_eq]; exact ⟨U64.lo a0.lo, U64.lo a1.lo, U64.lo (cu64 0), (by decide)⟩) ?_
  refine Run.k (c := (decide (0 ≤ ((wu64 a0.hi.val).val : Int)) && (decide (0 ≤ ((wu64 a1.hi.val).val : Int)) && (decide (0 ≤ ((adc_hi a0.lo a1.lo (cu64 0)).val : Int)) && decide (((adc_hi a0.lo a1.lo (cu64 0)).val : Int) ≤ 1))))) (by kernel_rfl) (by simp only [Bool.and_eq_true, decide_eq_true_eq]; exact ⟨U64.lo (wu64 a0.hi.val), U64.lo (wu64 a1.hi.val), U64.lo (adc_hi a0.lo a1.lo (cu64 0)), (adc_hi_le _ _ _ (by decide))⟩) ?_
  refine Run.jH (gv := vT_Wd_B) (by kernel_rfl) (?_) (?_)
  · exact Run.rh (k := 0) (by kernel_rfl) (by kernel_rfl)
  · exact Run.rh (k := 0) (by kernel_rfl) (by kernel_rfl)

theorem ok_impl_rootOfSquares (a0 : I64) (a1 : I64) (a2 : I64) : Fun Tryz.prog 235 [] #[vI a0, vI a1, vI a2] (vT_I_I (F_impl_rootOfSquares a0 a1 a2)) [] := by
  refine Fun.ofH 400 E_ok mixed Tryz.func235 (by kernel_rfl) (by kernel_rfl) ?_
  unfold F_impl_rootOfSquares
  refine Run.bH (e := vWd) (gv := vT_I_I) (by kernel_rfl) (by kernel_rfl) (ok_impl_WideMul _ _) (fun _ => rfl) fun r1 => ?_
  refine Run.bH (e := vWd) (gv := vT_I_I) (by kernel_rfl) (by kernel_rfl) (ok_impl_WideMul _ _) (fun _ => rfl) fun r2 => ?_
  refine Run.bH (e := vT_Wd_B) (gv := vT_I_I) (by kernel_rfl) (by kernel_rfl) (ok_impl_WideAdd _ _) (fun _ => rfl) fun r3 => ?_
  refine Run.bH (e := vWd) (gv := vT_I_I) (by kernel_rfl) (by kernel_rfl) (ok_impl_WideMul _ _) (fun _ => rfl) fun r4 => ?_
  refine Run.bH (e := vT_Wd_B) (gv := vT_I_I) (by kernel_rfl) (by kernel_rfl) (ok_impl_WideAdd _ _) (fun _ => rfl) fun r5 => ?_
  refine Run.bH (e := vT_U_B) (gv := vT_I_I) (by kernel_rfl) (by kernel_rfl) (ok_impl_WideSqrt _) (fun _ => rfl) fun r6 => ?_
  refine Run.bH (e := vWd) (gv := vT_I_I) (by kernel_rfl) (by kernel_rfl) (ok_impl_WideMul _ _) (fun _ => rfl) fun r7 => ?_
  refine Run.jH (gv := vT_I_I) (by kernel_rfl) (?_) (?_)
  · exact Run.rh (k := 0) (by kernel_rfl) (by kernel_rfl)
  · exact Run.rh (k := 0) (by kernel_rfl) (by kernel_rfl)

theorem ok_impl_NormV (a0 : Vc) : Fun Tryz.prog 188 [] #[vVc a0] (vIv (F_impl_NormV a0)) [] := by
  refine Fun.ofH 400 E_ok mixed Tryz.func188 (by kernel_rfl) (by kernel_rfl) ?_
  unfold F_impl_NormV
  refine Run.bH (e := vB) (gv := vIv) (by kernel_rfl) (by kernel_rfl) (ok_impl_areBounded _ _) (fun _ => rfl) fun r1 => ?_
  refine Run.jH (gv := vIv) (by kernel_rfl) (?_) (?_)
  · refine Run.p [true, true, true, true] (by kernel_rfl) ?_
    refine Run.bH (e := vIv) (gv := vIv) (by kernel_rfl) (by kernel_rfl) (ok_impl_Whole) (fun _ => rfl) fun r2 => ?_
    exact Run.rh (k := 0) (by kernel_rfl) (by kernel_rfl)
  · refine Run.p [false, false] (by kernel_rfl) ?_
    refine Run.bH (e := vB) (gv := vIv) (by kernel_rfl) (by kernel_rfl) (ok_impl_IsWhole _) (fun _ => rfl) fun r3 => ?_
    refine Run.p [false] (by kernel_rfl) ?_
    refine Run.jH (gv := vIv) (by kernel_rfl) (?_) (?_)
    · refine Run.bH (e := vIv) (gv := vIv) (by kernel_rfl) (by kernel_rfl) (ok_impl_Whole) (fun _ => rfl) fun r4 => ?_
      exact Run.rh (k := 0) (by kernel_rfl) (by kernel_rfl)
    · refine Run.bH (e := vIv) (gv := vIv) (by kernel_rfl) (by kernel_rfl) (ok_impl_AbsI _) (fun _ => rfl) fun r5 => ?_
      refine Run.bH (e := vIv) (gv := vIv) (by kernel_rfl) (by kernel_rfl) (ok_impl_AbsI _) (fun _ => rfl) fun r6 => ?_
      refine Run.bH (e := vIv) (gv := vIv) (by kernel_rfl) (by kernel_rfl) (ok_impl_AbsI _) (fun _ => rfl) fun r7 => ?_
      refine Run.bH (e := vT_I_I) (gv := vIv) (by kernel_rfl) (by kernel_rfl) (ok_impl_rootOfSquares _ _ _) (fun _ => rfl) fun r8 => ?_
      refine Run.bH (e := vT_I_I) (gv := vIv) (by kernel_rfl) (by kernel_rfl) (ok_impl_rootOfSquares _ _ _) (fun _ => rfl) fun r9 => ?_
      refine Run.bH (e := vIv) (gv := vIv) (by kernel_rfl) (by kernel_rfl) (ok_impl_bounded _ _ _) (fun _ => rfl) fun r10 => ?_
      exact Run.rh (k := 0) (by kernel_rfl) (by kernel_rfl)

theorem ok_impl_fromAxis (a0 : Vc) : Fun Tryz.prog 133 [] #[vVc a0] (vIv (F_impl_fromAxis a0)) [] := by
  refine Fun.ofH 400 E_ok mixed Tryz.func133 (by kernel_rfl) (by kernel_rfl) ?_
  unfold F_impl_fromAxis
  refine Run.bH (e := vIv) (gv := vIv) (by kernel_rfl) (by kernel_rfl) (ok_impl_NormV _) (fun _ => rfl) fun r1 => ?_
  exact Run.rh (k := 0) (by kernel_rfl) (by kernel_rfl)

theorem ok_impl_PositionOf (a0 : Vc) : Fun Tryz.prog 66 [] #[vVc a0] (vT_Iv_Iv_I (F_impl_PositionOf a0)) [] := by
  refine Fun.ofH 400 E_ok mixed Tryz.func66 (by kernel_rfl) (by kernel_rfl) ?_
  unfold F_impl_PositionOf
  refine Run.bH (e := vIv) (gv := vT_Iv_Iv_I) (by kernel_rfl) (by kernel_rfl) (ok_impl_fromAxis _) (fun _ => rfl) fun r1 => ?_
  refine Run.bH (e := vIv) (gv := vT_Iv_Iv_I) (by kernel_rfl) (by kernel_rfl) (ok_impl_DirectionI _ _) (fun _ => rfl) fun r2 => ?_
  refine Run.bH (e := vT_Iv_I) (gv := vT_Iv_Iv_I) (by kernel_rfl) (by kernel_rfl) (ok_impl_knownI _) (fun _ => rfl) fun r3 => ?_
  refine Run.jH (gv := vT_Iv_Iv_I) (by kernel_rfl) (?_) (?_)
  · exact Run.rh (k := 0) (by kernel_rfl) (by kernel_rfl)
  · refine Run.bH (e := vIv) (gv := vT_Iv_Iv_I) (by kernel_rfl) (by kernel_rfl) (ok_impl_DirectionI _ _) (fun _ => rfl) fun r4 => ?_
    exact Run.rh (k := 0) (by kernel_rfl) (by kernel_rfl)

theorem ok_impl_GlobalOf (a0 : Pj) (a1 : Vc) : Fun Tryz.prog 19 [] #[vPj a0, vVc a1] (vT_Iv_Iv_I (F_impl_GlobalOf a0 a1)) [] := by
  refine Fun.ofH 400 E_ok mixed Tryz.func19 (by kernel_rfl) (by kernel_rfl) ?_
  unfold F_impl_GlobalOf
  refine Run.bH (e := vB) (gv := vT_Iv_Iv_I) (by kernel_rfl) (by kernel_rfl) (ok_impl_isAzimuthalOne _) (fun _ => rfl) fun r1 => ?_
  refine Run.jH (gv := vT_Iv_Iv_I) (by kernel_rfl) (?_) (?_)
  · exact Run.rh (k := 0) (by kernel_rfl) (by kernel_rfl)
  · refine Run.bH (e := vPt) (gv := vT_Iv_Iv_I) (by kernel_rfl) (by kernel_rfl) (ok_impl_Projection_centre _) (fun _ => rfl) fun r2 => ?_
    refine Run.bH (e := vIv) (gv := vT_Iv_Iv_I) (by kernel_rfl) (by kernel_rfl) (ok_impl_LatOf _) (fun _ => rfl) fun r3 => ?_
    refine Run.bH (e := vIv) (gv := vT_Iv_Iv_I) (by kernel_rfl) (by kernel_rfl) (ok_impl_CosI _) (fun _ => rfl) fun r4 => ?_
    refine Run.bH (e := vIv) (gv := vT_Iv_Iv_I) (by kernel_rfl) (by kernel_rfl) (ok_impl_MulI _ _) (fun _ => rfl) fun r5 => ?_
    refine Run.bH (e := vIv) (gv := vT_Iv_Iv_I) (by kernel_rfl) (by kernel_rfl) (ok_impl_SinI _) (fun _ => rfl) fun r6 => ?_
    refine Run.bH (e := vIv) (gv := vT_Iv_Iv_I) (by kernel_rfl) (by kernel_rfl) (ok_impl_MulI _ _) (fun _ => rfl) fun r7 => ?_
    refine Run.bH (e := vIv) (gv := vT_Iv_Iv_I) (by kernel_rfl) (by kernel_rfl) (ok_impl_SubI _ _) (fun _ => rfl) fun r8 => ?_
    refine Run.bH (e := vIv) (gv := vT_Iv_Iv_I) (by kernel_rfl) (by kernel_rfl) (ok_impl_SinI _) (fun _ => rfl) fun r9 => ?_
    refine Run.bH (e := vIv) (gv := vT_Iv_Iv_I) (by kernel_rfl) (by kernel_rfl) (ok_impl_MulI _ _) (fun _ => rfl) fun r10 => ?_
    refine Run.bH (e := vIv) (gv := vT_Iv_Iv_I) (by kernel_rfl) (by kernel_rfl) (ok_impl_CosI _) (fun _ => rfl) fun r11 => ?_
    refine Run.bH (e := vIv) (gv := vT_Iv_Iv_I) (by kernel_rfl) (by kernel_rfl) (ok_impl_MulI _ _) (fun _ => rfl) fun r12 => ?_
    refine Run.bH (e := vIv) (gv := vT_Iv_Iv_I) (by kernel_rfl) (by kernel_rfl) (ok_impl_AddI _ _) (fun _ => rfl) fun r13 => ?_
    refine Run.bH (e := vT_Iv_Iv_I) (gv := vT_Iv_Iv_I) (by kernel_rfl) (by kernel_rfl) (ok_impl_PositionOf _) (fun _ => rfl) fun r14 => ?_
    refine Run.jH (gv := vT_Iv_Iv_I) (by kernel_rfl) (?_) (?_)
    · exact Run.rh (k := 0) (by kernel_rfl) (by kernel_rfl)
    · refine Run.bH (e := vIv) (gv := vT_Iv_Iv_I) (by kernel_rfl) (by kernel_rfl) (ok_impl_RadiansOf _) (fun _ => rfl) fun r15 => ?_
      refine Run.bH (e := vIv) (gv := vT_Iv_Iv_I) (by kernel_rfl) (by kernel_rfl) (ok_impl_AddI _ _) (fun _ => rfl) fun r16 => ?_
      exact Run.rh (k := 0) (by kernel_rfl) (by kernel_rfl)

theorem ok_laws_FnExactGlobalOf (a0 : Pj) (a1 : Vc) : Fun Tryz.prog 5 [] #[vPj a0, vVc a1] (vB (F_laws_FnExactGlobalOf a0 a1)) [] := by
  refine Fun.ofH 400 E_ok mixed Tryz.func5 (by kernel_rfl) (by kernel_rfl) ?_
  unfold F_laws_FnExactGlobalOf
  refine Run.bH (e := vPj) (gv := vB) (by kernel_rfl) (by kernel_rfl) (ok_laws_toProjection _) (fun _ => rfl) fun r1 => ?_
  refine Run.bH (e := vVc) (gv := vB) (by kernel_rfl) (by kernel_rfl) (ok_laws_toVec _) (fun _ => rfl) fun r2 => ?_
  refine Run.bH (e := vT_Iv_Iv_I) (gv := vB) (by kernel_rfl) (by kernel_rfl) (ok_spec_GlobalOf _ _) (fun _ => rfl) fun r3 => ?_
  refine Run.bH (e := vPj) (gv := vB) (by kernel_rfl) (by kernel_rfl) (ok_laws_toProjection _) (fun _ => rfl) fun r4 => ?_
  refine Run.bH (e := vVc) (gv := vB) (by kernel_rfl) (by kernel_rfl) (ok_laws_toVec _) (fun _ => rfl) fun r5 => ?_
  refine Run.bH (e := vT_Iv_Iv_I) (gv := vB) (by kernel_rfl) (by kernel_rfl) (ok_impl_GlobalOf _ _) (fun _ => rfl) fun r6 => ?_
  refine Run.bH (e := vB) (gv := vB) (by kernel_rfl) (by kernel_rfl) (ok_laws_eqInterval _ _) (fun _ => rfl) fun r7 => ?_
  refine Run.jH (gv := vB) (by kernel_rfl) (?_) (?_)
  · refine Run.p [true, true, true, true, true, true, true, true, true] (by kernel_rfl) ?_
    exact Run.rh (k := 0) (by kernel_rfl) (by kernel_rfl)
  · refine Run.p [false, false] (by kernel_rfl) ?_
    refine Run.bH (e := vB) (gv := vB) (by kernel_rfl) (by kernel_rfl) (ok_laws_eqInterval _ _) (fun _ => rfl) fun r8 => ?_
    refine Run.p [false, false] (by kernel_rfl) ?_
    refine Run.jH (gv := vB) (by kernel_rfl) (?_) (?_)
    · refine Run.p [true, true, true, true] (by kernel_rfl) ?_
      exact Run.rh (k := 0) (by kernel_rfl) (by kernel_rfl)
    · refine Run.p [false, false, false] (by kernel_rfl) ?_
      refine Run.jH (gv := vB) (by kernel_rfl) (?_) (?_)
      · exact Run.rh (k := 0) (by kernel_rfl) (by kernel_rfl)
      · exact Run.rh (k := 0) (by kernel_rfl) (by kernel_rfl)

end Go.Proofs.YtebaobmmnkebaaaGreat.Abs
