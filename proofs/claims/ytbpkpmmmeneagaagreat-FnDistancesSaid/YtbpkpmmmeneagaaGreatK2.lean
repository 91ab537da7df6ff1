/- The program's functions are these; part 2 (written by w.py). -/
import Derived.Test.YtbpkpmmmeneagaaGreatE
import Derived.Test.YtbpkpmmmeneagaaGreatF5
import Derived.Test.YtbpkpmmmeneagaaGreatQpre
import Derived.Test.YtbpkpmmmeneagaaGreatK1
set_option linter.unusedVariables false
set_option linter.unusedSimpArgs false
namespace Go.Proofs.YtbpkpmmmeneagaaGreat.Abs
open Go Go.RowKit

theorem ok_spec_l03Ok (a0 : I64) : Fun Tryz.prog 107 [] #[vI a0] (vB (F_spec_l03Ok a0)) [] := by
 refine Fun.ofH 400 E_ok mixed Tryz.func107 (by kernel_rfl) (by kernel_rfl) ?_
 unfold F_spec_l03Ok
 refine Run.q (e := vB) (gv := vB) (ok_spec_l00In _ _ _) fun r1 _ => ?_
 exact Run.x 0

theorem ok_spec_l03End (a0 : I64) (a1 : Bool) : Fun Tryz.prog 109 [] #[vI a0, vB a1] (vT_I_B (F_spec_l03End a0 a1)) [] := by
 refine Fun.ofH 400 E_ok mixed Tryz.func109 (by kernel_rfl) (by kernel_rfl) ?_
 unfold F_spec_l03End
 refine Run.y (gv := vT_I_B) (fun _ => ?_) (fun _ => ?_)
 ·refine Run.z [true, true, true, true] ?_
  exact Run.x 0
 ·refine Run.z [false] ?_
  refine Run.q (e := vB) (gv := vT_I_B) (ok_spec_l03Ok _) fun r1 _ => ?_
  refine Run.z [false, false] ?_
  refine Run.y (gv := vT_I_B) (fun _ => ?_) (fun _ => ?_)
  ·exact Run.x 0
  ·exact Run.x 0

theorem ok_spec_l03MulDown (a0 : I64) (a1 : I64) : Fun Tryz.prog 46 [] #[vI a0, vI a1] (vT_I_B (F_spec_l03MulDown a0 a1)) [] := by
 refine Fun.ofH 400 E_ok mixed Tryz.func46 (by kernel_rfl) (by kernel_rfl) ?_
 unfold F_spec_l03MulDown
 refine Run.q (e := vB) (gv := vT_I_B) (ok_spec_l03Ok _) fun r1 _ => ?_
 refine Run.y (gv := vT_I_B) (fun _ => ?_) (fun _ => ?_)
 ·refine Run.z [true, true, true, true] ?_
  exact Run.x 0
 ·refine Run.z [false] ?_
  refine Run.q (e := vB) (gv := vT_I_B) (ok_spec_l03Ok _) fun r2 _ => ?_
  refine Run.z [false, false] ?_
  refine Run.y (gv := vT_I_B) (fun _ => ?_) (fun _ => ?_)
  ·exact Run.x 0
  ·refine Run.q (e := vT_I_B) (gv := vT_I_B) (ok_spec_MulFloor _ _ _) fun r3 _ => ?_
   refine Run.q (e := vT_I_B) (gv := vT_I_B) (ok_spec_l03End _ _) fun r4 _ => ?_
   exact Run.x 0

theorem ok_spec_l03MulUp (a0 : I64) (a1 : I64) : Fun Tryz.prog 47 [] #[vI a0, vI a1] (vT_I_B (F_spec_l03MulUp a0 a1)) [] := by
 refine Fun.ofH 400 E_ok mixed Tryz.func47 (by kernel_rfl) (by kernel_rfl) ?_
 unfold F_spec_l03MulUp
 refine Run.q (e := vT_I_B) (gv := vT_I_B) (ok_spec_l03MulDown _ _) fun r1 _ => ?_
 refine Run.q (e := vB) (gv := vT_I_B) (ok_spec_l03Ok _) fun r2 _ => ?_
 refine Run.y (gv := vT_I_B) (fun _ => ?_) (fun _ => ?_)
 ·refine Run.z [true, true, true] ?_
  exact Run.x 0
 ·refine Run.z [false, false] ?_
  refine Run.y (gv := vT_I_B) (fun _ => ?_) (fun _ => ?_)
  ·exact Run.x 0
  ·exact Run.x 0

theorem ok_spec_SqrI (a0 : Iv) : Fun Tryz.prog 268 [] #[vIv a0] (vIv (F_spec_SqrI a0)) [] := by
 refine Fun.ofH 400 E_ok mixed Tryz.func268 (by kernel_rfl) (by kernel_rfl) ?_
 unfold F_spec_SqrI
 refine Run.q (e := vB) (gv := vIv) (ok_spec_l04Ok _) fun r1 _ => ?_
 refine Run.y (gv := vIv) (fun _ => ?_) (fun _ => ?_)
 ·refine Run.q (e := vIv) (gv := vIv) (ok_spec_l04Whole) fun r2 _ => ?_
  exact Run.x 0
 ·refine Run.q (e := vT_I_I) (gv := vIv) (ok_spec_l04Ends _) fun r3 _ => ?_
  refine Run.q (e := vT_I_B) (gv := vIv) (ok_spec_l03MulDown _ _) fun r4 _ => ?_
  refine Run.q (e := vT_I_B) (gv := vIv) (ok_spec_l03MulUp _ _) fun r5 _ => ?_
  refine Run.y (gv := vIv) (fun _ => ?_) (fun _ => ?_)
  ·refine Run.z [true, true, true] ?_
   refine Run.q (e := vIv) (gv := vIv) (ok_spec_l04Whole) fun r6 _ => ?_
   exact Run.x 0
  ·refine Run.z [false, false] ?_
   refine Run.y (gv := vIv) (fun _ => ?_) (fun _ => ?_)
   ·refine Run.q (e := vIv) (gv := vIv) (ok_spec_l04Whole) fun r7 _ => ?_
    exact Run.x 0
   ·refine Run.q (e := vIv) (gv := vIv) (ok_spec_l04Make _ _) fun r8 _ => ?_
    exact Run.x 0

theorem ok_spec_Integer (a0 : I64) : Fun Tryz.prog 18 [] #[vI a0] (vIv (F_spec_Integer a0)) [] := by
 refine Fun.ofH 400 E_ok mixed Tryz.func18 (by kernel_rfl) (by kernel_rfl) ?_
 unfold F_spec_Integer
 refine Run.q (e := vB) (gv := vIv) (ok_spec_l00In _ _ _) fun r1 _ => ?_
 refine Run.y (gv := vIv) (fun _ => ?_) (fun _ => ?_)
 ·refine Run.q (e := vIv) (gv := vIv) (ok_spec_l04Whole) fun r2 _ => ?_
  exact Run.x 0
 ·refine Run.q (e := vIv) (gv := vIv) (ok_spec_l04Make _ _) fun r3 _ => ?_
  exact Run.x 0

theorem ok_spec_l03DivDown (a0 : I64) (a1 : I64) : Fun Tryz.prog 246 [] #[vI a0, vI a1] (vT_I_B (F_spec_l03DivDown a0 a1)) [] := by
 refine Fun.ofH 400 E_ok mixed Tryz.func246 (by kernel_rfl) (by kernel_rfl) ?_
 unfold F_spec_l03DivDown
 refine Run.q (e := vB) (gv := vT_I_B) (ok_spec_l03Ok _) fun r1 _ => ?_
 refine Run.y (gv := vT_I_B) (fun _ => ?_) (fun _ => ?_)
 ·refine Run.z [true, true, true, true, true, true, true] ?_
  exact Run.x 0
 ·refine Run.z [false] ?_
  refine Run.q (e := vB) (gv := vT_I_B) (ok_spec_l03Ok _) fun r2 _ => ?_
  refine Run.z [false, false] ?_
  refine Run.y (gv := vT_I_B) (fun _ => ?_) (fun _ => ?_)
  ·refine Run.z [true, true, true] ?_
   exact Run.x 0
  ·refine Run.z [false, false] ?_
   refine Run.y (gv := vT_I_B) (fun _ => ?_) (fun _ => ?_)
   ·exact Run.x 0
   ·refine Run.y (gv := vT_I_B) (fun _ => ?_) (fun _ => ?_)
    ·refine Run.q (e := vT_I_B) (gv := vT_I_B) (ok_spec_MulDivFloor _ _ _) fun r3 _ => ?_
     refine Run.q (e := vT_I_B) (gv := vT_I_B) (ok_spec_l03End _ _) fun r4 _ => ?_
     exact Run.x 0
    ·refine Run.q (e := vT_I_B) (gv := vT_I_B) (ok_spec_MulDivFloor _ _ _) fun r5 _ => ?_
     refine Run.q (e := vT_I_B) (gv := vT_I_B) (ok_spec_l03End _ _) fun r6 _ => ?_
     exact Run.x 0

theorem ok_spec_l03DivUp (a0 : I64) (a1 : I64) : Fun Tryz.prog 247 [] #[vI a0, vI a1] (vT_I_B (F_spec_l03DivUp a0 a1)) [] := by
 refine Fun.ofH 400 E_ok mixed Tryz.func247 (by kernel_rfl) (by kernel_rfl) ?_
 unfold F_spec_l03DivUp
 refine Run.q (e := vB) (gv := vT_I_B) (ok_spec_l03Ok _) fun r1 _ => ?_
 refine Run.y (gv := vT_I_B) (fun _ => ?_) (fun _ => ?_)
 ·exact Run.x 0
 ·refine Run.q (e := vT_I_B) (gv := vT_I_B) (ok_spec_l03DivDown _ _) fun r2 _ => ?_
  exact Run.x 0

theorem ok_spec_DivI (a0 : Iv) (a1 : Iv) : Fun Tryz.prog 212 [] #[vIv a0, vIv a1] (vIv (F_spec_DivI a0 a1)) [] := by
 refine Fun.ofH 400 E_ok mixed Tryz.func212 (by kernel_rfl) (by kernel_rfl) ?_
 unfold F_spec_DivI
 refine Run.q (e := vB) (gv := vIv) (ok_spec_l04Ok _) fun r1 _ => ?_
 refine Run.y (gv := vIv) (fun _ => ?_) (fun _ => ?_)
 ·refine Run.z [true, true, true, true, true, true, true] ?_
  refine Run.q (e := vIv) (gv := vIv) (ok_spec_l04Whole) fun r2 _ => ?_
  exact Run.x 0
 ·refine Run.z [false] ?_
  refine Run.q (e := vB) (gv := vIv) (ok_spec_l04Ok _) fun r3 _ => ?_
  refine Run.z [false, false] ?_
  refine Run.y (gv := vIv) (fun _ => ?_) (fun _ => ?_)
  ·refine Run.z [true, true, true] ?_
   refine Run.q (e := vIv) (gv := vIv) (ok_spec_l04Whole) fun r4 _ => ?_
   exact Run.x 0
  ·refine Run.z [false] ?_
   refine Run.q (e := vB) (gv := vIv) (ok_spec_l04Has _ _) fun r5 _ => ?_
   refine Run.z [false] ?_
   refine Run.y (gv := vIv) (fun _ => ?_) (fun _ => ?_)
   ·refine Run.q (e := vIv) (gv := vIv) (ok_spec_l04Whole) fun r6 _ => ?_
    exact Run.x 0
   ·refine Run.u 400 E_ok mixed Tryz.func212 ?_
    refine Run.z [true] ?_
    refine Run.u 400 E_ok mixed Tryz.func212 ?_
    refine Run.z [true, true, true] ?_
    refine Run.q (e := vT_I_B) (gv := vIv) (ok_spec_l03DivDown _ _) fun r7 _ => ?_
    refine Run.z [true, true] ?_
    refine Run.q (e := vT_I_B) (gv := vIv) (ok_spec_l03DivUp _ _) fun r8 _ => ?_
    refine Run.y (gv := vIv) (fun _ => ?_) (fun _ => ?_)
    ·refine Run.z [true, true, true] ?_
     refine Run.q (e := vIv) (gv := vIv) (ok_spec_l04Whole) fun r9 _ => ?_
     exact Run.x 0
    ·refine Run.z [false, false] ?_
     refine Run.y (gv := vIv) (fun _ => ?_) (fun _ => ?_)
     ·refine Run.q (e := vIv) (gv := vIv) (ok_spec_l04Whole) fun r10 _ => ?_
      exact Run.x 0
     ·refine Run.q (e := vI) (gv := vIv) (ok_spec_l00Min _ _) fun r11 _ => ?_
      refine Run.q (e := vI) (gv := vIv) (ok_spec_l00Max _ _) fun r12 _ => ?_
      refine Run.u 400 E_ok mixed Tryz.func212 ?_
      refine Run.z [true, true, true] ?_
      refine Run.q (e := vT_I_B) (gv := vIv) (ok_spec_l03DivDown _ _) fun r13 _ => ?_
      refine Run.z [true, true] ?_
      refine Run.q (e := vT_I_B) (gv := vIv) (ok_spec_l03DivUp _ _) fun r14 _ => ?_
      refine Run.y (gv := vIv) (fun _ => ?_) (fun _ => ?_)
      ·refine Run.z [true, true, true] ?_
       refine Run.q (e := vIv) (gv := vIv) (ok_spec_l04Whole) fun r15 _ => ?_
       exact Run.x 0
      ·refine Run.z [false, false] ?_
       refine Run.y (gv := vIv) (fun _ => ?_) (fun _ => ?_)
       ·refine Run.q (e := vIv) (gv := vIv) (ok_spec_l04Whole) fun r16 _ => ?_
        exact Run.x 0
       ·refine Run.q (e := vI) (gv := vIv) (ok_spec_l00Min _ _) fun r17 _ => ?_
        refine Run.q (e := vI) (gv := vIv) (ok_spec_l00Max _ _) fun r18 _ => ?_
        refine Run.u 400 E_ok mixed Tryz.func212 ?_
        refine Run.z [false] ?_
        refine Run.u 400 E_ok mixed Tryz.func212 ?_
        refine Run.z [true] ?_
        refine Run.u 400 E_ok mixed Tryz.func212 ?_
        refine Run.z [true, true, true] ?_
        refine Run.q (e := vT_I_B) (gv := vIv) (ok_spec_l03DivDown _ _) fun r19 _ => ?_
        refine Run.z [true, true] ?_
        refine Run.q (e := vT_I_B) (gv := vIv) (ok_spec_l03DivUp _ _) fun r20 _ => ?_
        refine Run.y (gv := vIv) (fun _ => ?_) (fun _ => ?_)
        ·refine Run.z [true, true, true] ?_
         refine Run.q (e := vIv) (gv := vIv) (ok_spec_l04Whole) fun r21 _ => ?_
         exact Run.x 0
        ·refine Run.z [false, false] ?_
         refine Run.y (gv := vIv) (fun _ => ?_) (fun _ => ?_)
         ·refine Run.q (e := vIv) (gv := vIv) (ok_spec_l04Whole) fun r22 _ => ?_
          exact Run.x 0
         ·refine Run.q (e := vI) (gv := vIv) (ok_spec_l00Min _ _) fun r23 _ => ?_
          refine Run.q (e := vI) (gv := vIv) (ok_spec_l00Max _ _) fun r24 _ => ?_
          refine Run.u 400 E_ok mixed Tryz.func212 ?_
          refine Run.z [true, true, true] ?_
          refine Run.q (e := vT_I_B) (gv := vIv) (ok_spec_l03DivDown _ _) fun r25 _ => ?_
          refine Run.z [true, true] ?_
          refine Run.q (e := vT_I_B) (gv := vIv) (ok_spec_l03DivUp _ _) fun r26 _ => ?_
          refine Run.y (gv := vIv) (fun _ => ?_) (fun _ => ?_)
          ·refine Run.z [true, true, true] ?_
           refine Run.q (e := vIv) (gv := vIv) (ok_spec_l04Whole) fun r27 _ => ?_
           exact Run.x 0
          ·refine Run.z [false, false] ?_
           refine Run.y (gv := vIv) (fun _ => ?_) (fun _ => ?_)
           ·refine Run.q (e := vIv) (gv := vIv) (ok_spec_l04Whole) fun r28 _ => ?_
            exact Run.x 0
           ·refine Run.q (e := vI) (gv := vIv) (ok_spec_l00Min _ _) fun r29 _ => ?_
            refine Run.q (e := vI) (gv := vIv) (ok_spec_l00Max _ _) fun r30 _ => ?_
            refine Run.u 400 E_ok mixed Tryz.func212 ?_
            refine Run.z [false] ?_
            refine Run.u 400 E_ok mixed Tryz.func212 ?_
            refine Run.z [false] ?_
            refine Run.q (e := vIv) (gv := vIv) (ok_spec_l04Make _ _) fun r31 _ => ?_
            exact Run.x 0

theorem ok_spec_MulI (a0 : Iv) (a1 : Iv) : Fun Tryz.prog 15 [] #[vIv a0, vIv a1] (vIv (F_spec_MulI a0 a1)) [] := by
 refine Fun.ofH 400 E_ok mixed Tryz.func15 (by kernel_rfl) (by kernel_rfl) ?_
 unfold F_spec_MulI
 refine Run.q (e := vB) (gv := vIv) (ok_spec_l04Ok _) fun r1 _ => ?_
 refine Run.y (gv := vIv) (fun _ => ?_) (fun _ => ?_)
 ·refine Run.z [true, true, true, true] ?_
  refine Run.q (e := vIv) (gv := vIv) (ok_spec_l04Whole) fun r2 _ => ?_
  exact Run.x 0
 ·refine Run.z [false] ?_
  refine Run.q (e := vB) (gv := vIv) (ok_spec_l04Ok _) fun r3 _ => ?_
  refine Run.z [false, false] ?_
  refine Run.y (gv := vIv) (fun _ => ?_) (fun _ => ?_)
  ·refine Run.q (e := vIv) (gv := vIv) (ok_spec_l04Whole) fun r4 _ => ?_
   exact Run.x 0
  ·refine Run.u 400 E_ok mixed Tryz.func15 ?_
   refine Run.z [true] ?_
   refine Run.u 400 E_ok mixed Tryz.func15 ?_
   refine Run.z [true, true, true] ?_
   refine Run.q (e := vT_I_B) (gv := vIv) (ok_spec_l03MulDown _ _) fun r5 _ => ?_
   refine Run.z [true, true] ?_
   refine Run.q (e := vT_I_B) (gv := vIv) (ok_spec_l03MulUp _ _) fun r6 _ => ?_
   refine Run.y (gv := vIv) (fun _ => ?_) (fun _ => ?_)
   ·refine Run.z [true, true, true] ?_
    refine Run.q (e := vIv) (gv := vIv) (ok_spec_l04Whole) fun r7 _ => ?_
    exact Run.x 0
   ·refine Run.z [false, false] ?_
    refine Run.y (gv := vIv) (fun _ => ?_) (fun _ => ?_)
    ·refine Run.q (e := vIv) (gv := vIv) (ok_spec_l04Whole) fun r8 _ => ?_
     exact Run.x 0
    ·refine Run.q (e := vI) (gv := vIv) (ok_spec_l00Min _ _) fun r9 _ => ?_
     refine Run.q (e := vI) (gv := vIv) (ok_spec_l00Max _ _) fun r10 _ => ?_
     refine Run.u 400 E_ok mixed Tryz.func15 ?_
     refine Run.z [true, true, true] ?_
     refine Run.q (e := vT_I_B) (gv := vIv) (ok_spec_l03MulDown _ _) fun r11 _ => ?_
     refine Run.z [true, true] ?_
     refine Run.q (e := vT_I_B) (gv := vIv) (ok_spec_l03MulUp _ _) fun r12 _ => ?_
     refine Run.y (gv := vIv) (fun _ => ?_) (fun _ => ?_)
     ·refine Run.z [true, true, true] ?_
      refine Run.q (e := vIv) (gv := vIv) (ok_spec_l04Whole) fun r13 _ => ?_
      exact Run.x 0
     ·refine Run.z [false, false] ?_
      refine Run.y (gv := vIv) (fun _ => ?_) (fun _ => ?_)
      ·refine Run.q (e := vIv) (gv := vIv) (ok_spec_l04Whole) fun r14 _ => ?_
       exact Run.x 0
      ·refine Run.q (e := vI) (gv := vIv) (ok_spec_l00Min _ _) fun r15 _ => ?_
       refine Run.q (e := vI) (gv := vIv) (ok_spec_l00Max _ _) fun r16 _ => ?_
       refine Run.u 400 E_ok mixed Tryz.func15 ?_
       refine Run.z [false] ?_
       refine Run.u 400 E_ok mixed Tryz.func15 ?_
       refine Run.z [true] ?_
       refine Run.u 400 E_ok mixed Tryz.func15 ?_
       refine Run.z [true, true, true] ?_
       refine Run.q (e := vT_I_B) (gv := vIv) (ok_spec_l03MulDown _ _) fun r17 _ => ?_
       refine Run.z [true, true] ?_
       refine Run.q (e := vT_I_B) (gv := vIv) (ok_spec_l03MulUp _ _) fun r18 _ => ?_
       refine Run.y (gv := vIv) (fun _ => ?_) (fun _ => ?_)
       ·refine Run.z [true, true, true] ?_
        refine Run.q (e := vIv) (gv := vIv) (ok_spec_l04Whole) fun r19 _ => ?_
        exact Run.x 0
       ·refine Run.z [false, false] ?_
        refine Run.y (gv := vIv) (fun _ => ?_) (fun _ => ?_)
        ·refine Run.q (e := vIv) (gv := vIv) (ok_spec_l04Whole) fun r20 _ => ?_
         exact Run.x 0
        ·refine Run.q (e := vI) (gv := vIv) (ok_spec_l00Min _ _) fun r21 _ => ?_
         refine Run.q (e := vI) (gv := vIv) (ok_spec_l00Max _ _) fun r22 _ => ?_
         refine Run.u 400 E_ok mixed Tryz.func15 ?_
         refine Run.z [true, true, true] ?_
         refine Run.q (e := vT_I_B) (gv := vIv) (ok_spec_l03MulDown _ _) fun r23 _ => ?_
         refine Run.z [true, true] ?_
         refine Run.q (e := vT_I_B) (gv := vIv) (ok_spec_l03MulUp _ _) fun r24 _ => ?_
         refine Run.y (gv := vIv) (fun _ => ?_) (fun _ => ?_)
         ·refine Run.z [true, true, true] ?_
          refine Run.q (e := vIv) (gv := vIv) (ok_spec_l04Whole) fun r25 _ => ?_
          exact Run.x 0
         ·refine Run.z [false, false] ?_
          refine Run.y (gv := vIv) (fun _ => ?_) (fun _ => ?_)
          ·refine Run.q (e := vIv) (gv := vIv) (ok_spec_l04Whole) fun r26 _ => ?_
           exact Run.x 0
          ·refine Run.q (e := vI) (gv := vIv) (ok_spec_l00Min _ _) fun r27 _ => ?_
           refine Run.q (e := vI) (gv := vIv) (ok_spec_l00Max _ _) fun r28 _ => ?_
           refine Run.u 400 E_ok mixed Tryz.func15 ?_
           refine Run.z [false] ?_
           refine Run.u 400 E_ok mixed Tryz.func15 ?_
           refine Run.z [false] ?_
           refine Run.q (e := vIv) (gv := vIv) (ok_spec_l04Make _ _) fun r29 _ => ?_
           exact Run.x 0

theorem ok_spec_l06Series (a0 : Iv) (a1 : I64) : Fun Tryz.prog 267 [] #[vIv a0, vI a1] (vIv (F_spec_l06Series a0 a1)) [] := by
 refine Fun.ofH 400 E_ok mixed Tryz.func267 (by kernel_rfl) (by kernel_rfl) ?_
 unfold F_spec_l06Series
 refine Run.q (e := vIv) (gv := vIv) (ok_spec_Integer _) fun r1 _ => ?_
 refine Run.u 400 E_ok mixed Tryz.func267 ?_
 refine Run.z [true] ?_
 refine Run.q (e := vIv) (gv := vIv) (ok_spec_Integer _) fun r2 _ => ?_
 refine Run.q (e := vIv) (gv := vIv) (ok_spec_Integer _) fun r3 _ => ?_
 refine Run.q (e := vIv) (gv := vIv) (ok_spec_DivI _ _) fun r4 _ => ?_
 refine Run.q (e := vIv) (gv := vIv) (ok_spec_MulI _ _) fun r5 _ => ?_
 refine Run.q (e := vIv) (gv := vIv) (ok_spec_SubI _ _) fun r6 _ => ?_
 refine Run.u 400 E_ok mixed Tryz.func267 ?_
 refine Run.z [true] ?_
 refine Run.q (e := vIv) (gv := vIv) (ok_spec_Integer _) fun r7 _ => ?_
 refine Run.q (e := vIv) (gv := vIv) (ok_spec_Integer _) fun r8 _ => ?_
 refine Run.q (e := vIv) (gv := vIv) (ok_spec_DivI _ _) fun r9 _ => ?_
 refine Run.q (e := vIv) (gv := vIv) (ok_spec_MulI _ _) fun r10 _ => ?_
 refine Run.q (e := vIv) (gv := vIv) (ok_spec_SubI _ _) fun r11 _ => ?_
 refine Run.u 400 E_ok mixed Tryz.func267 ?_
 refine Run.z [true] ?_
 refine Run.q (e := vIv) (gv := vIv) (ok_spec_Integer _) fun r12 _ => ?_
 refine Run.q (e := vIv) (gv := vIv) (ok_spec_Integer _) fun r13 _ => ?_
 refine Run.q (e := vIv) (gv := vIv) (ok_spec_DivI _ _) fun r14 _ => ?_
 refine Run.q (e := vIv) (gv := vIv) (ok_spec_MulI _ _) fun r15 _ => ?_
 refine Run.q (e := vIv) (gv := vIv) (ok_spec_SubI _ _) fun r16 _ => ?_
 refine Run.u 400 E_ok mixed Tryz.func267 ?_
 refine Run.z [true] ?_
 refine Run.q (e := vIv) (gv := vIv) (ok_spec_Integer _) fun r17 _ => ?_
 refine Run.q (e := vIv) (gv := vIv) (ok_spec_Integer _) fun r18 _ => ?_
 refine Run.q (e := vIv) (gv := vIv) (ok_spec_DivI _ _) fun r19 _ => ?_
 refine Run.q (e := vIv) (gv := vIv) (ok_spec_MulI _ _) fun r20 _ => ?_
 refine Run.q (e := vIv) (gv := vIv) (ok_spec_SubI _ _) fun r21 _ => ?_
 refine Run.u 400 E_ok mixed Tryz.func267 ?_
 refine Run.z [true] ?_
 refine Run.q (e := vIv) (gv := vIv) (ok_spec_Integer _) fun r22 _ => ?_
 refine Run.q (e := vIv) (gv := vIv) (ok_spec_Integer _) fun r23 _ => ?_
 refine Run.q (e := vIv) (gv := vIv) (ok_spec_DivI _ _) fun r24 _ => ?_
 refine Run.q (e := vIv) (gv := vIv) (ok_spec_MulI _ _) fun r25 _ => ?_
 refine Run.q (e := vIv) (gv := vIv) (ok_spec_SubI _ _) fun r26 _ => ?_
 refine Run.u 400 E_ok mixed Tryz.func267 ?_
 refine Run.z [true] ?_
 refine Run.q (e := vIv) (gv := vIv) (ok_spec_Integer _) fun r27 _ => ?_
 refine Run.q (e := vIv) (gv := vIv) (ok_spec_Integer _) fun r28 _ => ?_
 refine Run.q (e := vIv) (gv := vIv) (ok_spec_DivI _ _) fun r29 _ => ?_
 refine Run.q (e := vIv) (gv := vIv) (ok_spec_MulI _ _) fun r30 _ => ?_
 refine Run.q (e := vIv) (gv := vIv) (ok_spec_SubI _ _) fun r31 _ => ?_
 refine Run.u 400 E_ok mixed Tryz.func267 ?_
 refine Run.z [true] ?_
 refine Run.q (e := vIv) (gv := vIv) (ok_spec_Integer _) fun r32 _ => ?_
 refine Run.q (e := vIv) (gv := vIv) (ok_spec_Integer _) fun r33 _ => ?_
 refine Run.q (e := vIv) (gv := vIv) (ok_spec_DivI _ _) fun r34 _ => ?_
 refine Run.q (e := vIv) (gv := vIv) (ok_spec_MulI _ _) fun r35 _ => ?_
 refine Run.q (e := vIv) (gv := vIv) (ok_spec_SubI _ _) fun r36 _ => ?_
 refine Run.u 400 E_ok mixed Tryz.func267 ?_
 refine Run.z [true] ?_
 refine Run.q (e := vIv) (gv := vIv) (ok_spec_Integer _) fun r37 _ => ?_
 refine Run.q (e := vIv) (gv := vIv) (ok_spec_Integer _) fun r38 _ => ?_
 refine Run.q (e := vIv) (gv := vIv) (ok_spec_DivI _ _) fun r39 _ => ?_
 refine Run.q (e := vIv) (gv := vIv) (ok_spec_MulI _ _) fun r40 _ => ?_
 refine Run.q (e := vIv) (gv := vIv) (ok_spec_SubI _ _) fun r41 _ => ?_
 refine Run.u 400 E_ok mixed Tryz.func267 ?_
 refine Run.z [false] ?_
 exact Run.x 0

theorem ok_spec_l06Tiny : Fun Tryz.prog 269 [] #[] (vIv (F_spec_l06Tiny)) [] := by
 refine Fun.ofH 400 E_ok mixed Tryz.func269 (by kernel_rfl) (by kernel_rfl) ?_
 unfold F_spec_l06Tiny
 exact Run.x 0

theorem ok_spec_SinSeries (a0 : Iv) : Fun Tryz.prog 253 [] #[vIv a0] (vIv (F_spec_SinSeries a0)) [] := by
 refine Fun.ofH 400 E_ok mixed Tryz.func253 (by kernel_rfl) (by kernel_rfl) ?_
 unfold F_spec_SinSeries
 refine Run.q (e := vIv) (gv := vIv) (ok_spec_l06Ring) fun r1 _ => ?_
 refine Run.q (e := vB) (gv := vIv) (ok_spec_InsideI _ _) fun r2 _ => ?_
 refine Run.y (gv := vIv) (fun _ => ?_) (fun _ => ?_)
 ·refine Run.q (e := vIv) (gv := vIv) (ok_spec_Whole) fun r3 _ => ?_
  exact Run.x 0
 ·refine Run.q (e := vIv) (gv := vIv) (ok_spec_SqrI _) fun r4 _ => ?_
  refine Run.q (e := vIv) (gv := vIv) (ok_spec_l06Series _ _) fun r5 _ => ?_
  refine Run.q (e := vIv) (gv := vIv) (ok_spec_MulI _ _) fun r6 _ => ?_
  refine Run.q (e := vIv) (gv := vIv) (ok_spec_l06Tiny) fun r7 _ => ?_
  refine Run.q (e := vIv) (gv := vIv) (ok_spec_AddI _ _) fun r8 _ => ?_
  exact Run.x 0

theorem ok_spec_l06Meet (a0 : Iv) : Fun Tryz.prog 252 [] #[vIv a0] (vIv (F_spec_l06Meet a0)) [] := by
 refine Fun.ofH 400 E_ok mixed Tryz.func252 (by kernel_rfl) (by kernel_rfl) ?_
 unfold F_spec_l06Meet
 refine Run.q (e := vIv) (gv := vIv) (ok_spec_l06Ring) fun r1 _ => ?_
 refine Run.q (e := vT_Iv_B) (gv := vIv) (ok_spec_MeetI _ _) fun r2 _ => ?_
 refine Run.y (gv := vIv) (fun _ => ?_) (fun _ => ?_)
 ·refine Run.q (e := vIv) (gv := vIv) (ok_spec_l06Ring) fun r3 _ => ?_
  exact Run.x 0
 ·exact Run.x 0

theorem ok_spec_CosSeries (a0 : Iv) : Fun Tryz.prog 254 [] #[vIv a0] (vIv (F_spec_CosSeries a0)) [] := by
 refine Fun.ofH 400 E_ok mixed Tryz.func254 (by kernel_rfl) (by kernel_rfl) ?_
 unfold F_spec_CosSeries
 refine Run.q (e := vIv) (gv := vIv) (ok_spec_l06Ring) fun r1 _ => ?_
 refine Run.q (e := vB) (gv := vIv) (ok_spec_InsideI _ _) fun r2 _ => ?_
 refine Run.y (gv := vIv) (fun _ => ?_) (fun _ => ?_)
 ·refine Run.q (e := vIv) (gv := vIv) (ok_spec_Whole) fun r3 _ => ?_
  exact Run.x 0
 ·refine Run.q (e := vIv) (gv := vIv) (ok_spec_SqrI _) fun r4 _ => ?_
  refine Run.q (e := vIv) (gv := vIv) (ok_spec_l06Series _ _) fun r5 _ => ?_
  refine Run.q (e := vIv) (gv := vIv) (ok_spec_l06Tiny) fun r6 _ => ?_
  refine Run.q (e := vIv) (gv := vIv) (ok_spec_AddI _ _) fun r7 _ => ?_
  exact Run.x 0

theorem ok_spec_l06At (a0 : I64) (a1 : I64) : Fun Tryz.prog 222 [] #[vI a0, vI a1] (vIv (F_spec_l06At a0 a1)) [] := by
 refine Fun.ofH 400 E_ok mixed Tryz.func222 (by kernel_rfl) (by kernel_rfl) ?_
 unfold F_spec_l06At
 refine Run.q (e := vB) (gv := vIv) (ok_spec_l06Angle _) fun r1 _ => ?_
 refine Run.y (gv := vIv) (fun _ => ?_) (fun _ => ?_)
 ·refine Run.q (e := vIv) (gv := vIv) (ok_spec_l06Ring) fun r2 _ => ?_
  exact Run.x 0
 ·refine Run.q (e := vI) (gv := vIv) (ok_spec_QuarterOf _) fun r3 _ => ?_
  refine Run.q (e := vIv) (gv := vIv) (ok_spec_l05At _) fun r4 _ => ?_
  refine Run.q (e := vIv) (gv := vIv) (ok_spec_TurnI _) fun r5 _ => ?_
  refine Run.q (e := vIv) (gv := vIv) (ok_spec_SubI _ _) fun r6 _ => ?_
  refine Run.y (gv := vIv) (fun _ => ?_) (fun _ => ?_)
  ·refine Run.q (e := vIv) (gv := vIv) (ok_spec_SinSeries _) fun r7 _ => ?_
   refine Run.q (e := vIv) (gv := vIv) (ok_spec_l06Meet _) fun r8 _ => ?_
   exact Run.x 0
  ·refine Run.y (gv := vIv) (fun _ => ?_) (fun _ => ?_)
   ·refine Run.q (e := vIv) (gv := vIv) (ok_spec_CosSeries _) fun r9 _ => ?_
    refine Run.q (e := vIv) (gv := vIv) (ok_spec_l06Meet _) fun r10 _ => ?_
    exact Run.x 0
   ·refine Run.y (gv := vIv) (fun _ => ?_) (fun _ => ?_)
    ·refine Run.q (e := vIv) (gv := vIv) (ok_spec_SinSeries _) fun r11 _ => ?_
     refine Run.q (e := vIv) (gv := vIv) (ok_spec_NegI _) fun r12 _ => ?_
     refine Run.q (e := vIv) (gv := vIv) (ok_spec_l06Meet _) fun r13 _ => ?_
     exact Run.x 0
    ·refine Run.q (e := vIv) (gv := vIv) (ok_spec_CosSeries _) fun r14 _ => ?_
     refine Run.q (e := vIv) (gv := vIv) (ok_spec_NegI _) fun r15 _ => ?_
     refine Run.q (e := vIv) (gv := vIv) (ok_spec_l06Meet _) fun r16 _ => ?_
     exact Run.x 0

theorem ok_spec_HullI (a0 : Iv) (a1 : Iv) : Fun Tryz.prog 155 [] #[vIv a0, vIv a1] (vIv (F_spec_HullI a0 a1)) [] := by
 refine Fun.ofH 400 E_ok mixed Tryz.func155 (by kernel_rfl) (by kernel_rfl) ?_
 unfold F_spec_HullI
 refine Run.q (e := vB) (gv := vIv) (ok_spec_l04Ok _) fun r1 _ => ?_
 refine Run.y (gv := vIv) (fun _ => ?_) (fun _ => ?_)
 ·refine Run.z [true, true, true, true] ?_
  refine Run.q (e := vIv) (gv := vIv) (ok_spec_l04Whole) fun r2 _ => ?_
  exact Run.x 0
 ·refine Run.z [false] ?_
  refine Run.q (e := vB) (gv := vIv) (ok_spec_l04Ok _) fun r3 _ => ?_
  refine Run.z [false, false] ?_
  refine Run.y (gv := vIv) (fun _ => ?_) (fun _ => ?_)
  ·refine Run.q (e := vIv) (gv := vIv) (ok_spec_l04Whole) fun r4 _ => ?_
   exact Run.x 0
  ·refine Run.q (e := vI) (gv := vIv) (ok_spec_l00Min _ _) fun r5 _ => ?_
   refine Run.q (e := vI) (gv := vIv) (ok_spec_l00Max _ _) fun r6 _ => ?_
   refine Run.q (e := vIv) (gv := vIv) (ok_spec_l04Make _ _) fun r7 _ => ?_
   exact Run.x 0

theorem ok_spec_l06Over_L0 : ∀ (fu : Nat) (a1 : I64) (a0 : Iv) (x_k : I64) (y_2 : Iv) (hm : (2000 - x_k.val).toNat < fu) (t : Array Value) (ht : maskA t [0, 3, 7, 8, 9, 10, 11, 12, 13, 14, 15, 16, 17, 18, 19, 20, 21, 22, 23, 24, 25, 26, 27, 28, 29, 30, 31, 32, 33, 34, 35, 36, 37, 38, 39, 40, 41, 42, 43, 44, 45, 46, 47, 48, 49, 50, 51] = #[undef, .int .i64 a1.val, .pointer (some ⟨0, 0, none⟩), undef, .pointer (some ⟨1, 0, none⟩), .pointer (some ⟨2, 0, none⟩), .int .i64 x_k.val, undef, undef, undef, undef, undef, undef, undef, undef, undef, undef, undef, undef, undef, undef, undef, undef, undef, undef, undef, undef, undef, undef, undef, undef, undef, undef, undef, undef, undef, undef, undef, undef, undef, undef, undef, undef, undef, undef, undef, undef, undef, undef, undef, undef, undef]), Cfg Tryz.prog 164 (loopAt Tryz.f164 0) t [(#[.int .i64 a0.lo.val, .int .i64 a0.hi.val], 33), (#[.int .i64 0, .int .i64 0], 33), (#[.int .i64 y_2.lo.val, .int .i64 y_2.hi.val], 33)] (RvH [] (vIv (F_spec_l06Over_L0 fu a1 a0 x_k y_2))) := by
 intro fu
 induction fu with
 | zero => intro a1 a0 x_k y_2 hm; exact absurd hm (Nat.not_lt_zero _)
 | succ fu ih =>
  intro a1 a0 x_k y_2 hm t ht
  refine Cfg.round E_ok mixed Tryz.func164 ht fun g => ?_
  unfold F_spec_l06Over_L0
  refine Run.q (e := vI) (gv := vIv) (ok_spec_QuarterOf _) fun r8 hr8 => ?_
  refine Run.y (gv := vIv) (fun h9 => ?_) (fun h9 => ?_)
  ·refine Run.q (e := vIv) (gv := vIv) (ok_spec_TurnI _) fun r10 hr10 => ?_
   refine Run.q (e := vB) (gv := vIv) (ok_spec_OverlapI _ _) fun r11 hr11 => ?_
   refine Run.y (gv := vIv) (fun h12 => ?_) (fun h12 => ?_)
   ·exact Run.l (by kernel_rfl) (by kernel_rfl) (by kernel_rfl) (by kernel_rfl) (ih a1 a0 (w64 (x_k.val + 1)) y_2 (by have q1 := x_k.lo; first | exact Nat.lt_succ_self _ | (have q2 := spec_quarter_le a0.hi; have q3 := spec_quarter_ge a0.hi; simp only [w64_val, decide_eq_true_eq, decide_eq_false_iff_not, *] at *; omega)))
   ·refine Run.y (gv := vIv) (fun h13 => ?_) (fun h13 => ?_)
    ·refine Run.q (e := vIv) (gv := vIv) (ok_spec_Integer _) fun r14 hr14 => ?_
     refine Run.q (e := vIv) (gv := vIv) (ok_spec_HullI _ _) fun r15 hr15 => ?_
     exact Run.l (by kernel_rfl) (by kernel_rfl) (by kernel_rfl) (by kernel_rfl) (ih a1 a0 (w64 (x_k.val + 1)) r15 (by have q1 := x_k.lo; first | exact Nat.lt_succ_self _ | (have q2 := spec_quarter_le a0.hi; have q3 := spec_quarter_ge a0.hi; simp only [w64_val, decide_eq_true_eq, decide_eq_false_iff_not, *] at *; omega)))
    ·refine Run.y (gv := vIv) (fun h16 => ?_) (fun h16 => ?_)
     ·refine Run.q (e := vIv) (gv := vIv) (ok_spec_Integer _) fun r17 hr17 => ?_
      refine Run.q (e := vIv) (gv := vIv) (ok_spec_HullI _ _) fun r18 hr18 => ?_
      exact Run.l (by kernel_rfl) (by kernel_rfl) (by kernel_rfl) (by kernel_rfl) (ih a1 a0 (w64 (x_k.val + 1)) r18 (by have q1 := x_k.lo; first | exact Nat.lt_succ_self _ | (have q2 := spec_quarter_le a0.hi; have q3 := spec_quarter_ge a0.hi; simp only [w64_val, decide_eq_true_eq, decide_eq_false_iff_not, *] at *; omega)))
     ·exact Run.l (by kernel_rfl) (by kernel_rfl) (by kernel_rfl) (by kernel_rfl) (ih a1 a0 (w64 (x_k.val + 1)) y_2 (by have q1 := x_k.lo; first | exact Nat.lt_succ_self _ | (have q2 := spec_quarter_le a0.hi; have q3 := spec_quarter_ge a0.hi; simp only [w64_val, decide_eq_true_eq, decide_eq_false_iff_not, *] at *; omega)))
  ·exact Run.x 0

theorem ok_spec_l06Over (a0 : Iv) (a1 : I64) : Fun Tryz.prog 164 [] #[vIv a0, vI a1] (vIv (F_spec_l06Over a0 a1)) [] := by
 refine Fun.ofH 400 E_ok mixed Tryz.func164 (by kernel_rfl) (by kernel_rfl) ?_
 unfold F_spec_l06Over
 refine Run.q (e := vB) (gv := vIv) (ok_spec_l06Fits _) fun r1 hr1 => ?_
 refine Run.y (gv := vIv) (fun h2 => ?_) (fun h2 => ?_)
 ·refine Run.q (e := vIv) (gv := vIv) (ok_spec_l06Ring) fun r3 hr3 => ?_
  exact Run.x 0
 ·refine Run.q (e := vIv) (gv := vIv) (ok_spec_l06At _ _) fun r4 hr4 => ?_
  refine Run.q (e := vIv) (gv := vIv) (ok_spec_l06At _ _) fun r5 hr5 => ?_
  refine Run.q (e := vIv) (gv := vIv) (ok_spec_HullI _ _) fun r6 hr6 => ?_
  refine Run.q (e := vI) (gv := vIv) (ok_spec_QuarterOf _) fun r7 hr7 => ?_
  exact Run.l (by kernel_rfl) (by kernel_rfl) (by kernel_rfl) (by kernel_rfl) (ok_spec_l06Over_L0 ((2000 - (w64 (r7.val - 1)).val).toNat + 1) a1 a0 (w64 (r7.val - 1)) r6 (by exact Nat.lt_succ_self _))

theorem ok_spec_CosI (a0 : Iv) : Fun Tryz.prog 105 [] #[vIv a0] (vIv (F_spec_CosI a0)) [] := by
 refine Fun.ofH 400 E_ok mixed Tryz.func105 (by kernel_rfl) (by kernel_rfl) ?_
 unfold F_spec_CosI
 refine Run.q (e := vIv) (gv := vIv) (ok_spec_l06Over _ _) fun r1 _ => ?_
 exact Run.x 0

theorem ok_spec_SinI (a0 : Iv) : Fun Tryz.prog 106 [] #[vIv a0] (vIv (F_spec_SinI a0)) [] := by
 refine Fun.ofH 400 E_ok mixed Tryz.func106 (by kernel_rfl) (by kernel_rfl) ?_
 unfold F_spec_SinI
 refine Run.q (e := vIv) (gv := vIv) (ok_spec_l06Over _ _) fun r1 _ => ?_
 exact Run.x 0

theorem ok_spec_l15Vec (a0 : Pt) : Fun Tryz.prog 45 [] #[vPt a0] (vVc (F_spec_l15Vec a0)) [] := by
 refine Fun.ofH 400 E_ok mixed Tryz.func45 (by kernel_rfl) (by kernel_rfl) ?_
 unfold F_spec_l15Vec
 refine Run.q (e := vIv) (gv := vVc) (ok_spec_RadiansOf _) fun r1 _ => ?_
 refine Run.q (e := vIv) (gv := vVc) (ok_spec_RadiansOf _) fun r2 _ => ?_
 refine Run.q (e := vIv) (gv := vVc) (ok_spec_CosI _) fun r3 _ => ?_
 refine Run.q (e := vIv) (gv := vVc) (ok_spec_CosI _) fun r4 _ => ?_
 refine Run.q (e := vIv) (gv := vVc) (ok_spec_MulI _ _) fun r5 _ => ?_
 refine Run.q (e := vIv) (gv := vVc) (ok_spec_SinI _) fun r6 _ => ?_
 refine Run.q (e := vIv) (gv := vVc) (ok_spec_MulI _ _) fun r7 _ => ?_
 refine Run.q (e := vIv) (gv := vVc) (ok_spec_SinI _) fun r8 _ => ?_
 exact Run.x 0

theorem ok_spec_CrossV (a0 : Vc) (a1 : Vc) : Fun Tryz.prog 102 [] #[vVc a0, vVc a1] (vVc (F_spec_CrossV a0 a1)) [] := by
 refine Fun.ofH 400 E_ok mixed Tryz.func102 (by kernel_rfl) (by kernel_rfl) ?_
 unfold F_spec_CrossV
 refine Run.q (e := vIv) (gv := vVc) (ok_spec_MulI _ _) fun r1 _ => ?_
 refine Run.q (e := vIv) (gv := vVc) (ok_spec_MulI _ _) fun r2 _ => ?_
 refine Run.q (e := vIv) (gv := vVc) (ok_spec_SubI _ _) fun r3 _ => ?_
 refine Run.q (e := vIv) (gv := vVc) (ok_spec_MulI _ _) fun r4 _ => ?_
 refine Run.q (e := vIv) (gv := vVc) (ok_spec_MulI _ _) fun r5 _ => ?_
 refine Run.q (e := vIv) (gv := vVc) (ok_spec_SubI _ _) fun r6 _ => ?_
 refine Run.q (e := vIv) (gv := vVc) (ok_spec_MulI _ _) fun r7 _ => ?_
 refine Run.q (e := vIv) (gv := vVc) (ok_spec_MulI _ _) fun r8 _ => ?_
 refine Run.q (e := vIv) (gv := vVc) (ok_spec_SubI _ _) fun r9 _ => ?_
 exact Run.x 0

theorem ok_spec_IsWhole (a0 : Iv) : Fun Tryz.prog 99 [] #[vIv a0] (vB (F_spec_IsWhole a0)) [] := by
 refine Fun.ofH 400 E_ok mixed Tryz.func99 (by kernel_rfl) (by kernel_rfl) ?_
 unfold F_spec_IsWhole
 refine Run.q (e := vB) (gv := vB) (ok_spec_l04Ok _) fun r1 _ => ?_
 exact Run.x 0

theorem ok_spec_AbsI (a0 : Iv) : Fun Tryz.prog 214 [] #[vIv a0] (vIv (F_spec_AbsI a0)) [] := by
 refine Fun.ofH 400 E_ok mixed Tryz.func214 (by kernel_rfl) (by kernel_rfl) ?_
 unfold F_spec_AbsI
 refine Run.q (e := vB) (gv := vIv) (ok_spec_l04Ok _) fun r1 _ => ?_
 refine Run.y (gv := vIv) (fun _ => ?_) (fun _ => ?_)
 ·refine Run.q (e := vIv) (gv := vIv) (ok_spec_l04Whole) fun r2 _ => ?_
  exact Run.x 0
 ·refine Run.q (e := vT_I_I) (gv := vIv) (ok_spec_l04Ends _) fun r3 _ => ?_
  refine Run.q (e := vIv) (gv := vIv) (ok_spec_l04Make _ _) fun r4 _ => ?_
  exact Run.x 0

theorem ok_spec_l10Ends (a0 : Iv) : Fun Tryz.prog 157 [] #[vIv a0] (vT_I_I (F_spec_l10Ends a0)) [] := by
 refine Fun.ofH 400 E_ok mixed Tryz.func157 (by kernel_rfl) (by kernel_rfl) ?_
 unfold F_spec_l10Ends
 refine Run.q (e := vIv) (gv := vT_I_I) (ok_spec_AbsI _) fun r1 _ => ?_
 exact Run.x 0

theorem ok_spec_l10Sum (a0 : I64) (a1 : I64) (a2 : I64) : Fun Tryz.prog 159 [] #[vI a0, vI a1, vI a2] (vWd (F_spec_l10Sum a0 a1 a2)) [] := by
 refine Fun.ofH 400 E_ok mixed Tryz.func159 (by kernel_rfl) (by kernel_rfl) ?_
 unfold F_spec_l10Sum
 refine Run.q (e := vWd) (gv := vWd) (ok_spec_l02Mul _ _) fun r1 _ => ?_
 refine Run.q (e := vWd) (gv := vWd) (ok_spec_l02Mul _ _) fun r2 _ => ?_
 refine Run.q (e := vWd) (gv := vWd) (ok_spec_l02Plus _ _) fun r3 _ => ?_
 refine Run.q (e := vWd) (gv := vWd) (ok_spec_l02Mul _ _) fun r4 _ => ?_
 refine Run.q (e := vWd) (gv := vWd) (ok_spec_l02Plus _ _) fun r5 _ => ?_
 exact Run.x 0

theorem ok_spec_l02Root_L0 : ∀ (fu : Nat) (a0 : Wd) (x_out : U64) (x_i : I64) (q0 : x_i.val ≤ 63) (hm : (x_i.val + 1).toNat < fu) (t : Array Value) (ht : maskA t [0, 5, 6, 7, 8, 9, 10, 11, 12, 13, 14, 15, 16, 17, 18, 19, 20, 21, 22, 23, 24, 25, 26, 27, 28, 29, 30, 31, 32, 33, 34, 35, 36, 37, 38, 39, 40, 41, 42] = #[undef, .pointer (some ⟨0, 0, none⟩), .int .u64 0, .int .u64 x_out.val, .int .i64 x_i.val, undef, undef, undef, undef, undef, undef, undef, undef, undef, undef, undef, undef, undef, undef, undef, undef, undef, undef, undef, undef, undef, undef, undef, undef, undef, undef, undef, undef, undef, undef, undef, undef, undef, undef, undef, undef, undef, undef]), Cfg Tryz.prog 158 (loopAt Tryz.f158 0) t [(#[.int .i64 a0.hi.val, .int .u64 a0.lo.val], 113)] (RvH [] (vU (F_spec_l02Root_L0 fu a0 x_out x_i))) := by
 intro fu
 induction fu with
 | zero => intro a0 x_out x_i q0 hm; exact absurd hm (Nat.not_lt_zero _)
 | succ fu ih =>
  intro a0 x_out x_i q0 hm t ht
  refine Cfg.round E_ok mixed Tryz.func158 ht fun g => ?_
  unfold F_spec_l02Root_L0
  refine Run.y (gv := vU) (fun h1 => ?_) (fun h1 => ?_)
  ·refine Run.k (c := (decide (0 ≤ (wu64 x_i.val).val))) (by kernel_rfl) (by simp only [w64_val, wu64_val, c64_val, cu64_val, decide_eq_true_eq] at *; omega) ?_
   refine Run.q (e := vT_U_U) (gv := vU) (ok_spec_l02Times _ _) fun r2 hr2 => ?_
   refine Run.y (gv := vU) (fun h3 => ?_) (fun h3 => ?_)
   ·refine Run.z [true, true, true, true, true, true, true, true] ?_
    exact Run.l (by kernel_rfl) (by kernel_rfl) (by kernel_rfl) (by kernel_rfl) (ih a0 (ior .u64 x_out.val (ishl .u64 1 (wu64 x_i.val).val).val) (w64 (x_i.val - 1)) (by have q1 := x_i.lo; simp only [w64_val, wu64_val, c64_val, cu64_val, decide_eq_true_eq] at *; omega) (by have q1 := x_i.lo; simp only [w64_val, wu64_val, c64_val, cu64_val, decide_eq_true_eq] at *; omega))
   ·refine Run.z [false, false, false, false, false] ?_
    refine Run.y (gv := vU) (fun h4 => ?_) (fun h4 => ?_)
    ·refine Run.z [true, true, true, false, true, false] ?_
     refine Run.y (gv := vU) (fun h5 => ?_) (fun h5 => ?_)
     ·exact Run.l (by kernel_rfl) (by kernel_rfl) (by kernel_rfl) (by kernel_rfl) (ih a0 (ior .u64 x_out.val (ishl .u64 1 (wu64 x_i.val).val).val) (w64 (x_i.val - 1)) (by have q1 := x_i.lo; simp only [w64_val, wu64_val, c64_val, cu64_val, decide_eq_true_eq] at *; omega) (by have q1 := x_i.lo; simp only [w64_val, wu64_val, c64_val, cu64_val, decide_eq_true_eq] at *; omega))
     ·exact Run.l (by kernel_rfl) (by kernel_rfl) (by kernel_rfl) (by kernel_rfl) (ih a0 x_out (w64 (x_i.val - 1)) (by have q1 := x_i.lo; simp only [w64_val, wu64_val, c64_val, cu64_val, decide_eq_true_eq] at *; omega) (by have q1 := x_i.lo; simp only [w64_val, wu64_val, c64_val, cu64_val, decide_eq_true_eq] at *; omega))
    ·refine Run.z [false, false, false, false, false, false, false] ?_
     exact Run.l (by kernel_rfl) (by kernel_rfl) (by kernel_rfl) (by kernel_rfl) (ih a0 x_out (w64 (x_i.val - 1)) (by have q1 := x_i.lo; simp only [w64_val, wu64_val, c64_val, cu64_val, decide_eq_true_eq] at *; omega) (by have q1 := x_i.lo; simp only [w64_val, wu64_val, c64_val, cu64_val, decide_eq_true_eq] at *; omega))
  ·exact Run.x 0

theorem ok_spec_l02Root (a0 : Wd) : Fun Tryz.prog 158 [] #[vWd a0] (vU (F_spec_l02Root a0)) [] := by
 refine Fun.ofH 400 E_ok mixed Tryz.func158 (by kernel_rfl) (by kernel_rfl) ?_
 unfold F_spec_l02Root
 exact Run.l (by kernel_rfl) (by kernel_rfl) (by kernel_rfl) (by kernel_rfl) (ok_spec_l02Root_L0 65 a0 (cu64 0) (c64 63) (by decide) (by decide))

theorem ok_spec_NormV (a0 : Vc) : Fun Tryz.prog 101 [] #[vVc a0] (vIv (F_spec_NormV a0)) [] := by
 refine Fun.ofH 400 E_ok mixed Tryz.func101 (by kernel_rfl) (by kernel_rfl) ?_
 unfold F_spec_NormV
 refine Run.q (e := vB) (gv := vIv) (ok_spec_IsWhole _) fun r1 _ => ?_
 refine Run.y (gv := vIv) (fun _ => ?_) (fun _ => ?_)
 ·refine Run.z [true, true, true, true, true, true, true, true] ?_
  refine Run.q (e := vIv) (gv := vIv) (ok_spec_Whole) fun r2 _ => ?_
  exact Run.x 0
 ·refine Run.z [false, false] ?_
  refine Run.q (e := vB) (gv := vIv) (ok_spec_IsWhole _) fun r3 _ => ?_
  refine Run.z [false] ?_
  refine Run.y (gv := vIv) (fun _ => ?_) (fun _ => ?_)
  ·refine Run.z [true, true, true, true] ?_
   refine Run.q (e := vIv) (gv := vIv) (ok_spec_Whole) fun r4 _ => ?_
   exact Run.x 0
  ·refine Run.z [false, false] ?_
   refine Run.q (e := vB) (gv := vIv) (ok_spec_IsWhole _) fun r5 _ => ?_
   refine Run.z [false] ?_
   refine Run.y (gv := vIv) (fun _ => ?_) (fun _ => ?_)
   ·refine Run.q (e := vIv) (gv := vIv) (ok_spec_Whole) fun r6 _ => ?_
    exact Run.x 0
   ·refine Run.q (e := vT_I_I) (gv := vIv) (ok_spec_l10Ends _) fun r7 _ => ?_
    refine Run.q (e := vT_I_I) (gv := vIv) (ok_spec_l10Ends _) fun r8 _ => ?_
    refine Run.q (e := vT_I_I) (gv := vIv) (ok_spec_l10Ends _) fun r9 _ => ?_
    refine Run.q (e := vWd) (gv := vIv) (ok_spec_l10Sum _ _ _) fun r10 _ => ?_
    refine Run.q (e := vU) (gv := vIv) (ok_spec_l02Root _) fun r11 _ => ?_
    refine Run.q (e := vWd) (gv := vIv) (ok_spec_l10Sum _ _ _) fun r12 _ => ?_
    refine Run.q (e := vU) (gv := vIv) (ok_spec_l02Root _) fun r13 _ => ?_
    refine Run.q (e := vWd) (gv := vIv) (ok_spec_l02Mul _ _) fun r14 _ => ?_
    refine Run.y (gv := vIv) (fun _ => ?_) (fun _ => ?_)
    ·refine Run.y (gv := vIv) (fun _ => ?_) (fun _ => ?_)
     ·refine Run.q (e := vIv) (gv := vIv) (ok_spec_Whole) fun r15 _ => ?_
      exact Run.x 0
     ·exact Run.x 0
    ·refine Run.y (gv := vIv) (fun _ => ?_) (fun _ => ?_)
     ·refine Run.q (e := vIv) (gv := vIv) (ok_spec_Whole) fun r16 _ => ?_
      exact Run.x 0
     ·exact Run.x 0

theorem ok_spec_DotV (a0 : Vc) (a1 : Vc) : Fun Tryz.prog 103 [] #[vVc a0, vVc a1] (vIv (F_spec_DotV a0 a1)) [] := by
 refine Fun.ofH 400 E_ok mixed Tryz.func103 (by kernel_rfl) (by kernel_rfl) ?_
 unfold F_spec_DotV
 refine Run.q (e := vIv) (gv := vIv) (ok_spec_MulI _ _) fun r1 _ => ?_
 refine Run.q (e := vIv) (gv := vIv) (ok_spec_MulI _ _) fun r2 _ => ?_
 refine Run.q (e := vIv) (gv := vIv) (ok_spec_AddI _ _) fun r3 _ => ?_
 refine Run.q (e := vIv) (gv := vIv) (ok_spec_MulI _ _) fun r4 _ => ?_
 refine Run.q (e := vIv) (gv := vIv) (ok_spec_AddI _ _) fun r5 _ => ?_
 exact Run.x 0

theorem ok_spec_l07Fix (a0 : I64) : Fun Tryz.prog 209 [] #[vI a0] (vB (F_spec_l07Fix a0)) [] := by
 refine Fun.ofH 400 E_ok mixed Tryz.func209 (by kernel_rfl) (by kernel_rfl) ?_
 unfold F_spec_l07Fix
 refine Run.y (gv := vB) (fun _ => ?_) (fun _ => ?_)
 ·refine Run.z [true, true] ?_
  exact Run.x 0
 ·refine Run.z [false, false] ?_
  exact Run.x 0

theorem ok_spec_l07Quarter : Fun Tryz.prog 244 [] #[] (vIv (F_spec_l07Quarter)) [] := by
 refine Fun.ofH 400 E_ok mixed Tryz.func244 (by kernel_rfl) (by kernel_rfl) ?_
 unfold F_spec_l07Quarter
 refine Run.q (e := vIv) (gv := vIv) (ok_spec_l05Turn _ (by simp only [w64_val, wu64_val, c64_val, cu64_val, decide_eq_true_eq, decide_eq_false_iff_not, cond_true, cond_false] at *; omega)) fun r1 hr1 => ?_
 refine Run.q (e := vIv) (gv := vIv) (ok_spec_l05Turn _ (by simp only [w64_val, wu64_val, c64_val, cu64_val, decide_eq_true_eq, decide_eq_false_iff_not, cond_true, cond_false] at *; omega)) fun r2 hr2 => ?_
 exact Run.x 0

theorem ok_spec_SqrtFloor (a0 : I64) (a1 : I64) : Fun Tryz.prog 286 [] #[vI a0, vI a1] (vT_I_B (F_spec_SqrtFloor a0 a1)) [] := by
 refine Fun.ofH 400 E_ok mixed Tryz.func286 (by kernel_rfl) (by kernel_rfl) ?_
 unfold F_spec_SqrtFloor
 refine Run.y (gv := vT_I_B) (fun _ => ?_) (fun _ => ?_)
 ·refine Run.z [true, true, true] ?_
  exact Run.x 0
 ·refine Run.z [false, false] ?_
  refine Run.y (gv := vT_I_B) (fun _ => ?_) (fun _ => ?_)
  ·exact Run.x 0
  ·refine Run.q (e := vWd) (gv := vT_I_B) (ok_spec_l02Mul _ _) fun r1 _ => ?_
   refine Run.q (e := vU) (gv := vT_I_B) (ok_spec_l02Root _) fun r2 _ => ?_
   exact Run.x 0

theorem ok_spec_l03SqrtDown (a0 : I64) : Fun Tryz.prog 284 [] #[vI a0] (vT_I_B (F_spec_l03SqrtDown a0)) [] := by
 refine Fun.ofH 400 E_ok mixed Tryz.func284 (by kernel_rfl) (by kernel_rfl) ?_
 unfold F_spec_l03SqrtDown
 refine Run.q (e := vB) (gv := vT_I_B) (ok_spec_l00In _ _ _) fun r1 _ => ?_
 refine Run.y (gv := vT_I_B) (fun _ => ?_) (fun _ => ?_)
 ·exact Run.x 0
 ·refine Run.q (e := vT_I_B) (gv := vT_I_B) (ok_spec_SqrtFloor _ _) fun r2 _ => ?_
  exact Run.x 0

theorem ok_spec_l03SqrtUp (a0 : I64) : Fun Tryz.prog 285 [] #[vI a0] (vT_I_B (F_spec_l03SqrtUp a0)) [] := by
 refine Fun.ofH 400 E_ok mixed Tryz.func285 (by kernel_rfl) (by kernel_rfl) ?_
 unfold F_spec_l03SqrtUp
 refine Run.q (e := vT_I_B) (gv := vT_I_B) (ok_spec_l03SqrtDown _) fun r1 _ => ?_
 refine Run.y (gv := vT_I_B) (fun _ => ?_) (fun _ => ?_)
 ·exact Run.x 0
 ·refine Run.q (e := vT_I_B) (gv := vT_I_B) (ok_spec_MulFloor _ _ _) fun r2 _ => ?_
  refine Run.y (gv := vT_I_B) (fun _ => ?_) (fun _ => ?_)
  ·refine Run.z [true, true, true, true, true, true] ?_
   exact Run.x 0
  ·refine Run.z [false, false, false, false, false] ?_
   refine Run.y (gv := vT_I_B) (fun _ => ?_) (fun _ => ?_)
   ·exact Run.x 0
   ·exact Run.x 0

theorem ok_spec_SqrtI (a0 : Iv) : Fun Tryz.prog 281 [] #[vIv a0] (vIv (F_spec_SqrtI a0)) [] := by
 refine Fun.ofH 400 E_ok mixed Tryz.func281 (by kernel_rfl) (by kernel_rfl) ?_
 unfold F_spec_SqrtI
 refine Run.q (e := vB) (gv := vIv) (ok_spec_l04Ok _) fun r1 _ => ?_
 refine Run.y (gv := vIv) (fun _ => ?_) (fun _ => ?_)
 ·refine Run.z [true, true, true, true] ?_
  refine Run.q (e := vIv) (gv := vIv) (ok_spec_l04Whole) fun r2 _ => ?_
  exact Run.x 0
 ·refine Run.z [false, false, false] ?_
  refine Run.y (gv := vIv) (fun _ => ?_) (fun _ => ?_)
  ·refine Run.q (e := vIv) (gv := vIv) (ok_spec_l04Whole) fun r3 _ => ?_
   exact Run.x 0
  ·refine Run.q (e := vT_I_B) (gv := vIv) (ok_spec_l03SqrtDown _) fun r4 _ => ?_
   refine Run.q (e := vT_I_B) (gv := vIv) (ok_spec_l03SqrtUp _) fun r5 _ => ?_
   refine Run.q (e := vIv) (gv := vIv) (ok_spec_l04Make _ _) fun r6 _ => ?_
   exact Run.x 0

theorem ok_spec_l07Halve (a0 : Iv) : Fun Tryz.prog 278 [] #[vIv a0] (vIv (F_spec_l07Halve a0)) [] := by
 refine Fun.ofH 400 E_ok mixed Tryz.func278 (by kernel_rfl) (by kernel_rfl) ?_
 unfold F_spec_l07Halve
 refine Run.q (e := vIv) (gv := vIv) (ok_spec_Integer _) fun r1 _ => ?_
 refine Run.q (e := vIv) (gv := vIv) (ok_spec_Integer _) fun r2 _ => ?_
 refine Run.q (e := vIv) (gv := vIv) (ok_spec_SqrI _) fun r3 _ => ?_
 refine Run.q (e := vIv) (gv := vIv) (ok_spec_AddI _ _) fun r4 _ => ?_
 refine Run.q (e := vIv) (gv := vIv) (ok_spec_SqrtI _) fun r5 _ => ?_
 refine Run.q (e := vIv) (gv := vIv) (ok_spec_AddI _ _) fun r6 _ => ?_
 refine Run.q (e := vIv) (gv := vIv) (ok_spec_DivI _ _) fun r7 _ => ?_
 exact Run.x 0

theorem ok_spec_l03Floor (a0 : I64) (a1 : I64) : Fun Tryz.prog 282 [] #[vI a0, vI a1] (vT_I_B (F_spec_l03Floor a0 a1)) [] := by
 refine Fun.ofH 400 E_ok mixed Tryz.func282 (by kernel_rfl) (by kernel_rfl) ?_
 unfold F_spec_l03Floor
 refine Run.y (gv := vT_I_B) (fun _ => ?_) (fun _ => ?_)
 ·exact Run.x 0
 ·refine Run.q (e := vT_I_B) (gv := vT_I_B) (ok_spec_MulDivFloor _ _ _) fun r1 _ => ?_
  refine Run.q (e := vT_I_B) (gv := vT_I_B) (ok_spec_l03End _ _) fun r2 _ => ?_
  exact Run.x 0

theorem ok_spec_l03Ceil (a0 : I64) (a1 : I64) : Fun Tryz.prog 283 [] #[vI a0, vI a1] (vT_I_B (F_spec_l03Ceil a0 a1)) [] := by
 refine Fun.ofH 400 E_ok mixed Tryz.func283 (by kernel_rfl) (by kernel_rfl) ?_
 unfold F_spec_l03Ceil
 refine Run.y (gv := vT_I_B) (fun _ => ?_) (fun _ => ?_)
 ·exact Run.x 0
 ·refine Run.q (e := vT_I_B) (gv := vT_I_B) (ok_spec_MulDivFloor _ _ _) fun r1 _ => ?_
  refine Run.y (gv := vT_I_B) (fun _ => ?_) (fun _ => ?_)
  ·exact Run.x 0
  ·refine Run.y (gv := vT_I_B) (fun _ => ?_) (fun _ => ?_)
   ·refine Run.q (e := vT_I_B) (gv := vT_I_B) (ok_spec_l03End _ _) fun r2 _ => ?_
    exact Run.x 0
   ·refine Run.q (e := vT_I_B) (gv := vT_I_B) (ok_spec_l03End _ _) fun r3 _ => ?_
    exact Run.x 0

theorem ok_spec_Quotient (a0 : I64) (a1 : I64) : Fun Tryz.prog 280 [] #[vI a0, vI a1] (vIv (F_spec_Quotient a0 a1)) [] := by
 refine Fun.ofH 400 E_ok mixed Tryz.func280 (by kernel_rfl) (by kernel_rfl) ?_
 unfold F_spec_Quotient
 refine Run.y (gv := vIv) (fun _ => ?_) (fun _ => ?_)
 ·refine Run.y (gv := vIv) (fun _ => ?_) (fun _ => ?_)
  ·refine Run.z [true, true, true] ?_
   refine Run.q (e := vIv) (gv := vIv) (ok_spec_l04Whole) fun r1 _ => ?_
   exact Run.x 0
  ·refine Run.z [false, false] ?_
   refine Run.y (gv := vIv) (fun _ => ?_) (fun _ => ?_)
   ·refine Run.q (e := vIv) (gv := vIv) (ok_spec_l04Whole) fun r2 _ => ?_
    exact Run.x 0
   ·refine Run.q (e := vT_I_B) (gv := vIv) (ok_spec_l03Floor _ _) fun r3 _ => ?_
    refine Run.q (e := vT_I_B) (gv := vIv) (ok_spec_l03Ceil _ _) fun r4 _ => ?_
    refine Run.y (gv := vIv) (fun _ => ?_) (fun _ => ?_)
    ·refine Run.z [true, true, true] ?_
     refine Run.q (e := vIv) (gv := vIv) (ok_spec_l04Whole) fun r5 _ => ?_
     exact Run.x 0
    ·refine Run.z [false, false] ?_
     refine Run.y (gv := vIv) (fun _ => ?_) (fun _ => ?_)
     ·refine Run.q (e := vIv) (gv := vIv) (ok_spec_l04Whole) fun r6 _ => ?_
      exact Run.x 0
     ·refine Run.q (e := vIv) (gv := vIv) (ok_spec_l04Make _ _) fun r7 _ => ?_
      exact Run.x 0
 ·refine Run.q (e := vT_I_B) (gv := vIv) (ok_spec_l03Floor _ _) fun r8 _ => ?_
  refine Run.q (e := vT_I_B) (gv := vIv) (ok_spec_l03Ceil _ _) fun r9 _ => ?_
  refine Run.y (gv := vIv) (fun _ => ?_) (fun _ => ?_)
  ·refine Run.z [true, true, true] ?_
   refine Run.q (e := vIv) (gv := vIv) (ok_spec_l04Whole) fun r10 _ => ?_
   exact Run.x 0
  ·refine Run.z [false, false] ?_
   refine Run.y (gv := vIv) (fun _ => ?_) (fun _ => ?_)
   ·refine Run.q (e := vIv) (gv := vIv) (ok_spec_l04Whole) fun r11 _ => ?_
    exact Run.x 0
   ·refine Run.q (e := vIv) (gv := vIv) (ok_spec_l04Make _ _) fun r12 _ => ?_
    exact Run.x 0

theorem ok_spec_ArcSeries (a0 : Iv) : Fun Tryz.prog 277 [] #[vIv a0] (vIv (F_spec_ArcSeries a0)) [] := by
 refine Fun.ofH 400 E_ok mixed Tryz.func277 (by kernel_rfl) (by kernel_rfl) ?_
 unfold F_spec_ArcSeries
 refine Run.q (e := vB) (gv := vIv) (ok_spec_InsideI _ _) fun r1 _ => ?_
 refine Run.y (gv := vIv) (fun _ => ?_) (fun _ => ?_)
 ·refine Run.q (e := vIv) (gv := vIv) (ok_spec_Whole) fun r2 _ => ?_
  exact Run.x 0
 ·refine Run.q (e := vIv) (gv := vIv) (ok_spec_SqrI _) fun r3 _ => ?_
  refine Run.q (e := vIv) (gv := vIv) (ok_spec_Quotient _ _) fun r4 _ => ?_
  refine Run.u 400 E_ok mixed Tryz.func277 ?_
  refine Run.z [true] ?_
  refine Run.q (e := vIv) (gv := vIv) (ok_spec_Quotient _ _) fun r5 _ => ?_
  refine Run.q (e := vIv) (gv := vIv) (ok_spec_MulI _ _) fun r6 _ => ?_
  refine Run.q (e := vIv) (gv := vIv) (ok_spec_SubI _ _) fun r7 _ => ?_
  refine Run.u 400 E_ok mixed Tryz.func277 ?_
  refine Run.z [true] ?_
  refine Run.q (e := vIv) (gv := vIv) (ok_spec_Quotient _ _) fun r8 _ => ?_
  refine Run.q (e := vIv) (gv := vIv) (ok_spec_MulI _ _) fun r9 _ => ?_
  refine Run.q (e := vIv) (gv := vIv) (ok_spec_SubI _ _) fun r10 _ => ?_
  refine Run.u 400 E_ok mixed Tryz.func277 ?_
  refine Run.z [true] ?_
  refine Run.q (e := vIv) (gv := vIv) (ok_spec_Quotient _ _) fun r11 _ => ?_
  refine Run.q (e := vIv) (gv := vIv) (ok_spec_MulI _ _) fun r12 _ => ?_
  refine Run.q (e := vIv) (gv := vIv) (ok_spec_SubI _ _) fun r13 _ => ?_
  refine Run.u 400 E_ok mixed Tryz.func277 ?_
  refine Run.z [true] ?_
  refine Run.q (e := vIv) (gv := vIv) (ok_spec_Quotient _ _) fun r14 _ => ?_
  refine Run.q (e := vIv) (gv := vIv) (ok_spec_MulI _ _) fun r15 _ => ?_
  refine Run.q (e := vIv) (gv := vIv) (ok_spec_SubI _ _) fun r16 _ => ?_
  refine Run.u 400 E_ok mixed Tryz.func277 ?_
  refine Run.z [true] ?_
  refine Run.q (e := vIv) (gv := vIv) (ok_spec_Quotient _ _) fun r17 _ => ?_
  refine Run.q (e := vIv) (gv := vIv) (ok_spec_MulI _ _) fun r18 _ => ?_
  refine Run.q (e := vIv) (gv := vIv) (ok_spec_SubI _ _) fun r19 _ => ?_
  refine Run.u 400 E_ok mixed Tryz.func277 ?_
  refine Run.z [true] ?_
  refine Run.q (e := vIv) (gv := vIv) (ok_spec_Quotient _ _) fun r20 _ => ?_
  refine Run.q (e := vIv) (gv := vIv) (ok_spec_MulI _ _) fun r21 _ => ?_
  refine Run.q (e := vIv) (gv := vIv) (ok_spec_SubI _ _) fun r22 _ => ?_
  refine Run.u 400 E_ok mixed Tryz.func277 ?_
  refine Run.z [true] ?_
  refine Run.q (e := vIv) (gv := vIv) (ok_spec_Quotient _ _) fun r23 _ => ?_
  refine Run.q (e := vIv) (gv := vIv) (ok_spec_MulI _ _) fun r24 _ => ?_
  refine Run.q (e := vIv) (gv := vIv) (ok_spec_SubI _ _) fun r25 _ => ?_
  refine Run.u 400 E_ok mixed Tryz.func277 ?_
  refine Run.z [true] ?_
  refine Run.q (e := vIv) (gv := vIv) (ok_spec_Quotient _ _) fun r26 _ => ?_
  refine Run.q (e := vIv) (gv := vIv) (ok_spec_MulI _ _) fun r27 _ => ?_
  refine Run.q (e := vIv) (gv := vIv) (ok_spec_SubI _ _) fun r28 _ => ?_
  refine Run.u 400 E_ok mixed Tryz.func277 ?_
  refine Run.z [true] ?_
  refine Run.q (e := vIv) (gv := vIv) (ok_spec_Quotient _ _) fun r29 _ => ?_
  refine Run.q (e := vIv) (gv := vIv) (ok_spec_MulI _ _) fun r30 _ => ?_
  refine Run.q (e := vIv) (gv := vIv) (ok_spec_SubI _ _) fun r31 _ => ?_
  refine Run.u 400 E_ok mixed Tryz.func277 ?_
  refine Run.z [true] ?_
  refine Run.q (e := vIv) (gv := vIv) (ok_spec_Quotient _ _) fun r32 _ => ?_
  refine Run.q (e := vIv) (gv := vIv) (ok_spec_MulI _ _) fun r33 _ => ?_
  refine Run.q (e := vIv) (gv := vIv) (ok_spec_SubI _ _) fun r34 _ => ?_
  refine Run.u 400 E_ok mixed Tryz.func277 ?_
  refine Run.z [false] ?_
  refine Run.q (e := vIv) (gv := vIv) (ok_spec_MulI _ _) fun r35 _ => ?_
  refine Run.q (e := vIv) (gv := vIv) (ok_spec_l06Tiny) fun r36 _ => ?_
  refine Run.q (e := vIv) (gv := vIv) (ok_spec_AddI _ _) fun r37 _ => ?_
  exact Run.x 0

theorem ok_spec_DoubleI (a0 : Iv) : Fun Tryz.prog 276 [] #[vIv a0] (vIv (F_spec_DoubleI a0)) [] := by
 refine Fun.ofH 400 E_ok mixed Tryz.func276 (by kernel_rfl) (by kernel_rfl) ?_
 unfold F_spec_DoubleI
 refine Run.q (e := vB) (gv := vIv) (ok_spec_l04Ok _) fun r1 _ => ?_
 refine Run.y (gv := vIv) (fun _ => ?_) (fun _ => ?_)
 ·refine Run.q (e := vIv) (gv := vIv) (ok_spec_l04Whole) fun r2 _ => ?_
  exact Run.x 0
 ·refine Run.q (e := vIv) (gv := vIv) (ok_spec_l04Make _ _) fun r3 _ => ?_
  exact Run.x 0

theorem ok_spec_l07Core (a0 : Iv) : Fun Tryz.prog 265 [] #[vIv a0] (vIv (F_spec_l07Core a0)) [] := by
 refine Fun.ofH 400 E_ok mixed Tryz.func265 (by kernel_rfl) (by kernel_rfl) ?_
 unfold F_spec_l07Core
 refine Run.q (e := vIv) (gv := vIv) (ok_spec_l07Halve _) fun r1 _ => ?_
 refine Run.q (e := vIv) (gv := vIv) (ok_spec_l07Halve _) fun r2 _ => ?_
 refine Run.q (e := vIv) (gv := vIv) (ok_spec_ArcSeries _) fun r3 _ => ?_
 refine Run.q (e := vIv) (gv := vIv) (ok_spec_DoubleI _) fun r4 _ => ?_
 refine Run.q (e := vIv) (gv := vIv) (ok_spec_DoubleI _) fun r5 _ => ?_
 exact Run.x 0

theorem ok_spec_AtanAt_r : ∀ (fu : Nat) (a0 : I64) (hm : min (0 - a0.val).toNat 1 < fu), Fun Tryz.prog 245 [] #[vI a0] (vIv (F_spec_AtanAt_r fu a0)) [] := by
 intro fu
 induction fu with
 | zero => intro a0 hm; exact absurd hm (Nat.not_lt_zero _)
 | succ fu ih =>
  intro a0 hm
  refine Fun.ofH 400 E_ok mixed Tryz.func245 (by kernel_rfl) (by kernel_rfl) ?_
  unfold F_spec_AtanAt_r
  unfold F_spec_AtanAt_b
  refine Run.q (e := vB) (gv := vIv) (ok_spec_l07Fix _) fun r1 hr1 => ?_
  refine Run.y (gv := vIv) (fun h2 => ?_) (fun h2 => ?_)
  ·refine Run.q (e := vIv) (gv := vIv) (ok_spec_l07Quarter) fun r3 hr3 => ?_
   exact Run.x 0
  ·refine Run.y (gv := vIv) (fun h4 => ?_) (fun h4 => ?_)
   ·refine Run.q (e := vIv) (gv := vIv) (ih (w64 (0 - a0.val)) (by rw [hr1] at h2; simp [F_spec_l07Fix, c64_val] at h2; simp only [w64_val, decide_eq_true_eq, decide_eq_false_iff_not] at *; omega)) fun r5 hr5 => ?_
    refine Run.q (e := vIv) (gv := vIv) (ok_spec_NegI _) fun r6 hr6 => ?_
    exact Run.x 0
   ·refine Run.y (gv := vIv) (fun h7 => ?_) (fun h7 => ?_)
    ·refine Run.q (e := vIv) (gv := vIv) (ok_spec_TurnI _) fun r8 hr8 => ?_
     refine Run.q (e := vIv) (gv := vIv) (ok_spec_Integer _) fun r9 hr9 => ?_
     refine Run.q (e := vIv) (gv := vIv) (ok_spec_l05At _) fun r10 hr10 => ?_
     refine Run.q (e := vIv) (gv := vIv) (ok_spec_DivI _ _) fun r11 hr11 => ?_
     refine Run.q (e := vIv) (gv := vIv) (ok_spec_l07Core _) fun r12 hr12 => ?_
     refine Run.q (e := vIv) (gv := vIv) (ok_spec_SubI _ _) fun r13 hr13 => ?_
     exact Run.x 0
    ·refine Run.q (e := vIv) (gv := vIv) (ok_spec_l05At _) fun r14 hr14 => ?_
     refine Run.q (e := vIv) (gv := vIv) (ok_spec_l07Core _) fun r15 hr15 => ?_
     exact Run.x 0
theorem ok_spec_AtanAt (a0 : I64) : Fun Tryz.prog 245 [] #[vI a0] (vIv (F_spec_AtanAt a0)) [] := ok_spec_AtanAt_r 2 a0 (by omega)

theorem ok_spec_AtanI (a0 : Iv) : Fun Tryz.prog 211 [] #[vIv a0] (vIv (F_spec_AtanI a0)) [] := by
 refine Fun.ofH 400 E_ok mixed Tryz.func211 (by kernel_rfl) (by kernel_rfl) ?_
 unfold F_spec_AtanI
 refine Run.q (e := vB) (gv := vIv) (ok_spec_IsWhole _) fun r1 _ => ?_
 refine Run.y (gv := vIv) (fun _ => ?_) (fun _ => ?_)
 ·refine Run.q (e := vIv) (gv := vIv) (ok_spec_l07Quarter) fun r2 _ => ?_
  exact Run.x 0
 ·refine Run.q (e := vIv) (gv := vIv) (ok_spec_AtanAt _) fun r3 _ => ?_
  refine Run.q (e := vIv) (gv := vIv) (ok_spec_AtanAt _) fun r4 _ => ?_
  refine Run.q (e := vIv) (gv := vIv) (ok_spec_HullI _ _) fun r5 _ => ?_
  exact Run.x 0

end Go.Proofs.YtbpkpmmmeneagaaGreat.Abs
