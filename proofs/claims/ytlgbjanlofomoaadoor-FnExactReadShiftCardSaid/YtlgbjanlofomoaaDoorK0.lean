/- The program's functions are these; part 0 (written by w.py). -/
import Derived.Test.YtlgbjanlofomoaaDoorE
import Derived.Test.YtlgbjanlofomoaaDoorF0
import Derived.Test.YtlgbjanlofomoaaDoorQpre
set_option linter.unusedVariables false
set_option linter.unusedSimpArgs false
namespace Go.Proofs.YtlgbjanlofomoaaDoor.Abs
open Go Go.RowKit

theorem ok_spec_l00In (a0 : I64) (a1 : I64) (a2 : I64) : Fun Tryd.prog 19 [] #[vI a0, vI a1, vI a2] (vB (F_spec_l00In a0 a1 a2)) [] := by
 refine Fun.ofH 400 E_ok mixed Tryd.func19 (by kernel_rfl) (by kernel_rfl) ?_
 unfold F_spec_l00In
 refine Run.y (gv := vB) (fun _ => ?_) (fun _ => ?_)
 ·refine Run.z [true, true, true] ?_
  exact Run.x 0
 ·refine Run.z [false, false, false] ?_
  exact Run.x 0

theorem ok_spec_l23Ok__pSf (b0 : Sf) : Fun Tryd.prog 11 [(#[.int .i64 b0.tx.val, .int .i64 b0.ty.val, .int .i64 b0.tz.val, .int .i64 b0.rx.val, .int .i64 b0.ry.val, .int .i64 b0.rz.val, .int .i64 b0.sc.val], 25)] #[.pointer (some ⟨0, 0, none⟩)] (vB (F_spec_l23Ok__pSf b0)) [(#[.int .i64 b0.tx.val, .int .i64 b0.ty.val, .int .i64 b0.tz.val, .int .i64 b0.rx.val, .int .i64 b0.ry.val, .int .i64 b0.rz.val, .int .i64 b0.sc.val], 25)] := by
 refine Fun.ofH 400 E_ok mixed Tryd.func11 (by kernel_rfl) (by kernel_rfl) ?_
 unfold F_spec_l23Ok__pSf
 refine Run.u 400 E_ok mixed Tryd.func11 ?_
 refine Run.z [true, true] ?_
 refine Run.q (e := vB) (gv := vB) (ok_spec_l00In _ _ _) fun r1 _ => ?_
 refine Run.y (gv := vB) (fun _ => ?_) (fun _ => ?_)
 ·refine Run.z [true, true, true, true, true, true, true] ?_
  exact Run.x 1
 ·refine Run.z [false, false, true, false, false] ?_
  refine Run.q (e := vB) (gv := vB) (ok_spec_l00In _ _ _) fun r2 _ => ?_
  refine Run.z [false, false] ?_
  refine Run.y (gv := vB) (fun _ => ?_) (fun _ => ?_)
  ·exact Run.x 1
  ·refine Run.u 400 E_ok mixed Tryd.func11 ?_
   refine Run.z [true, true] ?_
   refine Run.q (e := vB) (gv := vB) (ok_spec_l00In _ _ _) fun r3 _ => ?_
   refine Run.y (gv := vB) (fun _ => ?_) (fun _ => ?_)
   ·refine Run.z [true, true, true, true, true, true, true] ?_
    exact Run.x 1
   ·refine Run.z [false, false, true, false, false] ?_
    refine Run.q (e := vB) (gv := vB) (ok_spec_l00In _ _ _) fun r4 _ => ?_
    refine Run.z [false, false] ?_
    refine Run.y (gv := vB) (fun _ => ?_) (fun _ => ?_)
    ·exact Run.x 1
    ·refine Run.u 400 E_ok mixed Tryd.func11 ?_
     refine Run.z [true, true] ?_
     refine Run.q (e := vB) (gv := vB) (ok_spec_l00In _ _ _) fun r5 _ => ?_
     refine Run.y (gv := vB) (fun _ => ?_) (fun _ => ?_)
     ·refine Run.z [true, true, true, true, true, true, true] ?_
      exact Run.x 1
     ·refine Run.z [false, false, true, false, false] ?_
      refine Run.q (e := vB) (gv := vB) (ok_spec_l00In _ _ _) fun r6 _ => ?_
      refine Run.z [false, false] ?_
      refine Run.y (gv := vB) (fun _ => ?_) (fun _ => ?_)
      ·exact Run.x 1
      ·refine Run.u 400 E_ok mixed Tryd.func11 ?_
       refine Run.z [false] ?_
       refine Run.q (e := vB) (gv := vB) (ok_spec_l00In _ _ _) fun r7 _ => ?_
       exact Run.x 1

end Go.Proofs.YtlgbjanlofomoaaDoor.Abs
