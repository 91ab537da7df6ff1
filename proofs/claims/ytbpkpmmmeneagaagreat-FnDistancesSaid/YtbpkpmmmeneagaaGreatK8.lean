/- The program's functions are these; part 8 (written by w.py). -/
import Derived.Test.YtbpkpmmmeneagaaGreatE
import Derived.Test.YtbpkpmmmeneagaaGreatF5
import Derived.Test.YtbpkpmmmeneagaaGreatQpre
import Derived.Test.YtbpkpmmmeneagaaGreatK1
import Derived.Test.YtbpkpmmmeneagaaGreatK2
import Derived.Test.YtbpkpmmmeneagaaGreatK3
import Derived.Test.YtbpkpmmmeneagaaGreatK6
import Derived.Test.YtbpkpmmmeneagaaGreatK7
set_option linter.unusedVariables false
set_option linter.unusedSimpArgs false
namespace Go.Proofs.YtbpkpmmmeneagaaGreat.Abs
open Go Go.RowKit

theorem ok_laws_a2Long (c0 : Cd) (c1 : Cd) : Fun Tryz.prog 5 [(c0.row, c0.ty), (c1.row, c1.ty)] #[c0.sl 0, c1.sl 1] (vB (F_laws_a2Long c0 c1)) [(c0.row, c0.ty), (c1.row, c1.ty)] := by
 refine Fun.ofH 400 E_ok mixed Tryz.func5 (by kernel_rfl) (by kernel_rfl) ?_
 unfold F_laws_a2Long
 refine Run.y (gv := vB) (fun _ => ?_) (fun _ => ?_)
 ·refine Run.z [true, true, true] ?_
  exact Run.x 2
 ·refine Run.z [false, false, false] ?_
  exact Run.x 2

theorem ok_laws_FnDistances_cut1 (c0 : Cd) (c1 : Cd) (r1 : Bool) (r2 : Pj × Pt) (r3 : Pt × Pt × Pt) (r4 : Iv × I64) (r5 : Iv × I64) (r6 : Bool) (r7 : Iv × I64) (r8 : Iv × I64) : Run Tryz.prog 3 (RvH [(c0.row, c0.ty), (c1.row, c1.ty)] (vB ((bif (r8.2.val == 0) then bindP (F_spec_AddI r7.1 r8.1) fun r9 => bindP (F_spec_LessI r9 r4.1) fun r10 => (bif (r10.val == 1) then false else bindP (F_impl_MapDistance r2.1 r2.2 r2.2) fun r11 => (bif (r11.2.val == 0) then bindP (F_spec_HasI r11.1 (c64 0)) fun r12 => (bif (!r12) then false else bindP (F_impl_StretchOf r2.1 r2.2 r3.1) fun r13 => bindP (F_spec_AngleBetween r2.2 r3.1) fun r14 => (bif (r13.2.val != 0) then true else (bif (r4.2.val == 0) then (bif (r14.2.val == 0) then bindP (F_spec_MulI r13.1 r14.1) fun r15 => bindP (F_spec_OverlapI r15 r4.1) fun r16 => r16 else false) else false))) else bindP (F_impl_StretchOf r2.1 r2.2 r3.1) fun r17 => bindP (F_spec_AngleBetween r2.2 r3.1) fun r18 => (bif (r17.2.val != 0) then true else (bif (r4.2.val == 0) then (bif (r18.2.val == 0) then bindP (F_spec_MulI r17.1 r18.1) fun r19 => bindP (F_spec_OverlapI r19 r4.1) fun r20 => r20 else false) else false)))) else bindP (F_impl_MapDistance r2.1 r2.2 r2.2) fun r21 => (bif (r21.2.val == 0) then bindP (F_spec_HasI r21.1 (c64 0)) fun r22 => (bif (!r22) then false else bindP (F_impl_StretchOf r2.1 r2.2 r3.1) fun r23 => bindP (F_spec_AngleBetween r2.2 r3.1) fun r24 => (bif (r23.2.val != 0) then true else (bif (r4.2.val == 0) then (bif (r24.2.val == 0) then bindP (F_spec_MulI r23.1 r24.1) fun r25 => bindP (F_spec_OverlapI r25 r4.1) fun r26 => r26 else false) else false))) else bindP (F_impl_StretchOf r2.1 r2.2 r3.1) fun r27 => bindP (F_spec_AngleBetween r2.2 r3.1) fun r28 => (bif (r27.2.val != 0) then true else (bif (r4.2.val == 0) then (bif (r28.2.val == 0) then bindP (F_spec_MulI r27.1 r28.1) fun r29 => bindP (F_spec_OverlapI r29 r4.1) fun r30 => r30 else false) else false))))))) (((((((((((((((((((start Tryz.prog E Tryz.f3 400 [(c0.row, c0.ty), (c1.row, c1.ty)] #[c0.sl 0, c1.sl 1]).turned [0, 1] [] (vB r1) []).no).turned [0] [] (vT_Pj_Pt r2) []).turned [1] [] (vT_Pt_Pt_Pt r3) []).after (vT_Iv_I r4)).after (vT_Iv_I r5)).no).path [false, false]).yes).path [true, true]).after (vB r6)).path [true, false, true, false]).no).after (vT_Iv_I r7)).after (vT_Iv_I r8)).yes).path [true, true]).yes) := by
 refine Run.z [true, true] ?_
 refine Run.y (gv := vB) (fun _ => ?_) (fun _ => ?_)
 ·refine Run.z [true, true] ?_
  refine Run.q (e := vIv) (gv := vB) (ok_spec_AddI _ _) fun r9 _ => ?_
  refine Run.z [true, true] ?_
  refine Run.q (e := vI) (gv := vB) (ok_spec_LessI _ _) fun r10 _ => ?_
  refine Run.z [true, true] ?_
  refine Run.y (gv := vB) (fun _ => ?_) (fun _ => ?_)
  ·exact Run.x 2
  ·refine Run.q (e := vT_Iv_I) (gv := vB) (ok_impl_MapDistance _ _ _) fun r11 _ => ?_
   refine Run.y (gv := vB) (fun _ => ?_) (fun _ => ?_)
   ·refine Run.z [true] ?_
    refine Run.q (e := vB) (gv := vB) (ok_spec_HasI _ _) fun r12 _ => ?_
    refine Run.z [true, true] ?_
    refine Run.y (gv := vB) (fun _ => ?_) (fun _ => ?_)
    ·exact Run.x 2
    ·refine Run.q (e := vT_Iv_I) (gv := vB) (ok_impl_StretchOf _ _ _) fun r13 _ => ?_
     refine Run.q (e := vT_Iv_I) (gv := vB) (ok_spec_AngleBetween _ _) fun r14 _ => ?_
     refine Run.y (gv := vB) (fun _ => ?_) (fun _ => ?_)
     ·refine Run.z [true, true, true, true, true, true] ?_
      exact Run.x 2
     ·refine Run.z [false, false] ?_
      refine Run.y (gv := vB) (fun _ => ?_) (fun _ => ?_)
      ·refine Run.z [true, false, true, false] ?_
       refine Run.y (gv := vB) (fun _ => ?_) (fun _ => ?_)
       ·refine Run.z [true, true] ?_
        refine Run.q (e := vIv) (gv := vB) (ok_spec_MulI _ _) fun r15 _ => ?_
        refine Run.z [true, true] ?_
        refine Run.q (e := vB) (gv := vB) (ok_spec_OverlapI _ _) fun r16 _ => ?_
        refine Run.z [false, true, false] ?_
        exact Run.x 2
       ·refine Run.z [false, false, false, false, false, false, false] ?_
        exact Run.x 2
      ·refine Run.z [false, false, false, false, false, false, false, false, false, false, false, false] ?_
       exact Run.x 2
   ·refine Run.z [false, false, false, false] ?_
    refine Run.q (e := vT_Iv_I) (gv := vB) (ok_impl_StretchOf _ _ _) fun r17 _ => ?_
    refine Run.q (e := vT_Iv_I) (gv := vB) (ok_spec_AngleBetween _ _) fun r18 _ => ?_
    refine Run.y (gv := vB) (fun _ => ?_) (fun _ => ?_)
    ·refine Run.z [true, true, true, true, true, true] ?_
     exact Run.x 2
    ·refine Run.z [false, false] ?_
     refine Run.y (gv := vB) (fun _ => ?_) (fun _ => ?_)
     ·refine Run.z [true, false, true, false] ?_
      refine Run.y (gv := vB) (fun _ => ?_) (fun _ => ?_)
      ·refine Run.z [true, true] ?_
       refine Run.q (e := vIv) (gv := vB) (ok_spec_MulI _ _) fun r19 _ => ?_
       refine Run.z [true, true] ?_
       refine Run.q (e := vB) (gv := vB) (ok_spec_OverlapI _ _) fun r20 _ => ?_
       refine Run.z [false, true, false] ?_
       exact Run.x 2
      ·refine Run.z [false, false, false, false, false, false, false] ?_
       exact Run.x 2
     ·refine Run.z [false, false, false, false, false, false, false, false, false, false, false, false] ?_
      exact Run.x 2
 ·refine Run.z [false, false, false, false, false, false, false] ?_
  refine Run.q (e := vT_Iv_I) (gv := vB) (ok_impl_MapDistance _ _ _) fun r21 _ => ?_
  refine Run.y (gv := vB) (fun _ => ?_) (fun _ => ?_)
  ·refine Run.z [true] ?_
   refine Run.q (e := vB) (gv := vB) (ok_spec_HasI _ _) fun r22 _ => ?_
   refine Run.z [true, true] ?_
   refine Run.y (gv := vB) (fun _ => ?_) (fun _ => ?_)
   ·exact Run.x 2
   ·refine Run.q (e := vT_Iv_I) (gv := vB) (ok_impl_StretchOf _ _ _) fun r23 _ => ?_
    refine Run.q (e := vT_Iv_I) (gv := vB) (ok_spec_AngleBetween _ _) fun r24 _ => ?_
    refine Run.y (gv := vB) (fun _ => ?_) (fun _ => ?_)
    ·refine Run.z [true, true, true, true, true, true] ?_
     exact Run.x 2
    ·refine Run.z [false, false] ?_
     refine Run.y (gv := vB) (fun _ => ?_) (fun _ => ?_)
     ·refine Run.z [true, false, true, false] ?_
      refine Run.y (gv := vB) (fun _ => ?_) (fun _ => ?_)
      ·refine Run.z [true, true] ?_
       refine Run.q (e := vIv) (gv := vB) (ok_spec_MulI _ _) fun r25 _ => ?_
       refine Run.z [true, true] ?_
       refine Run.q (e := vB) (gv := vB) (ok_spec_OverlapI _ _) fun r26 _ => ?_
       refine Run.z [false, true, false] ?_
       exact Run.x 2
      ·refine Run.z [false, false, false, false, false, false, false] ?_
       exact Run.x 2
     ·refine Run.z [false, false, false, false, false, false, false, false, false, false, false, false] ?_
      exact Run.x 2
  ·refine Run.z [false, false, false, false] ?_
   refine Run.q (e := vT_Iv_I) (gv := vB) (ok_impl_StretchOf _ _ _) fun r27 _ => ?_
   refine Run.q (e := vT_Iv_I) (gv := vB) (ok_spec_AngleBetween _ _) fun r28 _ => ?_
   refine Run.y (gv := vB) (fun _ => ?_) (fun _ => ?_)
   ·refine Run.z [true, true, true, true, true, true] ?_
    exact Run.x 2
   ·refine Run.z [false, false] ?_
    refine Run.y (gv := vB) (fun _ => ?_) (fun _ => ?_)
    ·refine Run.z [true, false, true, false] ?_
     refine Run.y (gv := vB) (fun _ => ?_) (fun _ => ?_)
     ·refine Run.z [true, true] ?_
      refine Run.q (e := vIv) (gv := vB) (ok_spec_MulI _ _) fun r29 _ => ?_
      refine Run.z [true, true] ?_
      refine Run.q (e := vB) (gv := vB) (ok_spec_OverlapI _ _) fun r30 _ => ?_
      refine Run.z [false, true, false] ?_
      exact Run.x 2
     ·refine Run.z [false, false, false, false, false, false, false] ?_
      exact Run.x 2
    ·refine Run.z [false, false, false, false, false, false, false, false, false, false, false, false] ?_
     exact Run.x 2

theorem ok_laws_FnDistances_cut2 (c0 : Cd) (c1 : Cd) (r1 : Bool) (r2 : Pj × Pt) (r3 : Pt × Pt × Pt) (r4 : Iv × I64) (r5 : Iv × I64) (r6 : Bool) : Run Tryz.prog 3 (RvH [(c0.row, c0.ty), (c1.row, c1.ty)] (vB (bindP (F_impl_MapDistance r2.1 r2.2 r3.2.1) fun r7 => bindP (F_impl_MapDistance r2.1 r3.2.1 r3.1) fun r8 => (bif (r4.2.val == 0) then (bif (r7.2.val == 0) then (bif (r8.2.val == 0) then bindP (F_spec_AddI r7.1 r8.1) fun r9 => bindP (F_spec_LessI r9 r4.1) fun r10 => (bif (r10.val == 1) then false else bindP (F_impl_MapDistance r2.1 r2.2 r2.2) fun r11 => (bif (r11.2.val == 0) then bindP (F_spec_HasI r11.1 (c64 0)) fun r12 => (bif (!r12) then false else bindP (F_impl_StretchOf r2.1 r2.2 r3.1) fun r13 => bindP (F_spec_AngleBetween r2.2 r3.1) fun r14 => (bif (r13.2.val != 0) then true else (bif (r4.2.val == 0) then (bif (r14.2.val == 0) then bindP (F_spec_MulI r13.1 r14.1) fun r15 => bindP (F_spec_OverlapI r15 r4.1) fun r16 => r16 else false) else false))) else bindP (F_impl_StretchOf r2.1 r2.2 r3.1) fun r17 => bindP (F_spec_AngleBetween r2.2 r3.1) fun r18 => (bif (r17.2.val != 0) then true else (bif (r4.2.val == 0) then (bif (r18.2.val == 0) then bindP (F_spec_MulI r17.1 r18.1) fun r19 => bindP (F_spec_OverlapI r19 r4.1) fun r20 => r20 else false) else false)))) else bindP (F_impl_MapDistance r2.1 r2.2 r2.2) fun r21 => (bif (r21.2.val == 0) then bindP (F_spec_HasI r21.1 (c64 0)) fun r22 => (bif (!r22) then false else bindP (F_impl_StretchOf r2.1 r2.2 r3.1) fun r23 => bindP (F_spec_AngleBetween r2.2 r3.1) fun r24 => (bif (r23.2.val != 0) then true else (bif (r4.2.val == 0) then (bif (r24.2.val == 0) then bindP (F_spec_MulI r23.1 r24.1) fun r25 => bindP (F_spec_OverlapI r25 r4.1) fun r26 => r26 else false) else false))) else bindP (F_impl_StretchOf r2.1 r2.2 r3.1) fun r27 => bindP (F_spec_AngleBetween r2.2 r3.1) fun r28 => (bif (r27.2.val != 0) then true else (bif (r4.2.val == 0) then (bif (r28.2.val == 0) then bindP (F_spec_MulI r27.1 r28.1) fun r29 => bindP (F_spec_OverlapI r29 r4.1) fun r30 => r30 else false) else false)))) else bindP (F_impl_MapDistance r2.1 r2.2 r2.2) fun r31 => (bif (r31.2.val == 0) then bindP (F_spec_HasI r31.1 (c64 0)) fun r32 => (bif (!r32) then false else bindP (F_impl_StretchOf r2.1 r2.2 r3.1) fun r33 => bindP (F_spec_AngleBetween r2.2 r3.1) fun r34 => (bif (r33.2.val != 0) then true else (bif (r4.2.val == 0) then (bif (r34.2.val == 0) then bindP (F_spec_MulI r33.1 r34.1) fun r35 => bindP (F_spec_OverlapI r35 r4.1) fun r36 => r36 else false) else false))) else bindP (F_impl_StretchOf r2.1 r2.2 r3.1) fun r37 => bindP (F_spec_AngleBetween r2.2 r3.1) fun r38 => (bif (r37.2.val != 0) then true else (bif (r4.2.val == 0) then (bif (r38.2.val == 0) then bindP (F_spec_MulI r37.1 r38.1) fun r39 => bindP (F_spec_OverlapI r39 r4.1) fun r40 => r40 else false) else false)))) else bindP (F_impl_MapDistance r2.1 r2.2 r2.2) fun r41 => (bif (r41.2.val == 0) then bindP (F_spec_HasI r41.1 (c64 0)) fun r42 => (bif (!r42) then false else bindP (F_impl_StretchOf r2.1 r2.2 r3.1) fun r43 => bindP (F_spec_AngleBetween r2.2 r3.1) fun r44 => (bif (r43.2.val != 0) then true else (bif (r4.2.val == 0) then (bif (r44.2.val == 0) then bindP (F_spec_MulI r43.1 r44.1) fun r45 => bindP (F_spec_OverlapI r45 r4.1) fun r46 => r46 else false) else false))) else bindP (F_impl_StretchOf r2.1 r2.2 r3.1) fun r47 => bindP (F_spec_AngleBetween r2.2 r3.1) fun r48 => (bif (r47.2.val != 0) then true else (bif (r4.2.val == 0) then (bif (r48.2.val == 0) then bindP (F_spec_MulI r47.1 r48.1) fun r49 => bindP (F_spec_OverlapI r49 r4.1) fun r50 => r50 else false) else false))))))) ((((((((((((((start Tryz.prog E Tryz.f3 400 [(c0.row, c0.ty), (c1.row, c1.ty)] #[c0.sl 0, c1.sl 1]).turned [0, 1] [] (vB r1) []).no).turned [0] [] (vT_Pj_Pt r2) []).turned [1] [] (vT_Pt_Pt_Pt r3) []).after (vT_Iv_I r4)).after (vT_Iv_I r5)).no).path [false, false]).yes).path [true, true]).after (vB r6)).path [true, false, true, false]).no) := by
 refine Run.q (e := vT_Iv_I) (gv := vB) (ok_impl_MapDistance _ _ _) fun r7 _ => ?_
 refine Run.q (e := vT_Iv_I) (gv := vB) (ok_impl_MapDistance _ _ _) fun r8 _ => ?_
 refine Run.y (gv := vB) (fun _ => ?_) (fun _ => ?_)
 ·refine Run.z [true, true] ?_
  refine Run.y (gv := vB) (fun _ => ?_) (fun _ => ?_)
  ·exact ok_laws_FnDistances_cut1 c0 c1 r1 r2 r3 r4 r5 r6 r7 r8
  ·refine Run.z [false, false, false, false, false, false, false, false, false, false] ?_
   refine Run.q (e := vT_Iv_I) (gv := vB) (ok_impl_MapDistance _ _ _) fun r31 _ => ?_
   refine Run.y (gv := vB) (fun _ => ?_) (fun _ => ?_)
   ·refine Run.z [true] ?_
    refine Run.q (e := vB) (gv := vB) (ok_spec_HasI _ _) fun r32 _ => ?_
    refine Run.z [true, true] ?_
    refine Run.y (gv := vB) (fun _ => ?_) (fun _ => ?_)
    ·exact Run.x 2
    ·refine Run.q (e := vT_Iv_I) (gv := vB) (ok_impl_StretchOf _ _ _) fun r33 _ => ?_
     refine Run.q (e := vT_Iv_I) (gv := vB) (ok_spec_AngleBetween _ _) fun r34 _ => ?_
     refine Run.y (gv := vB) (fun _ => ?_) (fun _ => ?_)
     ·refine Run.z [true, true, true, true, true, true] ?_
      exact Run.x 2
     ·refine Run.z [false, false] ?_
      refine Run.y (gv := vB) (fun _ => ?_) (fun _ => ?_)
      ·refine Run.z [true, false, true, false] ?_
       refine Run.y (gv := vB) (fun _ => ?_) (fun _ => ?_)
       ·refine Run.z [true, true] ?_
        refine Run.q (e := vIv) (gv := vB) (ok_spec_MulI _ _) fun r35 _ => ?_
        refine Run.z [true, true] ?_
        refine Run.q (e := vB) (gv := vB) (ok_spec_OverlapI _ _) fun r36 _ => ?_
        refine Run.z [false, true, false] ?_
        exact Run.x 2
       ·refine Run.z [false, false, false, false, false, false, false] ?_
        exact Run.x 2
      ·refine Run.z [false, false, false, false, false, false, false, false, false, false, false, false] ?_
       exact Run.x 2
   ·refine Run.z [false, false, false, false] ?_
    refine Run.q (e := vT_Iv_I) (gv := vB) (ok_impl_StretchOf _ _ _) fun r37 _ => ?_
    refine Run.q (e := vT_Iv_I) (gv := vB) (ok_spec_AngleBetween _ _) fun r38 _ => ?_
    refine Run.y (gv := vB) (fun _ => ?_) (fun _ => ?_)
    ·refine Run.z [true, true, true, true, true, true] ?_
     exact Run.x 2
    ·refine Run.z [false, false] ?_
     refine Run.y (gv := vB) (fun _ => ?_) (fun _ => ?_)
     ·refine Run.z [true, false, true, false] ?_
      refine Run.y (gv := vB) (fun _ => ?_) (fun _ => ?_)
      ·refine Run.z [true, true] ?_
       refine Run.q (e := vIv) (gv := vB) (ok_spec_MulI _ _) fun r39 _ => ?_
       refine Run.z [true, true] ?_
       refine Run.q (e := vB) (gv := vB) (ok_spec_OverlapI _ _) fun r40 _ => ?_
       refine Run.z [false, true, false] ?_
       exact Run.x 2
      ·refine Run.z [false, false, false, false, false, false, false] ?_
       exact Run.x 2
     ·refine Run.z [false, false, false, false, false, false, false, false, false, false, false, false] ?_
      exact Run.x 2
 ·refine Run.z [false, false, false, false, false, false, false, false, false, false, false, false, false] ?_
  refine Run.q (e := vT_Iv_I) (gv := vB) (ok_impl_MapDistance _ _ _) fun r41 _ => ?_
  refine Run.y (gv := vB) (fun _ => ?_) (fun _ => ?_)
  ·refine Run.z [true] ?_
   refine Run.q (e := vB) (gv := vB) (ok_spec_HasI _ _) fun r42 _ => ?_
   refine Run.z [true, true] ?_
   refine Run.y (gv := vB) (fun _ => ?_) (fun _ => ?_)
   ·exact Run.x 2
   ·refine Run.q (e := vT_Iv_I) (gv := vB) (ok_impl_StretchOf _ _ _) fun r43 _ => ?_
    refine Run.q (e := vT_Iv_I) (gv := vB) (ok_spec_AngleBetween _ _) fun r44 _ => ?_
    refine Run.y (gv := vB) (fun _ => ?_) (fun _ => ?_)
    ·refine Run.z [true, true, true, true, true, true] ?_
     exact Run.x 2
    ·refine Run.z [false, false] ?_
     refine Run.y (gv := vB) (fun _ => ?_) (fun _ => ?_)
     ·refine Run.z [true, false, true, false] ?_
      refine Run.y (gv := vB) (fun _ => ?_) (fun _ => ?_)
      ·refine Run.z [true, true] ?_
       refine Run.q (e := vIv) (gv := vB) (ok_spec_MulI _ _) fun r45 _ => ?_
       refine Run.z [true, true] ?_
       refine Run.q (e := vB) (gv := vB) (ok_spec_OverlapI _ _) fun r46 _ => ?_
       refine Run.z [false, true, false] ?_
       exact Run.x 2
      ·refine Run.z [false, false, false, false, false, false, false] ?_
       exact Run.x 2
     ·refine Run.z [false, false, false, false, false, false, false, false, false, false, false, false] ?_
      exact Run.x 2
  ·refine Run.z [false, false, false, false] ?_
   refine Run.q (e := vT_Iv_I) (gv := vB) (ok_impl_StretchOf _ _ _) fun r47 _ => ?_
   refine Run.q (e := vT_Iv_I) (gv := vB) (ok_spec_AngleBetween _ _) fun r48 _ => ?_
   refine Run.y (gv := vB) (fun _ => ?_) (fun _ => ?_)
   ·refine Run.z [true, true, true, true, true, true] ?_
    exact Run.x 2
   ·refine Run.z [false, false] ?_
    refine Run.y (gv := vB) (fun _ => ?_) (fun _ => ?_)
    ·refine Run.z [true, false, true, false] ?_
     refine Run.y (gv := vB) (fun _ => ?_) (fun _ => ?_)
     ·refine Run.z [true, true] ?_
      refine Run.q (e := vIv) (gv := vB) (ok_spec_MulI _ _) fun r49 _ => ?_
      refine Run.z [true, true] ?_
      refine Run.q (e := vB) (gv := vB) (ok_spec_OverlapI _ _) fun r50 _ => ?_
      refine Run.z [false, true, false] ?_
      exact Run.x 2
     ·refine Run.z [false, false, false, false, false, false, false] ?_
      exact Run.x 2
    ·refine Run.z [false, false, false, false, false, false, false, false, false, false, false, false] ?_
     exact Run.x 2

theorem ok_laws_FnDistances_cut3 (c0 : Cd) (c1 : Cd) (r1 : Bool) (r2 : Pj × Pt) (r3 : Pt × Pt × Pt) (r4 : Iv × I64) (r5 : Iv × I64) (r51 : Iv × I64) (r52 : Iv × I64) : Run Tryz.prog 3 (RvH [(c0.row, c0.ty), (c1.row, c1.ty)] (vB ((bif (r52.2.val == 0) then bindP (F_spec_AddI r51.1 r52.1) fun r53 => bindP (F_spec_LessI r53 r4.1) fun r54 => (bif (r54.val == 1) then false else bindP (F_impl_MapDistance r2.1 r2.2 r2.2) fun r55 => (bif (r55.2.val == 0) then bindP (F_spec_HasI r55.1 (c64 0)) fun r56 => (bif (!r56) then false else bindP (F_impl_StretchOf r2.1 r2.2 r3.1) fun r57 => bindP (F_spec_AngleBetween r2.2 r3.1) fun r58 => (bif (r57.2.val != 0) then true else (bif (r4.2.val == 0) then (bif (r58.2.val == 0) then bindP (F_spec_MulI r57.1 r58.1) fun r59 => bindP (F_spec_OverlapI r59 r4.1) fun r60 => r60 else false) else false))) else bindP (F_impl_StretchOf r2.1 r2.2 r3.1) fun r61 => bindP (F_spec_AngleBetween r2.2 r3.1) fun r62 => (bif (r61.2.val != 0) then true else (bif (r4.2.val == 0) then (bif (r62.2.val == 0) then bindP (F_spec_MulI r61.1 r62.1) fun r63 => bindP (F_spec_OverlapI r63 r4.1) fun r64 => r64 else false) else false)))) else bindP (F_impl_MapDistance r2.1 r2.2 r2.2) fun r65 => (bif (r65.2.val == 0) then bindP (F_spec_HasI r65.1 (c64 0)) fun r66 => (bif (!r66) then false else bindP (F_impl_StretchOf r2.1 r2.2 r3.1) fun r67 => bindP (F_spec_AngleBetween r2.2 r3.1) fun r68 => (bif (r67.2.val != 0) then true else (bif (r4.2.val == 0) then (bif (r68.2.val == 0) then bindP (F_spec_MulI r67.1 r68.1) fun r69 => bindP (F_spec_OverlapI r69 r4.1) fun r70 => r70 else false) else false))) else bindP (F_impl_StretchOf r2.1 r2.2 r3.1) fun r71 => bindP (F_spec_AngleBetween r2.2 r3.1) fun r72 => (bif (r71.2.val != 0) then true else (bif (r4.2.val == 0) then (bif (r72.2.val == 0) then bindP (F_spec_MulI r71.1 r72.1) fun r73 => bindP (F_spec_OverlapI r73 r4.1) fun r74 => r74 else false) else false))))))) ((((((((((((((((start Tryz.prog E Tryz.f3 400 [(c0.row, c0.ty), (c1.row, c1.ty)] #[c0.sl 0, c1.sl 1]).turned [0, 1] [] (vB r1) []).no).turned [0] [] (vT_Pj_Pt r2) []).turned [1] [] (vT_Pt_Pt_Pt r3) []).after (vT_Iv_I r4)).after (vT_Iv_I r5)).no).path [false, false]).no).path [false, false, false, false, false, false, false]).after (vT_Iv_I r51)).after (vT_Iv_I r52)).yes).path [true, true]).yes) := by
 refine Run.z [true, true] ?_
 refine Run.y (gv := vB) (fun _ => ?_) (fun _ => ?_)
 ·refine Run.z [true, true] ?_
  refine Run.q (e := vIv) (gv := vB) (ok_spec_AddI _ _) fun r53 _ => ?_
  refine Run.z [true, true] ?_
  refine Run.q (e := vI) (gv := vB) (ok_spec_LessI _ _) fun r54 _ => ?_
  refine Run.z [true, true] ?_
  refine Run.y (gv := vB) (fun _ => ?_) (fun _ => ?_)
  ·exact Run.x 2
  ·refine Run.q (e := vT_Iv_I) (gv := vB) (ok_impl_MapDistance _ _ _) fun r55 _ => ?_
   refine Run.y (gv := vB) (fun _ => ?_) (fun _ => ?_)
   ·refine Run.z [true] ?_
    refine Run.q (e := vB) (gv := vB) (ok_spec_HasI _ _) fun r56 _ => ?_
    refine Run.z [true, true] ?_
    refine Run.y (gv := vB) (fun _ => ?_) (fun _ => ?_)
    ·exact Run.x 2
    ·refine Run.q (e := vT_Iv_I) (gv := vB) (ok_impl_StretchOf _ _ _) fun r57 _ => ?_
     refine Run.q (e := vT_Iv_I) (gv := vB) (ok_spec_AngleBetween _ _) fun r58 _ => ?_
     refine Run.y (gv := vB) (fun _ => ?_) (fun _ => ?_)
     ·refine Run.z [true, true, true, true, true, true] ?_
      exact Run.x 2
     ·refine Run.z [false, false] ?_
      refine Run.y (gv := vB) (fun _ => ?_) (fun _ => ?_)
      ·refine Run.z [true, false, true, false] ?_
       refine Run.y (gv := vB) (fun _ => ?_) (fun _ => ?_)
       ·refine Run.z [true, true] ?_
        refine Run.q (e := vIv) (gv := vB) (ok_spec_MulI _ _) fun r59 _ => ?_
        refine Run.z [true, true] ?_
        refine Run.q (e := vB) (gv := vB) (ok_spec_OverlapI _ _) fun r60 _ => ?_
        refine Run.z [false, true, false] ?_
        exact Run.x 2
       ·refine Run.z [false, false, false, false, false, false, false] ?_
        exact Run.x 2
      ·refine Run.z [false, false, false, false, false, false, false, false, false, false, false, false] ?_
       exact Run.x 2
   ·refine Run.z [false, false, false, false] ?_
    refine Run.q (e := vT_Iv_I) (gv := vB) (ok_impl_StretchOf _ _ _) fun r61 _ => ?_
    refine Run.q (e := vT_Iv_I) (gv := vB) (ok_spec_AngleBetween _ _) fun r62 _ => ?_
    refine Run.y (gv := vB) (fun _ => ?_) (fun _ => ?_)
    ·refine Run.z [true, true, true, true, true, true] ?_
     exact Run.x 2
    ·refine Run.z [false, false] ?_
     refine Run.y (gv := vB) (fun _ => ?_) (fun _ => ?_)
     ·refine Run.z [true, false, true, false] ?_
      refine Run.y (gv := vB) (fun _ => ?_) (fun _ => ?_)
      ·refine Run.z [true, true] ?_
       refine Run.q (e := vIv) (gv := vB) (ok_spec_MulI _ _) fun r63 _ => ?_
       refine Run.z [true, true] ?_
       refine Run.q (e := vB) (gv := vB) (ok_spec_OverlapI _ _) fun r64 _ => ?_
       refine Run.z [false, true, false] ?_
       exact Run.x 2
      ·refine Run.z [false, false, false, false, false, false, false] ?_
       exact Run.x 2
     ·refine Run.z [false, false, false, false, false, false, false, false, false, false, false, false] ?_
      exact Run.x 2
 ·refine Run.z [false, false, false, false, false, false, false] ?_
  refine Run.q (e := vT_Iv_I) (gv := vB) (ok_impl_MapDistance _ _ _) fun r65 _ => ?_
  refine Run.y (gv := vB) (fun _ => ?_) (fun _ => ?_)
  ·refine Run.z [true] ?_
   refine Run.q (e := vB) (gv := vB) (ok_spec_HasI _ _) fun r66 _ => ?_
   refine Run.z [true, true] ?_
   refine Run.y (gv := vB) (fun _ => ?_) (fun _ => ?_)
   ·exact Run.x 2
   ·refine Run.q (e := vT_Iv_I) (gv := vB) (ok_impl_StretchOf _ _ _) fun r67 _ => ?_
    refine Run.q (e := vT_Iv_I) (gv := vB) (ok_spec_AngleBetween _ _) fun r68 _ => ?_
    refine Run.y (gv := vB) (fun _ => ?_) (fun _ => ?_)
    ·refine Run.z [true, true, true, true, true, true] ?_
     exact Run.x 2
    ·refine Run.z [false, false] ?_
     refine Run.y (gv := vB) (fun _ => ?_) (fun _ => ?_)
     ·refine Run.z [true, false, true, false] ?_
      refine Run.y (gv := vB) (fun _ => ?_) (fun _ => ?_)
      ·refine Run.z [true, true] ?_
       refine Run.q (e := vIv) (gv := vB) (ok_spec_MulI _ _) fun r69 _ => ?_
       refine Run.z [true, true] ?_
       refine Run.q (e := vB) (gv := vB) (ok_spec_OverlapI _ _) fun r70 _ => ?_
       refine Run.z [false, true, false] ?_
       exact Run.x 2
      ·refine Run.z [false, false, false, false, false, false, false] ?_
       exact Run.x 2
     ·refine Run.z [false, false, false, false, false, false, false, false, false, false, false, false] ?_
      exact Run.x 2
  ·refine Run.z [false, false, false, false] ?_
   refine Run.q (e := vT_Iv_I) (gv := vB) (ok_impl_StretchOf _ _ _) fun r71 _ => ?_
   refine Run.q (e := vT_Iv_I) (gv := vB) (ok_spec_AngleBetween _ _) fun r72 _ => ?_
   refine Run.y (gv := vB) (fun _ => ?_) (fun _ => ?_)
   ·refine Run.z [true, true, true, true, true, true] ?_
    exact Run.x 2
   ·refine Run.z [false, false] ?_
    refine Run.y (gv := vB) (fun _ => ?_) (fun _ => ?_)
    ·refine Run.z [true, false, true, false] ?_
     refine Run.y (gv := vB) (fun _ => ?_) (fun _ => ?_)
     ·refine Run.z [true, true] ?_
      refine Run.q (e := vIv) (gv := vB) (ok_spec_MulI _ _) fun r73 _ => ?_
      refine Run.z [true, true] ?_
      refine Run.q (e := vB) (gv := vB) (ok_spec_OverlapI _ _) fun r74 _ => ?_
      refine Run.z [false, true, false] ?_
      exact Run.x 2
     ·refine Run.z [false, false, false, false, false, false, false] ?_
      exact Run.x 2
    ·refine Run.z [false, false, false, false, false, false, false, false, false, false, false, false] ?_
     exact Run.x 2

theorem ok_laws_FnDistances_cut4 (c0 : Cd) (c1 : Cd) (r1 : Bool) (r2 : Pj × Pt) (r3 : Pt × Pt × Pt) (r4 : Iv × I64) (r5 : Iv × I64) : Run Tryz.prog 3 (RvH [(c0.row, c0.ty), (c1.row, c1.ty)] (vB (bindP (F_impl_MapDistance r2.1 r2.2 r3.2.1) fun r51 => bindP (F_impl_MapDistance r2.1 r3.2.1 r3.1) fun r52 => (bif (r4.2.val == 0) then (bif (r51.2.val == 0) then (bif (r52.2.val == 0) then bindP (F_spec_AddI r51.1 r52.1) fun r53 => bindP (F_spec_LessI r53 r4.1) fun r54 => (bif (r54.val == 1) then false else bindP (F_impl_MapDistance r2.1 r2.2 r2.2) fun r55 => (bif (r55.2.val == 0) then bindP (F_spec_HasI r55.1 (c64 0)) fun r56 => (bif (!r56) then false else bindP (F_impl_StretchOf r2.1 r2.2 r3.1) fun r57 => bindP (F_spec_AngleBetween r2.2 r3.1) fun r58 => (bif (r57.2.val != 0) then true else (bif (r4.2.val == 0) then (bif (r58.2.val == 0) then bindP (F_spec_MulI r57.1 r58.1) fun r59 => bindP (F_spec_OverlapI r59 r4.1) fun r60 => r60 else false) else false))) else bindP (F_impl_StretchOf r2.1 r2.2 r3.1) fun r61 => bindP (F_spec_AngleBetween r2.2 r3.1) fun r62 => (bif (r61.2.val != 0) then true else (bif (r4.2.val == 0) then (bif (r62.2.val == 0) then bindP (F_spec_MulI r61.1 r62.1) fun r63 => bindP (F_spec_OverlapI r63 r4.1) fun r64 => r64 else false) else false)))) else bindP (F_impl_MapDistance r2.1 r2.2 r2.2) fun r65 => (bif (r65.2.val == 0) then bindP (F_spec_HasI r65.1 (c64 0)) fun r66 => (bif (!r66) then false else bindP (F_impl_StretchOf r2.1 r2.2 r3.1) fun r67 => bindP (F_spec_AngleBetween r2.2 r3.1) fun r68 => (bif (r67.2.val != 0) then true else (bif (r4.2.val == 0) then (bif (r68.2.val == 0) then bindP (F_spec_MulI r67.1 r68.1) fun r69 => bindP (F_spec_OverlapI r69 r4.1) fun r70 => r70 else false) else false))) else bindP (F_impl_StretchOf r2.1 r2.2 r3.1) fun r71 => bindP (F_spec_AngleBetween r2.2 r3.1) fun r72 => (bif (r71.2.val != 0) then true else (bif (r4.2.val == 0) then (bif (r72.2.val == 0) then bindP (F_spec_MulI r71.1 r72.1) fun r73 => bindP (F_spec_OverlapI r73 r4.1) fun r74 => r74 else false) else false)))) else bindP (F_impl_MapDistance r2.1 r2.2 r2.2) fun r75 => (bif (r75.2.val == 0) then bindP (F_spec_HasI r75.1 (c64 0)) fun r76 => (bif (!r76) then false else bindP (F_impl_StretchOf r2.1 r2.2 r3.1) fun r77 => bindP (F_spec_AngleBetween r2.2 r3.1) fun r78 => (bif (r77.2.val != 0) then true else (bif (r4.2.val == 0) then (bif (r78.2.val == 0) then bindP (F_spec_MulI r77.1 r78.1) fun r79 => bindP (F_spec_OverlapI r79 r4.1) fun r80 => r80 else false) else false))) else bindP (F_impl_StretchOf r2.1 r2.2 r3.1) fun r81 => bindP (F_spec_AngleBetween r2.2 r3.1) fun r82 => (bif (r81.2.val != 0) then true else (bif (r4.2.val == 0) then (bif (r82.2.val == 0) then bindP (F_spec_MulI r81.1 r82.1) fun r83 => bindP (F_spec_OverlapI r83 r4.1) fun r84 => r84 else false) else false)))) else bindP (F_impl_MapDistance r2.1 r2.2 r2.2) fun r85 => (bif (r85.2.val == 0) then bindP (F_spec_HasI r85.1 (c64 0)) fun r86 => (bif (!r86) then false else bindP (F_impl_StretchOf r2.1 r2.2 r3.1) fun r87 => bindP (F_spec_AngleBetween r2.2 r3.1) fun r88 => (bif (r87.2.val != 0) then true else (bif (r4.2.val == 0) then (bif (r88.2.val == 0) then bindP (F_spec_MulI r87.1 r88.1) fun r89 => bindP (F_spec_OverlapI r89 r4.1) fun r90 => r90 else false) else false))) else bindP (F_impl_StretchOf r2.1 r2.2 r3.1) fun r91 => bindP (F_spec_AngleBetween r2.2 r3.1) fun r92 => (bif (r91.2.val != 0) then true else (bif (r4.2.val == 0) then (bif (r92.2.val == 0) then bindP (F_spec_MulI r91.1 r92.1) fun r93 => bindP (F_spec_OverlapI r93 r4.1) fun r94 => r94 else false) else false))))))) ((((((((((start Tryz.prog E Tryz.f3 400 [(c0.row, c0.ty), (c1.row, c1.ty)] #[c0.sl 0, c1.sl 1]).turned [0, 1] [] (vB r1) []).no).turned [0] [] (vT_Pj_Pt r2) []).turned [1] [] (vT_Pt_Pt_Pt r3) []).after (vT_Iv_I r4)).after (vT_Iv_I r5)).no).path [false, false]).no) := by
 refine Run.z [false, false, false, false, false, false, false] ?_
 refine Run.q (e := vT_Iv_I) (gv := vB) (ok_impl_MapDistance _ _ _) fun r51 _ => ?_
 refine Run.q (e := vT_Iv_I) (gv := vB) (ok_impl_MapDistance _ _ _) fun r52 _ => ?_
 refine Run.y (gv := vB) (fun _ => ?_) (fun _ => ?_)
 ·refine Run.z [true, true] ?_
  refine Run.y (gv := vB) (fun _ => ?_) (fun _ => ?_)
  ·exact ok_laws_FnDistances_cut3 c0 c1 r1 r2 r3 r4 r5 r51 r52
  ·refine Run.z [false, false, false, false, false, false, false, false, false, false] ?_
   refine Run.q (e := vT_Iv_I) (gv := vB) (ok_impl_MapDistance _ _ _) fun r75 _ => ?_
   refine Run.y (gv := vB) (fun _ => ?_) (fun _ => ?_)
   ·refine Run.z [true] ?_
    refine Run.q (e := vB) (gv := vB) (ok_spec_HasI _ _) fun r76 _ => ?_
    refine Run.z [true, true] ?_
    refine Run.y (gv := vB) (fun _ => ?_) (fun _ => ?_)
    ·exact Run.x 2
    ·refine Run.q (e := vT_Iv_I) (gv := vB) (ok_impl_StretchOf _ _ _) fun r77 _ => ?_
     refine Run.q (e := vT_Iv_I) (gv := vB) (ok_spec_AngleBetween _ _) fun r78 _ => ?_
     refine Run.y (gv := vB) (fun _ => ?_) (fun _ => ?_)
     ·refine Run.z [true, true, true, true, true, true] ?_
      exact Run.x 2
     ·refine Run.z [false, false] ?_
      refine Run.y (gv := vB) (fun _ => ?_) (fun _ => ?_)
      ·refine Run.z [true, false, true, false] ?_
       refine Run.y (gv := vB) (fun _ => ?_) (fun _ => ?_)
       ·refine Run.z [true, true] ?_
        refine Run.q (e := vIv) (gv := vB) (ok_spec_MulI _ _) fun r79 _ => ?_
        refine Run.z [true, true] ?_
        refine Run.q (e := vB) (gv := vB) (ok_spec_OverlapI _ _) fun r80 _ => ?_
        refine Run.z [false, true, false] ?_
        exact Run.x 2
       ·refine Run.z [false, false, false, false, false, false, false] ?_
        exact Run.x 2
      ·refine Run.z [false, false, false, false, false, false, false, false, false, false, false, false] ?_
       exact Run.x 2
   ·refine Run.z [false, false, false, false] ?_
    refine Run.q (e := vT_Iv_I) (gv := vB) (ok_impl_StretchOf _ _ _) fun r81 _ => ?_
    refine Run.q (e := vT_Iv_I) (gv := vB) (ok_spec_AngleBetween _ _) fun r82 _ => ?_
    refine Run.y (gv := vB) (fun _ => ?_) (fun _ => ?_)
    ·refine Run.z [true, true, true, true, true, true] ?_
     exact Run.x 2
    ·refine Run.z [false, false] ?_
     refine Run.y (gv := vB) (fun _ => ?_) (fun _ => ?_)
     ·refine Run.z [true, false, true, false] ?_
      refine Run.y (gv := vB) (fun _ => ?_) (fun _ => ?_)
      ·refine Run.z [true, true] ?_
       refine Run.q (e := vIv) (gv := vB) (ok_spec_MulI _ _) fun r83 _ => ?_
       refine Run.z [true, true] ?_
       refine Run.q (e := vB) (gv := vB) (ok_spec_OverlapI _ _) fun r84 _ => ?_
       refine Run.z [false, true, false] ?_
       exact Run.x 2
      ·refine Run.z [false, false, false, false, false, false, false] ?_
       exact Run.x 2
     ·refine Run.z [false, false, false, false, false, false, false, false, false, false, false, false] ?_
      exact Run.x 2
 ·refine Run.z [false, false, false, false, false, false, false, false, false, false, false, false, false] ?_
  refine Run.q (e := vT_Iv_I) (gv := vB) (ok_impl_MapDistance _ _ _) fun r85 _ => ?_
  refine Run.y (gv := vB) (fun _ => ?_) (fun _ => ?_)
  ·refine Run.z [true] ?_
   refine Run.q (e := vB) (gv := vB) (ok_spec_HasI _ _) fun r86 _ => ?_
   refine Run.z [true, true] ?_
   refine Run.y (gv := vB) (fun _ => ?_) (fun _ => ?_)
   ·exact Run.x 2
   ·refine Run.q (e := vT_Iv_I) (gv := vB) (ok_impl_StretchOf _ _ _) fun r87 _ => ?_
    refine Run.q (e := vT_Iv_I) (gv := vB) (ok_spec_AngleBetween _ _) fun r88 _ => ?_
    refine Run.y (gv := vB) (fun _ => ?_) (fun _ => ?_)
    ·refine Run.z [true, true, true, true, true, true] ?_
     exact Run.x 2
    ·refine Run.z [false, false] ?_
     refine Run.y (gv := vB) (fun _ => ?_) (fun _ => ?_)
     ·refine Run.z [true, false, true, false] ?_
      refine Run.y (gv := vB) (fun _ => ?_) (fun _ => ?_)
      ·refine Run.z [true, true] ?_
       refine Run.q (e := vIv) (gv := vB) (ok_spec_MulI _ _) fun r89 _ => ?_
       refine Run.z [true, true] ?_
       refine Run.q (e := vB) (gv := vB) (ok_spec_OverlapI _ _) fun r90 _ => ?_
       refine Run.z [false, true, false] ?_
       exact Run.x 2
      ·refine Run.z [false, false, false, false, false, false, false] ?_
       exact Run.x 2
     ·refine Run.z [false, false, false, false, false, false, false, false, false, false, false, false] ?_
      exact Run.x 2
  ·refine Run.z [false, false, false, false] ?_
   refine Run.q (e := vT_Iv_I) (gv := vB) (ok_impl_StretchOf _ _ _) fun r91 _ => ?_
   refine Run.q (e := vT_Iv_I) (gv := vB) (ok_spec_AngleBetween _ _) fun r92 _ => ?_
   refine Run.y (gv := vB) (fun _ => ?_) (fun _ => ?_)
   ·refine Run.z [true, true, true, true, true, true] ?_
    exact Run.x 2
   ·refine Run.z [false, false] ?_
    refine Run.y (gv := vB) (fun _ => ?_) (fun _ => ?_)
    ·refine Run.z [true, false, true, false] ?_
     refine Run.y (gv := vB) (fun _ => ?_) (fun _ => ?_)
     ·refine Run.z [true, true] ?_
      refine Run.q (e := vIv) (gv := vB) (ok_spec_MulI _ _) fun r93 _ => ?_
      refine Run.z [true, true] ?_
      refine Run.q (e := vB) (gv := vB) (ok_spec_OverlapI _ _) fun r94 _ => ?_
      refine Run.z [false, true, false] ?_
      exact Run.x 2
     ·refine Run.z [false, false, false, false, false, false, false] ?_
      exact Run.x 2
    ·refine Run.z [false, false, false, false, false, false, false, false, false, false, false, false] ?_
     exact Run.x 2

theorem ok_laws_FnDistances (c0 : Cd) (c1 : Cd) : Fun Tryz.prog 3 [(c0.row, c0.ty), (c1.row, c1.ty)] #[c0.sl 0, c1.sl 1] (vB (F_laws_FnDistances c0 c1)) [(c0.row, c0.ty), (c1.row, c1.ty)] := by
 refine Fun.ofH 400 E_ok mixed Tryz.func3 (by kernel_rfl) (by kernel_rfl) ?_
 unfold F_laws_FnDistances
 refine Run.vl (e := vB) (gv := vB) [0, 1] (ok_laws_a2Long _ _) (allc (c0.calm) (allc (c1.calm) rfl)) fun r1 _ => ?_
 refine Run.y (gv := vB) (fun _ => ?_) (fun _ => ?_)
 ·exact Run.x 2
 ·refine Run.vl (e := vT_Pj_Pt) (gv := vB) [0] (ok_spec_A2Projection _ _ _) (allc (c0.calm) rfl) fun r2 _ => ?_
  refine Run.vl (e := vT_Pt_Pt_Pt) (gv := vB) [1] (ok_spec_A2Points _) (allc (c1.calm) rfl) fun r3 _ => ?_
  refine Run.q (e := vT_Iv_I) (gv := vB) (ok_impl_MapDistance _ _ _) fun r4 _ => ?_
  refine Run.q (e := vT_Iv_I) (gv := vB) (ok_impl_MapDistance _ _ _) fun r5 _ => ?_
  refine Run.y (gv := vB) (fun _ => ?_) (fun _ => ?_)
  ·refine Run.z [true, true, true, true, true] ?_
   refine Run.y (gv := vB) (fun _ => ?_) (fun _ => ?_)
   ·refine Run.z [true, true] ?_
    exact Run.x 2
   ·refine Run.z [false, false] ?_
    exact Run.x 2
  ·refine Run.z [false, false] ?_
   refine Run.y (gv := vB) (fun _ => ?_) (fun _ => ?_)
   ·refine Run.z [true, true] ?_
    refine Run.q (e := vB) (gv := vB) (ok_spec_OverlapI _ _) fun r6 _ => ?_
    refine Run.z [true, false, true, false] ?_
    refine Run.y (gv := vB) (fun _ => ?_) (fun _ => ?_)
    ·refine Run.y (gv := vB) (fun _ => ?_) (fun _ => ?_)
     ·refine Run.z [true, true] ?_
      exact Run.x 2
     ·refine Run.z [false, false] ?_
      exact Run.x 2
    ·exact ok_laws_FnDistances_cut2 c0 c1 r1 r2 r3 r4 r5 r6
   ·exact ok_laws_FnDistances_cut4 c0 c1 r1 r2 r3 r4 r5

theorem ok_laws_a2Long_ln (c0 : Cd) : Fun Tryz.prog 5 [(c0.row, c0.ty)] #[c0.sl 0, .slice none 0 0] (vB (F_laws_a2Long c0 Cd.nil)) [(c0.row, c0.ty)] := by
 refine Fun.ofH 400 E_ok mixed Tryz.func5 (by kernel_rfl) (by kernel_rfl) ?_
 unfold F_laws_a2Long
 refine Run.y (gv := vB) (fun _ => ?_) (fun _ => ?_)
 ·refine Run.z [true, true, true] ?_
  exact Run.x 1
 ·refine Run.z [false, false, false] ?_
  exact Run.x 1

theorem ok_laws_FnDistances_ln_cut1 (c0 : Cd) (r1 : Bool) (r2 : Pj × Pt) (r3 : Pt × Pt × Pt) (r4 : Iv × I64) (r5 : Iv × I64) (r6 : Bool) (r7 : Iv × I64) (r8 : Iv × I64) : Run Tryz.prog 3 (RvH [(c0.row, c0.ty)] (vB ((bif (r8.2.val == 0) then bindP (F_spec_AddI r7.1 r8.1) fun r9 => bindP (F_spec_LessI r9 r4.1) fun r10 => (bif (r10.val == 1) then false else bindP (F_impl_MapDistance r2.1 r2.2 r2.2) fun r11 => (bif (r11.2.val == 0) then bindP (F_spec_HasI r11.1 (c64 0)) fun r12 => (bif (!r12) then false else bindP (F_impl_StretchOf r2.1 r2.2 r3.1) fun r13 => bindP (F_spec_AngleBetween r2.2 r3.1) fun r14 => (bif (r13.2.val != 0) then true else (bif (r4.2.val == 0) then (bif (r14.2.val == 0) then bindP (F_spec_MulI r13.1 r14.1) fun r15 => bindP (F_spec_OverlapI r15 r4.1) fun r16 => r16 else false) else false))) else bindP (F_impl_StretchOf r2.1 r2.2 r3.1) fun r17 => bindP (F_spec_AngleBetween r2.2 r3.1) fun r18 => (bif (r17.2.val != 0) then true else (bif (r4.2.val == 0) then (bif (r18.2.val == 0) then bindP (F_spec_MulI r17.1 r18.1) fun r19 => bindP (F_spec_OverlapI r19 r4.1) fun r20 => r20 else false) else false)))) else bindP (F_impl_MapDistance r2.1 r2.2 r2.2) fun r21 => (bif (r21.2.val == 0) then bindP (F_spec_HasI r21.1 (c64 0)) fun r22 => (bif (!r22) then false else bindP (F_impl_StretchOf r2.1 r2.2 r3.1) fun r23 => bindP (F_spec_AngleBetween r2.2 r3.1) fun r24 => (bif (r23.2.val != 0) then true else (bif (r4.2.val == 0) then (bif (r24.2.val == 0) then bindP (F_spec_MulI r23.1 r24.1) fun r25 => bindP (F_spec_OverlapI r25 r4.1) fun r26 => r26 else false) else false))) else bindP (F_impl_StretchOf r2.1 r2.2 r3.1) fun r27 => bindP (F_spec_AngleBetween r2.2 r3.1) fun r28 => (bif (r27.2.val != 0) then true else (bif (r4.2.val == 0) then (bif (r28.2.val == 0) then bindP (F_spec_MulI r27.1 r28.1) fun r29 => bindP (F_spec_OverlapI r29 r4.1) fun r30 => r30 else false) else false))))))) (((((((((((((((((((start Tryz.prog E Tryz.f3 400 [(c0.row, c0.ty)] #[c0.sl 0, .slice none 0 0]).turned [0] [] (vB r1) []).no).turned [0] [] (vT_Pj_Pt r2) []).after (vT_Pt_Pt_Pt r3)).after (vT_Iv_I r4)).after (vT_Iv_I r5)).no).path [false, false]).yes).path [true, true]).after (vB r6)).path [true, false, true, false]).no).after (vT_Iv_I r7)).after (vT_Iv_I r8)).yes).path [true, true]).yes) := by
 refine Run.z [true, true] ?_
 refine Run.y (gv := vB) (fun _ => ?_) (fun _ => ?_)
 ·refine Run.z [true, true] ?_
  refine Run.q (e := vIv) (gv := vB) (ok_spec_AddI _ _) fun r9 _ => ?_
  refine Run.z [true, true] ?_
  refine Run.q (e := vI) (gv := vB) (ok_spec_LessI _ _) fun r10 _ => ?_
  refine Run.z [true, true] ?_
  refine Run.y (gv := vB) (fun _ => ?_) (fun _ => ?_)
  ·exact Run.x 1
  ·refine Run.q (e := vT_Iv_I) (gv := vB) (ok_impl_MapDistance _ _ _) fun r11 _ => ?_
   refine Run.y (gv := vB) (fun _ => ?_) (fun _ => ?_)
   ·refine Run.z [true] ?_
    refine Run.q (e := vB) (gv := vB) (ok_spec_HasI _ _) fun r12 _ => ?_
    refine Run.z [true, true] ?_
    refine Run.y (gv := vB) (fun _ => ?_) (fun _ => ?_)
    ·exact Run.x 1
    ·refine Run.q (e := vT_Iv_I) (gv := vB) (ok_impl_StretchOf _ _ _) fun r13 _ => ?_
     refine Run.q (e := vT_Iv_I) (gv := vB) (ok_spec_AngleBetween _ _) fun r14 _ => ?_
     refine Run.y (gv := vB) (fun _ => ?_) (fun _ => ?_)
     ·refine Run.z [true, true, true, true, true, true] ?_
      exact Run.x 1
     ·refine Run.z [false, false] ?_
      refine Run.y (gv := vB) (fun _ => ?_) (fun _ => ?_)
      ·refine Run.z [true, false, true, false] ?_
       refine Run.y (gv := vB) (fun _ => ?_) (fun _ => ?_)
       ·refine Run.z [true, true] ?_
        refine Run.q (e := vIv) (gv := vB) (ok_spec_MulI _ _) fun r15 _ => ?_
        refine Run.z [true, true] ?_
        refine Run.q (e := vB) (gv := vB) (ok_spec_OverlapI _ _) fun r16 _ => ?_
        refine Run.z [false, true, false] ?_
        exact Run.x 1
       ·refine Run.z [false, false, false, false, false, false, false] ?_
        exact Run.x 1
      ·refine Run.z [false, false, false, false, false, false, false, false, false, false, false, false] ?_
       exact Run.x 1
   ·refine Run.z [false, false, false, false] ?_
    refine Run.q (e := vT_Iv_I) (gv := vB) (ok_impl_StretchOf _ _ _) fun r17 _ => ?_
    refine Run.q (e := vT_Iv_I) (gv := vB) (ok_spec_AngleBetween _ _) fun r18 _ => ?_
    refine Run.y (gv := vB) (fun _ => ?_) (fun _ => ?_)
    ·refine Run.z [true, true, true, true, true, true] ?_
     exact Run.x 1
    ·refine Run.z [false, false] ?_
     refine Run.y (gv := vB) (fun _ => ?_) (fun _ => ?_)
     ·refine Run.z [true, false, true, false] ?_
      refine Run.y (gv := vB) (fun _ => ?_) (fun _ => ?_)
      ·refine Run.z [true, true] ?_
       refine Run.q (e := vIv) (gv := vB) (ok_spec_MulI _ _) fun r19 _ => ?_
       refine Run.z [true, true] ?_
       refine Run.q (e := vB) (gv := vB) (ok_spec_OverlapI _ _) fun r20 _ => ?_
       refine Run.z [false, true, false] ?_
       exact Run.x 1
      ·refine Run.z [false, false, false, false, false, false, false] ?_
       exact Run.x 1
     ·refine Run.z [false, false, false, false, false, false, false, false, false, false, false, false] ?_
      exact Run.x 1
 ·refine Run.z [false, false, false, false, false, false, false] ?_
  refine Run.q (e := vT_Iv_I) (gv := vB) (ok_impl_MapDistance _ _ _) fun r21 _ => ?_
  refine Run.y (gv := vB) (fun _ => ?_) (fun _ => ?_)
  ·refine Run.z [true] ?_
   refine Run.q (e := vB) (gv := vB) (ok_spec_HasI _ _) fun r22 _ => ?_
   refine Run.z [true, true] ?_
   refine Run.y (gv := vB) (fun _ => ?_) (fun _ => ?_)
   ·exact Run.x 1
   ·refine Run.q (e := vT_Iv_I) (gv := vB) (ok_impl_StretchOf _ _ _) fun r23 _ => ?_
    refine Run.q (e := vT_Iv_I) (gv := vB) (ok_spec_AngleBetween _ _) fun r24 _ => ?_
    refine Run.y (gv := vB) (fun _ => ?_) (fun _ => ?_)
    ·refine Run.z [true, true, true, true, true, true] ?_
     exact Run.x 1
    ·refine Run.z [false, false] ?_
     refine Run.y (gv := vB) (fun _ => ?_) (fun _ => ?_)
     ·refine Run.z [true, false, true, false] ?_
      refine Run.y (gv := vB) (fun _ => ?_) (fun _ => ?_)
      ·refine Run.z [true, true] ?_
       refine Run.q (e := vIv) (gv := vB) (ok_spec_MulI _ _) fun r25 _ => ?_
       refine Run.z [true, true] ?_
       refine Run.q (e := vB) (gv := vB) (ok_spec_OverlapI _ _) fun r26 _ => ?_
       refine Run.z [false, true, false] ?_
       exact Run.x 1
      ·refine Run.z [false, false, false, false, false, false, false] ?_
       exact Run.x 1
     ·refine Run.z [false, false, false, false, false, false, false, false, false, false, false, false] ?_
      exact Run.x 1
  ·refine Run.z [false, false, false, false] ?_
   refine Run.q (e := vT_Iv_I) (gv := vB) (ok_impl_StretchOf _ _ _) fun r27 _ => ?_
   refine Run.q (e := vT_Iv_I) (gv := vB) (ok_spec_AngleBetween _ _) fun r28 _ => ?_
   refine Run.y (gv := vB) (fun _ => ?_) (fun _ => ?_)
   ·refine Run.z [true, true, true, true, true, true] ?_
    exact Run.x 1
   ·refine Run.z [false, false] ?_
    refine Run.y (gv := vB) (fun _ => ?_) (fun _ => ?_)
    ·refine Run.z [true, false, true, false] ?_
     refine Run.y (gv := vB) (fun _ => ?_) (fun _ => ?_)
     ·refine Run.z [true, true] ?_
      refine Run.q (e := vIv) (gv := vB) (ok_spec_MulI _ _) fun r29 _ => ?_
      refine Run.z [true, true] ?_
      refine Run.q (e := vB) (gv := vB) (ok_spec_OverlapI _ _) fun r30 _ => ?_
      refine Run.z [false, true, false] ?_
      exact Run.x 1
     ·refine Run.z [false, false, false, false, false, false, false] ?_
      exact Run.x 1
    ·refine Run.z [false, false, false, false, false, false, false, false, false, false, false, false] ?_
     exact Run.x 1

theorem ok_laws_FnDistances_ln_cut2 (c0 : Cd) (r1 : Bool) (r2 : Pj × Pt) (r3 : Pt × Pt × Pt) (r4 : Iv × I64) (r5 : Iv × I64) (r6 : Bool) : Run Tryz.prog 3 (RvH [(c0.row, c0.ty)] (vB (bindP (F_impl_MapDistance r2.1 r2.2 r3.2.1) fun r7 => bindP (F_impl_MapDistance r2.1 r3.2.1 r3.1) fun r8 => (bif (r4.2.val == 0) then (bif (r7.2.val == 0) then (bif (r8.2.val == 0) then bindP (F_spec_AddI r7.1 r8.1) fun r9 => bindP (F_spec_LessI r9 r4.1) fun r10 => (bif (r10.val == 1) then false else bindP (F_impl_MapDistance r2.1 r2.2 r2.2) fun r11 => (bif (r11.2.val == 0) then bindP (F_spec_HasI r11.1 (c64 0)) fun r12 => (bif (!r12) then false else bindP (F_impl_StretchOf r2.1 r2.2 r3.1) fun r13 => bindP (F_spec_AngleBetween r2.2 r3.1) fun r14 => (bif (r13.2.val != 0) then true else (bif (r4.2.val == 0) then (bif (r14.2.val == 0) then bindP (F_spec_MulI r13.1 r14.1) fun r15 => bindP (F_spec_OverlapI r15 r4.1) fun r16 => r16 else false) else false))) else bindP (F_impl_StretchOf r2.1 r2.2 r3.1) fun r17 => bindP (F_spec_AngleBetween r2.2 r3.1) fun r18 => (bif (r17.2.val != 0) then true else (bif (r4.2.val == 0) then (bif (r18.2.val == 0) then bindP (F_spec_MulI r17.1 r18.1) fun r19 => bindP (F_spec_OverlapI r19 r4.1) fun r20 => r20 else false) else false)))) else bindP (F_impl_MapDistance r2.1 r2.2 r2.2) fun r21 => (bif (r21.2.val == 0) then bindP (F_spec_HasI r21.1 (c64 0)) fun r22 => (bif (!r22) then false else bindP (F_impl_StretchOf r2.1 r2.2 r3.1) fun r23 => bindP (F_spec_AngleBetween r2.2 r3.1) fun r24 => (bif (r23.2.val != 0) then true else (bif (r4.2.val == 0) then (bif (r24.2.val == 0) then bindP (F_spec_MulI r23.1 r24.1) fun r25 => bindP (F_spec_OverlapI r25 r4.1) fun r26 => r26 else false) else false))) else bindP (F_impl_StretchOf r2.1 r2.2 r3.1) fun r27 => bindP (F_spec_AngleBetween r2.2 r3.1) fun r28 => (bif (r27.2.val != 0) then true else (bif (r4.2.val == 0) then (bif (r28.2.val == 0) then bindP (F_spec_MulI r27.1 r28.1) fun r29 => bindP (F_spec_OverlapI r29 r4.1) fun r30 => r30 else false) else false)))) else bindP (F_impl_MapDistance r2.1 r2.2 r2.2) fun r31 => (bif (r31.2.val == 0) then bindP (F_spec_HasI r31.1 (c64 0)) fun r32 => (bif (!r32) then false else bindP (F_impl_StretchOf r2.1 r2.2 r3.1) fun r33 => bindP (F_spec_AngleBetween r2.2 r3.1) fun r34 => (bif (r33.2.val != 0) then true else (bif (r4.2.val == 0) then (bif (r34.2.val == 0) then bindP (F_spec_MulI r33.1 r34.1) fun r35 => bindP (F_spec_OverlapI r35 r4.1) fun r36 => r36 else false) else false))) else bindP (F_impl_StretchOf r2.1 r2.2 r3.1) fun r37 => bindP (F_spec_AngleBetween r2.2 r3.1) fun r38 => (bif (r37.2.val != 0) then true else (bif (r4.2.val == 0) then (bif (r38.2.val == 0) then bindP (F_spec_MulI r37.1 r38.1) fun r39 => bindP (F_spec_OverlapI r39 r4.1) fun r40 => r40 else false) else false)))) else bindP (F_impl_MapDistance r2.1 r2.2 r2.2) fun r41 => (bif (r41.2.val == 0) then bindP (F_spec_HasI r41.1 (c64 0)) fun r42 => (bif (!r42) then false else bindP (F_impl_StretchOf r2.1 r2.2 r3.1) fun r43 => bindP (F_spec_AngleBetween r2.2 r3.1) fun r44 => (bif (r43.2.val != 0) then true else (bif (r4.2.val == 0) then (bif (r44.2.val == 0) then bindP (F_spec_MulI r43.1 r44.1) fun r45 => bindP (F_spec_OverlapI r45 r4.1) fun r46 => r46 else false) else false))) else bindP (F_impl_StretchOf r2.1 r2.2 r3.1) fun r47 => bindP (F_spec_AngleBetween r2.2 r3.1) fun r48 => (bif (r47.2.val != 0) then true else (bif (r4.2.val == 0) then (bif (r48.2.val == 0) then bindP (F_spec_MulI r47.1 r48.1) fun r49 => bindP (F_spec_OverlapI r49 r4.1) fun r50 => r50 else false) else false))))))) ((((((((((((((start Tryz.prog E Tryz.f3 400 [(c0.row, c0.ty)] #[c0.sl 0, .slice none 0 0]).turned [0] [] (vB r1) []).no).turned [0] [] (vT_Pj_Pt r2) []).after (vT_Pt_Pt_Pt r3)).after (vT_Iv_I r4)).after (vT_Iv_I r5)).no).path [false, false]).yes).path [true, true]).after (vB r6)).path [true, false, true, false]).no) := by
 refine Run.q (e := vT_Iv_I) (gv := vB) (ok_impl_MapDistance _ _ _) fun r7 _ => ?_
 refine Run.q (e := vT_Iv_I) (gv := vB) (ok_impl_MapDistance _ _ _) fun r8 _ => ?_
 refine Run.y (gv := vB) (fun _ => ?_) (fun _ => ?_)
 ·refine Run.z [true, true] ?_
  refine Run.y (gv := vB) (fun _ => ?_) (fun _ => ?_)
  ·exact ok_laws_FnDistances_ln_cut1 c0 r1 r2 r3 r4 r5 r6 r7 r8
  ·refine Run.z [false, false, false, false, false, false, false, false, false, false] ?_
   refine Run.q (e := vT_Iv_I) (gv := vB) (ok_impl_MapDistance _ _ _) fun r31 _ => ?_
   refine Run.y (gv := vB) (fun _ => ?_) (fun _ => ?_)
   ·refine Run.z [true] ?_
    refine Run.q (e := vB) (gv := vB) (ok_spec_HasI _ _) fun r32 _ => ?_
    refine Run.z [true, true] ?_
    refine Run.y (gv := vB) (fun _ => ?_) (fun _ => ?_)
    ·exact Run.x 1
    ·refine Run.q (e := vT_Iv_I) (gv := vB) (ok_impl_StretchOf _ _ _) fun r33 _ => ?_
     refine Run.q (e := vT_Iv_I) (gv := vB) (ok_spec_AngleBetween _ _) fun r34 _ => ?_
     refine Run.y (gv := vB) (fun _ => ?_) (fun _ => ?_)
     ·refine Run.z [true, true, true, true, true, true] ?_
      exact Run.x 1
     ·refine Run.z [false, false] ?_
      refine Run.y (gv := vB) (fun _ => ?_) (fun _ => ?_)
      ·refine Run.z [true, false, true, false] ?_
       refine Run.y (gv := vB) (fun _ => ?_) (fun _ => ?_)
       ·refine Run.z [true, true] ?_
        refine Run.q (e := vIv) (gv := vB) (ok_spec_MulI _ _) fun r35 _ => ?_
        refine Run.z [true, true] ?_
        refine Run.q (e := vB) (gv := vB) (ok_spec_OverlapI _ _) fun r36 _ => ?_
        refine Run.z [false, true, false] ?_
        exact Run.x 1
       ·refine Run.z [false, false, false, false, false, false, false] ?_
        exact Run.x 1
      ·refine Run.z [false, false, false, false, false, false, false, false, false, false, false, false] ?_
       exact Run.x 1
   ·refine Run.z [false, false, false, false] ?_
    refine Run.q (e := vT_Iv_I) (gv := vB) (ok_impl_StretchOf _ _ _) fun r37 _ => ?_
    refine Run.q (e := vT_Iv_I) (gv := vB) (ok_spec_AngleBetween _ _) fun r38 _ => ?_
    refine Run.y (gv := vB) (fun _ => ?_) (fun _ => ?_)
    ·refine Run.z [true, true, true, true, true, true] ?_
     exact Run.x 1
    ·refine Run.z [false, false] ?_
     refine Run.y (gv := vB) (fun _ => ?_) (fun _ => ?_)
     ·refine Run.z [true, false, true, false] ?_
      refine Run.y (gv := vB) (fun _ => ?_) (fun _ => ?_)
      ·refine Run.z [true, true] ?_
       refine Run.q (e := vIv) (gv := vB) (ok_spec_MulI _ _) fun r39 _ => ?_
       refine Run.z [true, true] ?_
       refine Run.q (e := vB) (gv := vB) (ok_spec_OverlapI _ _) fun r40 _ => ?_
       refine Run.z [false, true, false] ?_
       exact Run.x 1
      ·refine Run.z [false, false, false, false, false, false, false] ?_
       exact Run.x 1
     ·refine Run.z [false, false, false, false, false, false, false, false, false, false, false, false] ?_
      exact Run.x 1
 ·refine Run.z [false, false, false, false, false, false, false, false, false, false, false, false, false] ?_
  refine Run.q (e := vT_Iv_I) (gv := vB) (ok_impl_MapDistance _ _ _) fun r41 _ => ?_
  refine Run.y (gv := vB) (fun _ => ?_) (fun _ => ?_)
  ·refine Run.z [true] ?_
   refine Run.q (e := vB) (gv := vB) (ok_spec_HasI _ _) fun r42 _ => ?_
   refine Run.z [true, true] ?_
   refine Run.y (gv := vB) (fun _ => ?_) (fun _ => ?_)
   ·exact Run.x 1
   ·refine Run.q (e := vT_Iv_I) (gv := vB) (ok_impl_StretchOf _ _ _) fun r43 _ => ?_
    refine Run.q (e := vT_Iv_I) (gv := vB) (ok_spec_AngleBetween _ _) fun r44 _ => ?_
    refine Run.y (gv := vB) (fun _ => ?_) (fun _ => ?_)
    ·refine Run.z [true, true, true, true, true, true] ?_
     exact Run.x 1
    ·refine Run.z [false, false] ?_
     refine Run.y (gv := vB) (fun _ => ?_) (fun _ => ?_)
     ·refine Run.z [true, false, true, false] ?_
      refine Run.y (gv := vB) (fun _ => ?_) (fun _ => ?_)
      ·refine Run.z [true, true] ?_
       refine Run.q (e := vIv) (gv := vB) (ok_spec_MulI _ _) fun r45 _ => ?_
       refine Run.z [true, true] ?_
       refine Run.q (e := vB) (gv := vB) (ok_spec_OverlapI _ _) fun r46 _ => ?_
       refine Run.z [false, true, false] ?_
       exact Run.x 1
      ·refine Run.z [false, false, false, false, false, false, false] ?_
       exact Run.x 1
     ·refine Run.z [false, false, false, false, false, false, false, false, false, false, false, false] ?_
      exact Run.x 1
  ·refine Run.z [false, false, false, false] ?_
   refine Run.q (e := vT_Iv_I) (gv := vB) (ok_impl_StretchOf _ _ _) fun r47 _ => ?_
   refine Run.q (e := vT_Iv_I) (gv := vB) (ok_spec_AngleBetween _ _) fun r48 _ => ?_
   refine Run.y (gv := vB) (fun _ => ?_) (fun _ => ?_)
   ·refine Run.z [true, true, true, true, true, true] ?_
    exact Run.x 1
   ·refine Run.z [false, false] ?_
    refine Run.y (gv := vB) (fun _ => ?_) (fun _ => ?_)
    ·refine Run.z [true, false, true, false] ?_
     refine Run.y (gv := vB) (fun _ => ?_) (fun _ => ?_)
     ·refine Run.z [true, true] ?_
      refine Run.q (e := vIv) (gv := vB) (ok_spec_MulI _ _) fun r49 _ => ?_
      refine Run.z [true, true] ?_
      refine Run.q (e := vB) (gv := vB) (ok_spec_OverlapI _ _) fun r50 _ => ?_
      refine Run.z [false, true, false] ?_
      exact Run.x 1
     ·refine Run.z [false, false, false, false, false, false, false] ?_
      exact Run.x 1
    ·refine Run.z [false, false, false, false, false, false, false, false, false, false, false, false] ?_
     exact Run.x 1

theorem ok_laws_FnDistances_ln_cut3 (c0 : Cd) (r1 : Bool) (r2 : Pj × Pt) (r3 : Pt × Pt × Pt) (r4 : Iv × I64) (r5 : Iv × I64) (r51 : Iv × I64) (r52 : Iv × I64) : Run Tryz.prog 3 (RvH [(c0.row, c0.ty)] (vB ((bif (r52.2.val == 0) then bindP (F_spec_AddI r51.1 r52.1) fun r53 => bindP (F_spec_LessI r53 r4.1) fun r54 => (bif (r54.val == 1) then false else bindP (F_impl_MapDistance r2.1 r2.2 r2.2) fun r55 => (bif (r55.2.val == 0) then bindP (F_spec_HasI r55.1 (c64 0)) fun r56 => (bif (!r56) then false else bindP (F_impl_StretchOf r2.1 r2.2 r3.1) fun r57 => bindP (F_spec_AngleBetween r2.2 r3.1) fun r58 => (bif (r57.2.val != 0) then true else (bif (r4.2.val == 0) then (bif (r58.2.val == 0) then bindP (F_spec_MulI r57.1 r58.1) fun r59 => bindP (F_spec_OverlapI r59 r4.1) fun r60 => r60 else false) else false))) else bindP (F_impl_StretchOf r2.1 r2.2 r3.1) fun r61 => bindP (F_spec_AngleBetween r2.2 r3.1) fun r62 => (bif (r61.2.val != 0) then true else (bif (r4.2.val == 0) then (bif (r62.2.val == 0) then bindP (F_spec_MulI r61.1 r62.1) fun r63 => bindP (F_spec_OverlapI r63 r4.1) fun r64 => r64 else false) else false)))) else bindP (F_impl_MapDistance r2.1 r2.2 r2.2) fun r65 => (bif (r65.2.val == 0) then bindP (F_spec_HasI r65.1 (c64 0)) fun r66 => (bif (!r66) then false else bindP (F_impl_StretchOf r2.1 r2.2 r3.1) fun r67 => bindP (F_spec_AngleBetween r2.2 r3.1) fun r68 => (bif (r67.2.val != 0) then true else (bif (r4.2.val == 0) then (bif (r68.2.val == 0) then bindP (F_spec_MulI r67.1 r68.1) fun r69 => bindP (F_spec_OverlapI r69 r4.1) fun r70 => r70 else false) else false))) else bindP (F_impl_StretchOf r2.1 r2.2 r3.1) fun r71 => bindP (F_spec_AngleBetween r2.2 r3.1) fun r72 => (bif (r71.2.val != 0) then true else (bif (r4.2.val == 0) then (bif (r72.2.val == 0) then bindP (F_spec_MulI r71.1 r72.1) fun r73 => bindP (F_spec_OverlapI r73 r4.1) fun r74 => r74 else false) else false))))))) ((((((((((((((((start Tryz.prog E Tryz.f3 400 [(c0.row, c0.ty)] #[c0.sl 0, .slice none 0 0]).turned [0] [] (vB r1) []).no).turned [0] [] (vT_Pj_Pt r2) []).after (vT_Pt_Pt_Pt r3)).after (vT_Iv_I r4)).after (vT_Iv_I r5)).no).path [false, false]).no).path [false, false, false, false, false, false, false]).after (vT_Iv_I r51)).after (vT_Iv_I r52)).yes).path [true, true]).yes) := by
 refine Run.z [true, true] ?_
 refine Run.y (gv := vB) (fun _ => ?_) (fun _ => ?_)
 ·refine Run.z [true, true] ?_
  refine Run.q (e := vIv) (gv := vB) (ok_spec_AddI _ _) fun r53 _ => ?_
  refine Run.z [true, true] ?_
  refine Run.q (e := vI) (gv := vB) (ok_spec_LessI _ _) fun r54 _ => ?_
  refine Run.z [true, true] ?_
  refine Run.y (gv := vB) (fun _ => ?_) (fun _ => ?_)
  ·exact Run.x 1
  ·refine Run.q (e := vT_Iv_I) (gv := vB) (ok_impl_MapDistance _ _ _) fun r55 _ => ?_
   refine Run.y (gv := vB) (fun _ => ?_) (fun _ => ?_)
   ·refine Run.z [true] ?_
    refine Run.q (e := vB) (gv := vB) (ok_spec_HasI _ _) fun r56 _ => ?_
    refine Run.z [true, true] ?_
    refine Run.y (gv := vB) (fun _ => ?_) (fun _ => ?_)
    ·exact Run.x 1
    ·refine Run.q (e := vT_Iv_I) (gv := vB) (ok_impl_StretchOf _ _ _) fun r57 _ => ?_
     refine Run.q (e := vT_Iv_I) (gv := vB) (ok_spec_AngleBetween _ _) fun r58 _ => ?_
     refine Run.y (gv := vB) (fun _ => ?_) (fun _ => ?_)
     ·refine Run.z [true, true, true, true, true, true] ?_
      exact Run.x 1
     ·refine Run.z [false, false] ?_
      refine Run.y (gv := vB) (fun _ => ?_) (fun _ => ?_)
      ·refine Run.z [true, false, true, false] ?_
       refine Run.y (gv := vB) (fun _ => ?_) (fun _ => ?_)
       ·refine Run.z [true, true] ?_
        refine Run.q (e := vIv) (gv := vB) (ok_spec_MulI _ _) fun r59 _ => ?_
        refine Run.z [true, true] ?_
        refine Run.q (e := vB) (gv := vB) (ok_spec_OverlapI _ _) fun r60 _ => ?_
        refine Run.z [false, true, false] ?_
        exact Run.x 1
       ·refine Run.z [false, false, false, false, false, false, false] ?_
        exact Run.x 1
      ·refine Run.z [false, false, false, false, false, false, false, false, false, false, false, false] ?_
       exact Run.x 1
   ·refine Run.z [false, false, false, false] ?_
    refine Run.q (e := vT_Iv_I) (gv := vB) (ok_impl_StretchOf _ _ _) fun r61 _ => ?_
    refine Run.q (e := vT_Iv_I) (gv := vB) (ok_spec_AngleBetween _ _) fun r62 _ => ?_
    refine Run.y (gv := vB) (fun _ => ?_) (fun _ => ?_)
    ·refine Run.z [true, true, true, true, true, true] ?_
     exact Run.x 1
    ·refine Run.z [false, false] ?_
     refine Run.y (gv := vB) (fun _ => ?_) (fun _ => ?_)
     ·refine Run.z [true, false, true, false] ?_
      refine Run.y (gv := vB) (fun _ => ?_) (fun _ => ?_)
      ·refine Run.z [true, true] ?_
       refine Run.q (e := vIv) (gv := vB) (ok_spec_MulI _ _) fun r63 _ => ?_
       refine Run.z [true, true] ?_
       refine Run.q (e := vB) (gv := vB) (ok_spec_OverlapI _ _) fun r64 _ => ?_
       refine Run.z [false, true, false] ?_
       exact Run.x 1
      ·refine Run.z [false, false, false, false, false, false, false] ?_
       exact Run.x 1
     ·refine Run.z [false, false, false, false, false, false, false, false, false, false, false, false] ?_
      exact Run.x 1
 ·refine Run.z [false, false, false, false, false, false, false] ?_
  refine Run.q (e := vT_Iv_I) (gv := vB) (ok_impl_MapDistance _ _ _) fun r65 _ => ?_
  refine Run.y (gv := vB) (fun _ => ?_) (fun _ => ?_)
  ·refine Run.z [true] ?_
   refine Run.q (e := vB) (gv := vB) (ok_spec_HasI _ _) fun r66 _ => ?_
   refine Run.z [true, true] ?_
   refine Run.y (gv := vB) (fun _ => ?_) (fun _ => ?_)
   ·exact Run.x 1
   ·refine Run.q (e := vT_Iv_I) (gv := vB) (ok_impl_StretchOf _ _ _) fun r67 _ => ?_
    refine Run.q (e := vT_Iv_I) (gv := vB) (ok_spec_AngleBetween _ _) fun r68 _ => ?_
    refine Run.y (gv := vB) (fun _ => ?_) (fun _ => ?_)
    ·refine Run.z [true, true, true, true, true, true] ?_
     exact Run.x 1
    ·refine Run.z [false, false] ?_
     refine Run.y (gv := vB) (fun _ => ?_) (fun _ => ?_)
     ·refine Run.z [true, false, true, false] ?_
      refine Run.y (gv := vB) (fun _ => ?_) (fun _ => ?_)
      ·refine Run.z [true, true] ?_
       refine Run.q (e := vIv) (gv := vB) (ok_spec_MulI _ _) fun r69 _ => ?_
       refine Run.z [true, true] ?_
       refine Run.q (e := vB) (gv := vB) (ok_spec_OverlapI _ _) fun r70 _ => ?_
       refine Run.z [false, true, false] ?_
       exact Run.x 1
      ·refine Run.z [false, false, false, false, false, false, false] ?_
       exact Run.x 1
     ·refine Run.z [false, false, false, false, false, false, false, false, false, false, false, false] ?_
      exact Run.x 1
  ·refine Run.z [false, false, false, false] ?_
   refine Run.q (e := vT_Iv_I) (gv := vB) (ok_impl_StretchOf _ _ _) fun r71 _ => ?_
   refine Run.q (e := vT_Iv_I) (gv := vB) (ok_spec_AngleBetween _ _) fun r72 _ => ?_
   refine Run.y (gv := vB) (fun _ => ?_) (fun _ => ?_)
   ·refine Run.z [true, true, true, true, true, true] ?_
    exact Run.x 1
   ·refine Run.z [false, false] ?_
    refine Run.y (gv := vB) (fun _ => ?_) (fun _ => ?_)
    ·refine Run.z [true, false, true, false] ?_
     refine Run.y (gv := vB) (fun _ => ?_) (fun _ => ?_)
     ·refine Run.z [true, true] ?_
      refine Run.q (e := vIv) (gv := vB) (ok_spec_MulI _ _) fun r73 _ => ?_
      refine Run.z [true, true] ?_
      refine Run.q (e := vB) (gv := vB) (ok_spec_OverlapI _ _) fun r74 _ => ?_
      refine Run.z [false, true, false] ?_
      exact Run.x 1
     ·refine Run.z [false, false, false, false, false, false, false] ?_
      exact Run.x 1
    ·refine Run.z [false, false, false, false, false, false, false, false, false, false, false, false] ?_
     exact Run.x 1

theorem ok_laws_FnDistances_ln_cut4 (c0 : Cd) (r1 : Bool) (r2 : Pj × Pt) (r3 : Pt × Pt × Pt) (r4 : Iv × I64) (r5 : Iv × I64) : Run Tryz.prog 3 (RvH [(c0.row, c0.ty)] (vB (bindP (F_impl_MapDistance r2.1 r2.2 r3.2.1) fun r51 => bindP (F_impl_MapDistance r2.1 r3.2.1 r3.1) fun r52 => (bif (r4.2.val == 0) then (bif (r51.2.val == 0) then (bif (r52.2.val == 0) then bindP (F_spec_AddI r51.1 r52.1) fun r53 => bindP (F_spec_LessI r53 r4.1) fun r54 => (bif (r54.val == 1) then false else bindP (F_impl_MapDistance r2.1 r2.2 r2.2) fun r55 => (bif (r55.2.val == 0) then bindP (F_spec_HasI r55.1 (c64 0)) fun r56 => (bif (!r56) then false else bindP (F_impl_StretchOf r2.1 r2.2 r3.1) fun r57 => bindP (F_spec_AngleBetween r2.2 r3.1) fun r58 => (bif (r57.2.val != 0) then true else (bif (r4.2.val == 0) then (bif (r58.2.val == 0) then bindP (F_spec_MulI r57.1 r58.1) fun r59 => bindP (F_spec_OverlapI r59 r4.1) fun r60 => r60 else false) else false))) else bindP (F_impl_StretchOf r2.1 r2.2 r3.1) fun r61 => bindP (F_spec_AngleBetween r2.2 r3.1) fun r62 => (bif (r61.2.val != 0) then true else (bif (r4.2.val == 0) then (bif (r62.2.val == 0) then bindP (F_spec_MulI r61.1 r62.1) fun r63 => bindP (F_spec_OverlapI r63 r4.1) fun r64 => r64 else false) else false)))) else bindP (F_impl_MapDistance r2.1 r2.2 r2.2) fun r65 => (bif (r65.2.val == 0) then bindP (F_spec_HasI r65.1 (c64 0)) fun r66 => (bif (!r66) then false else bindP (F_impl_StretchOf r2.1 r2.2 r3.1) fun r67 => bindP (F_spec_AngleBetween r2.2 r3.1) fun r68 => (bif (r67.2.val != 0) then true else (bif (r4.2.val == 0) then (bif (r68.2.val == 0) then bindP (F_spec_MulI r67.1 r68.1) fun r69 => bindP (F_spec_OverlapI r69 r4.1) fun r70 => r70 else false) else false))) else bindP (F_impl_StretchOf r2.1 r2.2 r3.1) fun r71 => bindP (F_spec_AngleBetween r2.2 r3.1) fun r72 => (bif (r71.2.val != 0) then true else (bif (r4.2.val == 0) then (bif (r72.2.val == 0) then bindP (F_spec_MulI r71.1 r72.1) fun r73 => bindP (F_spec_OverlapI r73 r4.1) fun r74 => r74 else false) else false)))) else bindP (F_impl_MapDistance r2.1 r2.2 r2.2) fun r75 => (bif (r75.2.val == 0) then bindP (F_spec_HasI r75.1 (c64 0)) fun r76 => (bif (!r76) then false else bindP (F_impl_StretchOf r2.1 r2.2 r3.1) fun r77 => bindP (F_spec_AngleBetween r2.2 r3.1) fun r78 => (bif (r77.2.val != 0) then true else (bif (r4.2.val == 0) then (bif (r78.2.val == 0) then bindP (F_spec_MulI r77.1 r78.1) fun r79 => bindP (F_spec_OverlapI r79 r4.1) fun r80 => r80 else false) else false))) else bindP (F_impl_StretchOf r2.1 r2.2 r3.1) fun r81 => bindP (F_spec_AngleBetween r2.2 r3.1) fun r82 => (bif (r81.2.val != 0) then true else (bif (r4.2.val == 0) then (bif (r82.2.val == 0) then bindP (F_spec_MulI r81.1 r82.1) fun r83 => bindP (F_spec_OverlapI r83 r4.1) fun r84 => r84 else false) else false)))) else bindP (F_impl_MapDistance r2.1 r2.2 r2.2) fun r85 => (bif (r85.2.val == 0) then bindP (F_spec_HasI r85.1 (c64 0)) fun r86 => (bif (!r86) then false else bindP (F_impl_StretchOf r2.1 r2.2 r3.1) fun r87 => bindP (F_spec_AngleBetween r2.2 r3.1) fun r88 => (bif (r87.2.val != 0) then true else (bif (r4.2.val == 0) then (bif (r88.2.val == 0) then bindP (F_spec_MulI r87.1 r88.1) fun r89 => bindP (F_spec_OverlapI r89 r4.1) fun r90 => r90 else false) else false))) else bindP (F_impl_StretchOf r2.1 r2.2 r3.1) fun r91 => bindP (F_spec_AngleBetween r2.2 r3.1) fun r92 => (bif (r91.2.val != 0) then true else (bif (r4.2.val == 0) then (bif (r92.2.val == 0) then bindP (F_spec_MulI r91.1 r92.1) fun r93 => bindP (F_spec_OverlapI r93 r4.1) fun r94 => r94 else false) else false))))))) ((((((((((start Tryz.prog E Tryz.f3 400 [(c0.row, c0.ty)] #[c0.sl 0, .slice none 0 0]).turned [0] [] (vB r1) []).no).turned [0] [] (vT_Pj_Pt r2) []).after (vT_Pt_Pt_Pt r3)).after (vT_Iv_I r4)).after (vT_Iv_I r5)).no).path [false, false]).no) := by
 refine Run.z [false, false, false, false, false, false, false] ?_
 refine Run.q (e := vT_Iv_I) (gv := vB) (ok_impl_MapDistance _ _ _) fun r51 _ => ?_
 refine Run.q (e := vT_Iv_I) (gv := vB) (ok_impl_MapDistance _ _ _) fun r52 _ => ?_
 refine Run.y (gv := vB) (fun _ => ?_) (fun _ => ?_)
 ·refine Run.z [true, true] ?_
  refine Run.y (gv := vB) (fun _ => ?_) (fun _ => ?_)
  ·exact ok_laws_FnDistances_ln_cut3 c0 r1 r2 r3 r4 r5 r51 r52
  ·refine Run.z [false, false, false, false, false, false, false, false, false, false] ?_
   refine Run.q (e := vT_Iv_I) (gv := vB) (ok_impl_MapDistance _ _ _) fun r75 _ => ?_
   refine Run.y (gv := vB) (fun _ => ?_) (fun _ => ?_)
   ·refine Run.z [true] ?_
    refine Run.q (e := vB) (gv := vB) (ok_spec_HasI _ _) fun r76 _ => ?_
    refine Run.z [true, true] ?_
    refine Run.y (gv := vB) (fun _ => ?_) (fun _ => ?_)
    ·exact Run.x 1
    ·refine Run.q (e := vT_Iv_I) (gv := vB) (ok_impl_StretchOf _ _ _) fun r77 _ => ?_
     refine Run.q (e := vT_Iv_I) (gv := vB) (ok_spec_AngleBetween _ _) fun r78 _ => ?_
     refine Run.y (gv := vB) (fun _ => ?_) (fun _ => ?_)
     ·refine Run.z [true, true, true, true, true, true] ?_
      exact Run.x 1
     ·refine Run.z [false, false] ?_
      refine Run.y (gv := vB) (fun _ => ?_) (fun _ => ?_)
      ·refine Run.z [true, false, true, false] ?_
       refine Run.y (gv := vB) (fun _ => ?_) (fun _ => ?_)
       ·refine Run.z [true, true] ?_
        refine Run.q (e := vIv) (gv := vB) (ok_spec_MulI _ _) fun r79 _ => ?_
        refine Run.z [true, true] ?_
        refine Run.q (e := vB) (gv := vB) (ok_spec_OverlapI _ _) fun r80 _ => ?_
        refine Run.z [false, true, false] ?_
        exact Run.x 1
       ·refine Run.z [false, false, false, false, false, false, false] ?_
        exact Run.x 1
      ·refine Run.z [false, false, false, false, false, false, false, false, false, false, false, false] ?_
       exact Run.x 1
   ·refine Run.z [false, false, false, false] ?_
    refine Run.q (e := vT_Iv_I) (gv := vB) (ok_impl_StretchOf _ _ _) fun r81 _ => ?_
    refine Run.q (e := vT_Iv_I) (gv := vB) (ok_spec_AngleBetween _ _) fun r82 _ => ?_
    refine Run.y (gv := vB) (fun _ => ?_) (fun _ => ?_)
    ·refine Run.z [true, true, true, true, true, true] ?_
     exact Run.x 1
    ·refine Run.z [false, false] ?_
     refine Run.y (gv := vB) (fun _ => ?_) (fun _ => ?_)
     ·refine Run.z [true, false, true, false] ?_
      refine Run.y (gv := vB) (fun _ => ?_) (fun _ => ?_)
      ·refine Run.z [true, true] ?_
       refine Run.q (e := vIv) (gv := vB) (ok_spec_MulI _ _) fun r83 _ => ?_
       refine Run.z [true, true] ?_
       refine Run.q (e := vB) (gv := vB) (ok_spec_OverlapI _ _) fun r84 _ => ?_
       refine Run.z [false, true, false] ?_
       exact Run.x 1
      ·refine Run.z [false, false, false, false, false, false, false] ?_
       exact Run.x 1
     ·refine Run.z [false, false, false, false, false, false, false, false, false, false, false, false] ?_
      exact Run.x 1
 ·refine Run.z [false, false, false, false, false, false, false, false, false, false, false, false, false] ?_
  refine Run.q (e := vT_Iv_I) (gv := vB) (ok_impl_MapDistance _ _ _) fun r85 _ => ?_
  refine Run.y (gv := vB) (fun _ => ?_) (fun _ => ?_)
  ·refine Run.z [true] ?_
   refine Run.q (e := vB) (gv := vB) (ok_spec_HasI _ _) fun r86 _ => ?_
   refine Run.z [true, true] ?_
   refine Run.y (gv := vB) (fun _ => ?_) (fun _ => ?_)
   ·exact Run.x 1
   ·refine Run.q (e := vT_Iv_I) (gv := vB) (ok_impl_StretchOf _ _ _) fun r87 _ => ?_
    refine Run.q (e := vT_Iv_I) (gv := vB) (ok_spec_AngleBetween _ _) fun r88 _ => ?_
    refine Run.y (gv := vB) (fun _ => ?_) (fun _ => ?_)
    ·refine Run.z [true, true, true, true, true, true] ?_
     exact Run.x 1
    ·refine Run.z [false, false] ?_
     refine Run.y (gv := vB) (fun _ => ?_) (fun _ => ?_)
     ·refine Run.z [true, false, true, false] ?_
      refine Run.y (gv := vB) (fun _ => ?_) (fun _ => ?_)
      ·refine Run.z [true, true] ?_
       refine Run.q (e := vIv) (gv := vB) (ok_spec_MulI _ _) fun r89 _ => ?_
       refine Run.z [true, true] ?_
       refine Run.q (e := vB) (gv := vB) (ok_spec_OverlapI _ _) fun r90 _ => ?_
       refine Run.z [false, true, false] ?_
       exact Run.x 1
      ·refine Run.z [false, false, false, false, false, false, false] ?_
       exact Run.x 1
     ·refine Run.z [false, false, false, false, false, false, false, false, false, false, false, false] ?_
      exact Run.x 1
  ·refine Run.z [false, false, false, false] ?_
   refine Run.q (e := vT_Iv_I) (gv := vB) (ok_impl_StretchOf _ _ _) fun r91 _ => ?_
   refine Run.q (e := vT_Iv_I) (gv := vB) (ok_spec_AngleBetween _ _) fun r92 _ => ?_
   refine Run.y (gv := vB) (fun _ => ?_) (fun _ => ?_)
   ·refine Run.z [true, true, true, true, true, true] ?_
    exact Run.x 1
   ·refine Run.z [false, false] ?_
    refine Run.y (gv := vB) (fun _ => ?_) (fun _ => ?_)
    ·refine Run.z [true, false, true, false] ?_
     refine Run.y (gv := vB) (fun _ => ?_) (fun _ => ?_)
     ·refine Run.z [true, true] ?_
      refine Run.q (e := vIv) (gv := vB) (ok_spec_MulI _ _) fun r93 _ => ?_
      refine Run.z [true, true] ?_
      refine Run.q (e := vB) (gv := vB) (ok_spec_OverlapI _ _) fun r94 _ => ?_
      refine Run.z [false, true, false] ?_
      exact Run.x 1
     ·refine Run.z [false, false, false, false, false, false, false] ?_
      exact Run.x 1
    ·refine Run.z [false, false, false, false, false, false, false, false, false, false, false, false] ?_
     exact Run.x 1

theorem ok_laws_FnDistances_ln (c0 : Cd) : Fun Tryz.prog 3 [(c0.row, c0.ty)] #[c0.sl 0, .slice none 0 0] (vB (F_laws_FnDistances c0 Cd.nil)) [(c0.row, c0.ty)] := by
 refine Fun.ofH 400 E_ok mixed Tryz.func3 (by kernel_rfl) (by kernel_rfl) ?_
 unfold F_laws_FnDistances
 refine Run.vl (e := vB) (gv := vB) [0] (ok_laws_a2Long_ln _) (allc (c0.calm) rfl) fun r1 _ => ?_
 refine Run.y (gv := vB) (fun _ => ?_) (fun _ => ?_)
 ·exact Run.x 1
 ·refine Run.vl (e := vT_Pj_Pt) (gv := vB) [0] (ok_spec_A2Projection _ _ _) (allc (c0.calm) rfl) fun r2 _ => ?_
  refine Run.q (e := vT_Pt_Pt_Pt) (gv := vB) (ok_spec_A2Points_n) fun r3 _ => ?_
  refine Run.q (e := vT_Iv_I) (gv := vB) (ok_impl_MapDistance _ _ _) fun r4 _ => ?_
  refine Run.q (e := vT_Iv_I) (gv := vB) (ok_impl_MapDistance _ _ _) fun r5 _ => ?_
  refine Run.y (gv := vB) (fun _ => ?_) (fun _ => ?_)
  ·refine Run.z [true, true, true, true, true] ?_
   refine Run.y (gv := vB) (fun _ => ?_) (fun _ => ?_)
   ·refine Run.z [true, true] ?_
    exact Run.x 1
   ·refine Run.z [false, false] ?_
    exact Run.x 1
  ·refine Run.z [false, false] ?_
   refine Run.y (gv := vB) (fun _ => ?_) (fun _ => ?_)
   ·refine Run.z [true, true] ?_
    refine Run.q (e := vB) (gv := vB) (ok_spec_OverlapI _ _) fun r6 _ => ?_
    refine Run.z [true, false, true, false] ?_
    refine Run.y (gv := vB) (fun _ => ?_) (fun _ => ?_)
    ·refine Run.y (gv := vB) (fun _ => ?_) (fun _ => ?_)
     ·refine Run.z [true, true] ?_
      exact Run.x 1
     ·refine Run.z [false, false] ?_
      exact Run.x 1
    ·exact ok_laws_FnDistances_ln_cut2 c0 r1 r2 r3 r4 r5 r6
   ·exact ok_laws_FnDistances_ln_cut4 c0 r1 r2 r3 r4 r5

theorem ok_laws_a2Long_nl (c0 : Cd) : Fun Tryz.prog 5 [(c0.row, c0.ty)] #[.slice none 0 0, c0.sl 0] (vB (F_laws_a2Long Cd.nil c0)) [(c0.row, c0.ty)] := by
 refine Fun.ofH 400 E_ok mixed Tryz.func5 (by kernel_rfl) (by kernel_rfl) ?_
 unfold F_laws_a2Long
 refine Run.y (gv := vB) (fun _ => ?_) (fun _ => ?_)
 ·refine Run.z [true, true, true] ?_
  exact Run.x 1
 ·refine Run.z [false, false, false] ?_
  exact Run.x 1

end Go.Proofs.YtbpkpmmmeneagaaGreat.Abs
