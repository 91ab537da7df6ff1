/- The program's functions are these; part 3 (written by w.py). -/
import Derived.Test.YtcdkepbgjgcjfaaGreatTsE
import Derived.Test.YtcdkepbgjgcjfaaGreatTsF4
import Derived.Test.YtcdkepbgjgcjfaaGreatTsQpre
import Derived.Test.YtcdkepbgjgcjfaaGreatTsK1
import Derived.Test.YtcdkepbgjgcjfaaGreatTsK2
set_option linter.unusedVariables false
set_option linter.unusedSimpArgs false
namespace Go.Proofs.YtcdkepbgjgcjfaaGreat.Abs
open Go Go.RowKit
theorem os_DirectionI (a0 : Iv) (a1 : Iv) : Fun Tryz.prog 125 [] #[vIv a0,vIv a1] (vIv (S_DirectionI a0 a1)) []:=by
 refine Fun.ofH 400 E_ok mixed Tryz.func125 (by kernel_rfl) (by kernel_rfl) ?_
 unfold S_DirectionI
 refine Run.q (e:=vB) (gv:=vIv) (os_IsWhole _) fun r1 _=>?_
 refine Run.y (gv:=vIv) (fun _=>?_) (fun _=>?_)
 ·refine Run.z [true,true,true,true,true,true,true,true,true,true,true,true,true,true,true,true] ?_
  refine Run.q (e:=vIv) (gv:=vIv) (os_Whole) fun r2 _=>?_
  exact Run.x 0
 ·refine Run.z [false] ?_
  refine Run.q (e:=vB) (gv:=vIv) (os_IsWhole _) fun r3 _=>?_
  refine Run.z [false] ?_
  refine Run.y (gv:=vIv) (fun _=>?_) (fun _=>?_)
  ·refine Run.z [true,true,true,true,true,true,true,true,true,true,true,true,true] ?_
   refine Run.q (e:=vIv) (gv:=vIv) (os_Whole) fun r4 _=>?_
   exact Run.x 0
  ·refine Run.z [false] ?_
   refine Run.q (e:=vB) (gv:=vIv) (os_HasI _ _) fun r5 _=>?_
   refine Run.z [false] ?_
   refine Run.y (gv:=vIv) (fun _=>?_) (fun _=>?_)
   ·refine Run.z [true] ?_
    refine Run.q (e:=vB) (gv:=vIv) (os_HasI _ _) fun r6 _=>?_
    refine Run.z [false,true,false] ?_
    refine Run.y (gv:=vIv) (fun _=>?_) (fun _=>?_)
    ·refine Run.z [true,true,true,true,true,true,true,true] ?_
     refine Run.q (e:=vIv) (gv:=vIv) (os_Whole) fun r7 _=>?_
     exact Run.x 0
    ·refine Run.z [false,false,false] ?_
     refine Run.y (gv:=vIv) (fun _=>?_) (fun _=>?_)
     ·refine Run.z [true,true,false,true,false] ?_
      refine Run.y (gv:=vIv) (fun _=>?_) (fun _=>?_)
      ·refine Run.z [true,true,false,true,false] ?_
       refine Run.y (gv:=vIv) (fun _=>?_) (fun _=>?_)
       ·refine Run.q (e:=vIv) (gv:=vIv) (os_Whole) fun r8 _=>?_
        exact Run.x 0
       ·refine Run.q (e:=vIv) (gv:=vIv) (os_DirectionAt _ _) fun r9 _=>?_
        refine Run.q (e:=vIv) (gv:=vIv) (os_DirectionAt _ _) fun r10 _=>?_
        refine Run.q (e:=vIv) (gv:=vIv) (os_HullI _ _) fun r11 _=>?_
        refine Run.q (e:=vIv) (gv:=vIv) (os_DirectionAt _ _) fun r12 _=>?_
        refine Run.q (e:=vIv) (gv:=vIv) (os_DirectionAt _ _) fun r13 _=>?_
        refine Run.q (e:=vIv) (gv:=vIv) (os_HullI _ _) fun r14 _=>?_
        refine Run.q (e:=vIv) (gv:=vIv) (os_HullI _ _) fun r15 _=>?_
        exact Run.x 0
      ·refine Run.z [false,false,false,false,false,false] ?_
       refine Run.q (e:=vIv) (gv:=vIv) (os_DirectionAt _ _) fun r16 _=>?_
       refine Run.q (e:=vIv) (gv:=vIv) (os_DirectionAt _ _) fun r17 _=>?_
       refine Run.q (e:=vIv) (gv:=vIv) (os_HullI _ _) fun r18 _=>?_
       refine Run.q (e:=vIv) (gv:=vIv) (os_DirectionAt _ _) fun r19 _=>?_
       refine Run.q (e:=vIv) (gv:=vIv) (os_DirectionAt _ _) fun r20 _=>?_
       refine Run.q (e:=vIv) (gv:=vIv) (os_HullI _ _) fun r21 _=>?_
       refine Run.q (e:=vIv) (gv:=vIv) (os_HullI _ _) fun r22 _=>?_
       exact Run.x 0
     ·refine Run.z [false,false,false,false,false,false,false,false,false,false,false,false] ?_
      refine Run.q (e:=vIv) (gv:=vIv) (os_DirectionAt _ _) fun r23 _=>?_
      refine Run.q (e:=vIv) (gv:=vIv) (os_DirectionAt _ _) fun r24 _=>?_
      refine Run.q (e:=vIv) (gv:=vIv) (os_HullI _ _) fun r25 _=>?_
      refine Run.q (e:=vIv) (gv:=vIv) (os_DirectionAt _ _) fun r26 _=>?_
      refine Run.q (e:=vIv) (gv:=vIv) (os_DirectionAt _ _) fun r27 _=>?_
      refine Run.q (e:=vIv) (gv:=vIv) (os_HullI _ _) fun r28 _=>?_
      refine Run.q (e:=vIv) (gv:=vIv) (os_HullI _ _) fun r29 _=>?_
      exact Run.x 0
   ·refine Run.z [false,false,false,false,false,false,false,false] ?_
    refine Run.y (gv:=vIv) (fun _=>?_) (fun _=>?_)
    ·refine Run.z [true,true,false,true,false] ?_
     refine Run.y (gv:=vIv) (fun _=>?_) (fun _=>?_)
     ·refine Run.z [true,true,false,true,false] ?_
      refine Run.y (gv:=vIv) (fun _=>?_) (fun _=>?_)
      ·refine Run.q (e:=vIv) (gv:=vIv) (os_Whole) fun r30 _=>?_
       exact Run.x 0
      ·refine Run.q (e:=vIv) (gv:=vIv) (os_DirectionAt _ _) fun r31 _=>?_
       refine Run.q (e:=vIv) (gv:=vIv) (os_DirectionAt _ _) fun r32 _=>?_
       refine Run.q (e:=vIv) (gv:=vIv) (os_HullI _ _) fun r33 _=>?_
       refine Run.q (e:=vIv) (gv:=vIv) (os_DirectionAt _ _) fun r34 _=>?_
       refine Run.q (e:=vIv) (gv:=vIv) (os_DirectionAt _ _) fun r35 _=>?_
       refine Run.q (e:=vIv) (gv:=vIv) (os_HullI _ _) fun r36 _=>?_
       refine Run.q (e:=vIv) (gv:=vIv) (os_HullI _ _) fun r37 _=>?_
       exact Run.x 0
     ·refine Run.z [false,false,false,false,false,false] ?_
      refine Run.q (e:=vIv) (gv:=vIv) (os_DirectionAt _ _) fun r38 _=>?_
      refine Run.q (e:=vIv) (gv:=vIv) (os_DirectionAt _ _) fun r39 _=>?_
      refine Run.q (e:=vIv) (gv:=vIv) (os_HullI _ _) fun r40 _=>?_
      refine Run.q (e:=vIv) (gv:=vIv) (os_DirectionAt _ _) fun r41 _=>?_
      refine Run.q (e:=vIv) (gv:=vIv) (os_DirectionAt _ _) fun r42 _=>?_
      refine Run.q (e:=vIv) (gv:=vIv) (os_HullI _ _) fun r43 _=>?_
      refine Run.q (e:=vIv) (gv:=vIv) (os_HullI _ _) fun r44 _=>?_
      exact Run.x 0
    ·refine Run.z [false,false,false,false,false,false,false,false,false,false,false,false] ?_
     refine Run.q (e:=vIv) (gv:=vIv) (os_DirectionAt _ _) fun r45 _=>?_
     refine Run.q (e:=vIv) (gv:=vIv) (os_DirectionAt _ _) fun r46 _=>?_
     refine Run.q (e:=vIv) (gv:=vIv) (os_HullI _ _) fun r47 _=>?_
     refine Run.q (e:=vIv) (gv:=vIv) (os_DirectionAt _ _) fun r48 _=>?_
     refine Run.q (e:=vIv) (gv:=vIv) (os_DirectionAt _ _) fun r49 _=>?_
     refine Run.q (e:=vIv) (gv:=vIv) (os_HullI _ _) fun r50 _=>?_
     refine Run.q (e:=vIv) (gv:=vIv) (os_HullI _ _) fun r51 _=>?_
     exact Run.x 0
theorem os_l21Forward__pPj (b0 : Pj) (a0 : Pt) : Fun Tryz.prog 137 [(#[.int .i64 b0.kind.val,.int .i64 b0.lat0.val,.int .i64 b0.lon0.val,.int .i64 b0.lat1.val,.int .i64 b0.lat2.val],25)] #[.pointer (some ⟨0,0,none⟩),vPt a0] (vT_Pn_I (S_l21Forward__pPj b0 a0)) [(#[.int .i64 b0.kind.val,.int .i64 b0.lat0.val,.int .i64 b0.lon0.val,.int .i64 b0.lat1.val,.int .i64 b0.lat2.val],25)]:=by
 refine Fun.ofH 400 E_ok mixed Tryz.func137 (by kernel_rfl) (by kernel_rfl) ?_
 unfold S_l21Forward__pPj
 refine Run.w (e:=vB) (gv:=vT_Pn_I) [0] (os_l21Edge__pPj _ _) fun r1 _=>?_
 refine Run.y (gv:=vT_Pn_I) (fun _=>?_) (fun _=>?_)
 ·exact Run.x 1
 ·refine Run.q (e:=vIv) (gv:=vT_Pn_I) (os_RadiansOf _) fun r2 _=>?_
  refine Run.w (e:=vIv) (gv:=vT_Pn_I) [0] (os_l21Side__pPj _ _) fun r3 _=>?_
  refine Run.q (e:=vIv) (gv:=vT_Pn_I) (os_AtanhI _) fun r4 _=>?_
  refine Run.q (e:=vIv) (gv:=vT_Pn_I) (os_SinI _) fun r5 _=>?_
  refine Run.q (e:=vIv) (gv:=vT_Pn_I) (os_CosI _) fun r6 _=>?_
  refine Run.w (e:=vIv) (gv:=vT_Pn_I) [0] (os_l21Turn__pPj _ _) fun r7 _=>?_
  refine Run.q (e:=vIv) (gv:=vT_Pn_I) (os_CosI _) fun r8 _=>?_
  refine Run.q (e:=vIv) (gv:=vT_Pn_I) (os_MulI _ _) fun r9 _=>?_
  refine Run.q (e:=vIv) (gv:=vT_Pn_I) (os_DirectionI _ _) fun r10 _=>?_
  refine Run.q (e:=vIv) (gv:=vT_Pn_I) (os_RadiansOf _) fun r11 _=>?_
  refine Run.q (e:=vIv) (gv:=vT_Pn_I) (os_SubI _ _) fun r12 _=>?_
  refine Run.q (e:=vB) (gv:=vT_Pn_I) (os_IsWhole _) fun r13 _=>?_
  refine Run.y (gv:=vT_Pn_I) (fun _=>?_) (fun _=>?_)
  ·refine Run.z [true,true,true,true] ?_
   exact Run.x 1
  ·refine Run.z [false,false] ?_
   refine Run.q (e:=vB) (gv:=vT_Pn_I) (os_IsWhole _) fun r14 _=>?_
   refine Run.z [false] ?_
   refine Run.y (gv:=vT_Pn_I) (fun _=>?_) (fun _=>?_)
   ·exact Run.x 1
   ·exact Run.x 1
theorem os_TransverseForward (a0 : Pj) (a1 : Pt) : Fun Tryz.prog 44 [] #[vPj a0,vPt a1] (vT_Pn_I (S_TransverseForward a0 a1)) []:=by
 refine Fun.ofH 400 E_ok mixed Tryz.func44 (by kernel_rfl) (by kernel_rfl) ?_
 unfold S_TransverseForward
 refine Run.w (e:=vB) (gv:=vT_Pn_I) [0] (os_l21Ok__pPj _) fun r1 _=>?_
 refine Run.y (gv:=vT_Pn_I) (fun _=>?_) (fun _=>?_)
 ·refine Run.z [true,true,true,true] ?_
  exact Run.x 0
 ·refine Run.z [false] ?_
  refine Run.q (e:=vB) (gv:=vT_Pn_I) (os_l11Ok _) fun r2 _=>?_
  refine Run.z [false,false] ?_
  refine Run.y (gv:=vT_Pn_I) (fun _=>?_) (fun _=>?_)
  ·exact Run.x 0
  ·refine Run.w (e:=vT_Pn_I) (gv:=vT_Pn_I) [0] (os_l21Forward__pPj _ _) fun r3 _=>?_
   exact Run.x 0
theorem os_LessI (a0 : Iv) (a1 : Iv) : Fun Tryz.prog 45 [] #[vIv a0,vIv a1] (vI (S_LessI a0 a1)) []:=by
 refine Fun.ofH 400 E_ok mixed Tryz.func45 (by kernel_rfl) (by kernel_rfl) ?_
 unfold S_LessI
 refine Run.q (e:=vB) (gv:=vI) (os_l04Ok _) fun r1 _=>?_
 refine Run.y (gv:=vI) (fun _=>?_) (fun _=>?_)
 ·refine Run.z [true,true,true,true] ?_
  exact Run.x 0
 ·refine Run.z [false] ?_
  refine Run.q (e:=vB) (gv:=vI) (os_l04Ok _) fun r2 _=>?_
  refine Run.z [false,false] ?_
  refine Run.y (gv:=vI) (fun _=>?_) (fun _=>?_)
  ·exact Run.x 0
  ·refine Run.y (gv:=vI) (fun _=>?_) (fun _=>?_)
   ·exact Run.x 0
   ·refine Run.y (gv:=vI) (fun _=>?_) (fun _=>?_)
    ·exact Run.x 0
    ·exact Run.x 0
theorem os_LatOf (a0 : Pt) : Fun Tryz.prog 16 [] #[vPt a0] (vIv (S_LatOf a0)) []:=by
 refine Fun.ofH 400 E_ok mixed Tryz.func16 (by kernel_rfl) (by kernel_rfl) ?_
 unfold S_LatOf
 refine Run.q (e:=vB) (gv:=vIv) (os_l11Ok _) fun r1 _=>?_
 refine Run.y (gv:=vIv) (fun _=>?_) (fun _=>?_)
 ·refine Run.q (e:=vIv) (gv:=vIv) (os_Whole) fun r2 _=>?_
  exact Run.x 0
 ·refine Run.q (e:=vIv) (gv:=vIv) (os_RadiansOf _) fun r3 _=>?_
  exact Run.x 0
theorem os_l11Pole (a0 : Pt) : Fun Tryz.prog 81 [] #[vPt a0] (vB (S_l11Pole a0)) []:=by
 refine Fun.ofH 400 E_ok mixed Tryz.func81 (by kernel_rfl) (by kernel_rfl) ?_
 unfold S_l11Pole
 refine Run.y (gv:=vB) (fun _=>?_) (fun _=>?_)
 ·refine Run.z [true,true,true] ?_
  exact Run.x 0
 ·refine Run.z [false,false,false] ?_
  exact Run.x 0
theorem os_AtPoint (a0 : Iv) (a1 : Iv) (a2 : Pt) : Fun Tryz.prog 14 [] #[vIv a0,vIv a1,vPt a2] (vB (S_AtPoint a0 a1 a2)) []:=by
 refine Fun.ofH 400 E_ok mixed Tryz.func14 (by kernel_rfl) (by kernel_rfl) ?_
 unfold S_AtPoint
 refine Run.q (e:=vB) (gv:=vB) (os_l11Ok _) fun r1 _=>?_
 refine Run.y (gv:=vB) (fun _=>?_) (fun _=>?_)
 ·refine Run.z [true,true,true,true,true,true] ?_
  exact Run.x 0
 ·refine Run.z [false,false] ?_
  refine Run.q (e:=vIv) (gv:=vB) (os_LatOf _) fun r2 _=>?_
  refine Run.z [false] ?_
  refine Run.q (e:=vB) (gv:=vB) (os_OverlapI _ _) fun r3 _=>?_
  refine Run.z [false,false] ?_
  refine Run.y (gv:=vB) (fun _=>?_) (fun _=>?_)
  ·exact Run.x 0
  ·refine Run.q (e:=vB) (gv:=vB) (os_l11Pole _) fun r4 _=>?_
   refine Run.y (gv:=vB) (fun _=>?_) (fun _=>?_)
   ·exact Run.x 0
   ·refine Run.u 400 E_ok mixed Tryz.func14 ?_
    refine Run.z [true] ?_
    refine Run.q (e:=vIv) (gv:=vB) (os_RadiansOf _) fun r5 _=>?_
    refine Run.q (e:=vB) (gv:=vB) (os_OverlapI _ _) fun r6 _=>?_
    refine Run.y (gv:=vB) (fun _=>?_) (fun _=>?_)
    ·exact Run.x 0
    ·refine Run.u 400 E_ok mixed Tryz.func14 ?_
     refine Run.z [true] ?_
     refine Run.q (e:=vIv) (gv:=vB) (os_RadiansOf _) fun r7 _=>?_
     refine Run.q (e:=vB) (gv:=vB) (os_OverlapI _ _) fun r8 _=>?_
     refine Run.y (gv:=vB) (fun _=>?_) (fun _=>?_)
     ·exact Run.x 0
     ·refine Run.u 400 E_ok mixed Tryz.func14 ?_
      refine Run.z [true] ?_
      refine Run.q (e:=vIv) (gv:=vB) (os_RadiansOf _) fun r9 _=>?_
      refine Run.q (e:=vB) (gv:=vB) (os_OverlapI _ _) fun r10 _=>?_
      refine Run.y (gv:=vB) (fun _=>?_) (fun _=>?_)
      ·exact Run.x 0
      ·refine Run.u 400 E_ok mixed Tryz.func14 ?_
       refine Run.z [true] ?_
       refine Run.q (e:=vIv) (gv:=vB) (os_RadiansOf _) fun r11 _=>?_
       refine Run.q (e:=vB) (gv:=vB) (os_OverlapI _ _) fun r12 _=>?_
       refine Run.y (gv:=vB) (fun _=>?_) (fun _=>?_)
       ·exact Run.x 0
       ·refine Run.u 400 E_ok mixed Tryz.func14 ?_
        refine Run.z [true] ?_
        refine Run.q (e:=vIv) (gv:=vB) (os_RadiansOf _) fun r13 _=>?_
        refine Run.q (e:=vB) (gv:=vB) (os_OverlapI _ _) fun r14 _=>?_
        refine Run.y (gv:=vB) (fun _=>?_) (fun _=>?_)
        ·exact Run.x 0
        ·refine Run.u 400 E_ok mixed Tryz.func14 ?_
         refine Run.z [true] ?_
         refine Run.q (e:=vIv) (gv:=vB) (os_RadiansOf _) fun r15 _=>?_
         refine Run.q (e:=vB) (gv:=vB) (os_OverlapI _ _) fun r16 _=>?_
         refine Run.y (gv:=vB) (fun _=>?_) (fun _=>?_)
         ·exact Run.x 0
         ·refine Run.u 400 E_ok mixed Tryz.func14 ?_
          refine Run.z [true] ?_
          refine Run.q (e:=vIv) (gv:=vB) (os_RadiansOf _) fun r17 _=>?_
          refine Run.q (e:=vB) (gv:=vB) (os_OverlapI _ _) fun r18 _=>?_
          refine Run.y (gv:=vB) (fun _=>?_) (fun _=>?_)
          ·exact Run.x 0
          ·refine Run.u 400 E_ok mixed Tryz.func14 ?_
           refine Run.z [true] ?_
           refine Run.q (e:=vIv) (gv:=vB) (os_RadiansOf _) fun r19 _=>?_
           refine Run.q (e:=vB) (gv:=vB) (os_OverlapI _ _) fun r20 _=>?_
           refine Run.y (gv:=vB) (fun _=>?_) (fun _=>?_)
           ·exact Run.x 0
           ·refine Run.u 400 E_ok mixed Tryz.func14 ?_
            refine Run.z [true] ?_
            refine Run.q (e:=vIv) (gv:=vB) (os_RadiansOf _) fun r21 _=>?_
            refine Run.q (e:=vB) (gv:=vB) (os_OverlapI _ _) fun r22 _=>?_
            refine Run.y (gv:=vB) (fun _=>?_) (fun _=>?_)
            ·exact Run.x 0
            ·refine Run.u 400 E_ok mixed Tryz.func14 ?_
             refine Run.z [true] ?_
             refine Run.q (e:=vIv) (gv:=vB) (os_RadiansOf _) fun r23 _=>?_
             refine Run.q (e:=vB) (gv:=vB) (os_OverlapI _ _) fun r24 _=>?_
             refine Run.y (gv:=vB) (fun _=>?_) (fun _=>?_)
             ·exact Run.x 0
             ·refine Run.u 400 E_ok mixed Tryz.func14 ?_
              refine Run.z [true] ?_
              refine Run.q (e:=vIv) (gv:=vB) (os_RadiansOf _) fun r25 _=>?_
              refine Run.q (e:=vB) (gv:=vB) (os_OverlapI _ _) fun r26 _=>?_
              refine Run.y (gv:=vB) (fun _=>?_) (fun _=>?_)
              ·exact Run.x 0
              ·refine Run.u 400 E_ok mixed Tryz.func14 ?_
               refine Run.z [true] ?_
               refine Run.q (e:=vIv) (gv:=vB) (os_RadiansOf _) fun r27 _=>?_
               refine Run.q (e:=vB) (gv:=vB) (os_OverlapI _ _) fun r28 _=>?_
               refine Run.y (gv:=vB) (fun _=>?_) (fun _=>?_)
               ·exact Run.x 0
               ·refine Run.u 400 E_ok mixed Tryz.func14 ?_
                refine Run.z [true] ?_
                refine Run.q (e:=vIv) (gv:=vB) (os_RadiansOf _) fun r29 _=>?_
                refine Run.q (e:=vB) (gv:=vB) (os_OverlapI _ _) fun r30 _=>?_
                refine Run.y (gv:=vB) (fun _=>?_) (fun _=>?_)
                ·exact Run.x 0
                ·refine Run.u 400 E_ok mixed Tryz.func14 ?_
                 refine Run.z [true] ?_
                 refine Run.q (e:=vIv) (gv:=vB) (os_RadiansOf _) fun r31 _=>?_
                 refine Run.q (e:=vB) (gv:=vB) (os_OverlapI _ _) fun r32 _=>?_
                 refine Run.y (gv:=vB) (fun _=>?_) (fun _=>?_)
                 ·exact Run.x 0
                 ·refine Run.u 400 E_ok mixed Tryz.func14 ?_
                  refine Run.z [true] ?_
                  refine Run.q (e:=vIv) (gv:=vB) (os_RadiansOf _) fun r33 _=>?_
                  refine Run.q (e:=vB) (gv:=vB) (os_OverlapI _ _) fun r34 _=>?_
                  refine Run.y (gv:=vB) (fun _=>?_) (fun _=>?_)
                  ·exact Run.x 0
                  ·refine Run.u 400 E_ok mixed Tryz.func14 ?_
                   refine Run.z [true] ?_
                   refine Run.q (e:=vIv) (gv:=vB) (os_RadiansOf _) fun r35 _=>?_
                   refine Run.q (e:=vB) (gv:=vB) (os_OverlapI _ _) fun r36 _=>?_
                   refine Run.y (gv:=vB) (fun _=>?_) (fun _=>?_)
                   ·exact Run.x 0
                   ·refine Run.u 400 E_ok mixed Tryz.func14 ?_
                    refine Run.z [true] ?_
                    refine Run.q (e:=vIv) (gv:=vB) (os_RadiansOf _) fun r37 _=>?_
                    refine Run.q (e:=vB) (gv:=vB) (os_OverlapI _ _) fun r38 _=>?_
                    refine Run.y (gv:=vB) (fun _=>?_) (fun _=>?_)
                    ·exact Run.x 0
                    ·refine Run.u 400 E_ok mixed Tryz.func14 ?_
                     refine Run.z [true] ?_
                     refine Run.q (e:=vIv) (gv:=vB) (os_RadiansOf _) fun r39 _=>?_
                     refine Run.q (e:=vB) (gv:=vB) (os_OverlapI _ _) fun r40 _=>?_
                     refine Run.y (gv:=vB) (fun _=>?_) (fun _=>?_)
                     ·exact Run.x 0
                     ·refine Run.u 400 E_ok mixed Tryz.func14 ?_
                      refine Run.z [true] ?_
                      refine Run.q (e:=vIv) (gv:=vB) (os_RadiansOf _) fun r41 _=>?_
                      refine Run.q (e:=vB) (gv:=vB) (os_OverlapI _ _) fun r42 _=>?_
                      refine Run.y (gv:=vB) (fun _=>?_) (fun _=>?_)
                      ·exact Run.x 0
                      ·refine Run.u 400 E_ok mixed Tryz.func14 ?_
                       refine Run.z [false] ?_
                       exact Run.x 0
theorem os_l00From_n : FunS Tryz.prog 49 [] [] #[(.slice none 0 0)] (fun v Y=>v = .pointer (some ⟨0,0,none⟩) ∧ Y = [srcB 113 (.slice none 0 0) (c64 0) (cu64 0)]):=Sourced.none (by decide) os_l00Sourced
theorem os_l00Src_next__src_n (b1 : Src) (ps : 0 ≤ b1.ix.val ∧ b1.ix.val + 1 ≤ 1000000000) : FunS Tryz.prog 146 [] [srcB 113 (.slice none 0 0) b1.ix b1.sd] #[.pointer (some ⟨0,0,none⟩)] (Drew vI 113 (.slice none 0 0) b1.ix.val (b1.ix.val + 1) (S_l00Src_next__src Cd.nil b1)):=by
 refine FunS.drew (fun _ _=>rfl) rfl (by kernel_rfl) (FunR.of 400 E_ok mixed Tryz.func146 (by kernel_rfl) ?_)
 show Run _ _ ((RD [] vI 113 (.slice none 0 0) b1.ix.val (b1.ix.val + 1)) (S_l00Src_next__src Cd.nil b1)) _
 unfold S_l00Src_next__src
 refine Run.gn (Rg:=(RD [] vI 113 (.slice none 0 0) b1.ix.val (b1.ix.val + 1))) (c:=(decide (b1.ix.val < (((Cd.nil.L.length : Nat) : Int))))) (by kernel_rfl) (by refine decide_eq_false ?_; show ¬ (b1.ix.val < 0); omega) ?_
 refine Run.gy (Rg:=(RD [] vI 113 (.slice none 0 0) b1.ix.val (b1.ix.val + 1))) (fun h1=>?_) (fun h1=>?_)
 ·exact Run.dr (by kernel_rfl) (by kernel_rfl) (by first | omega | (simp only [w64_val,c64_val] at *; omega))
 ·refine Run.z [true] ?_
  exact Run.dr (by kernel_rfl) (by kernel_rfl) (by first | omega | (simp only [w64_val,c64_val] at *; omega))
theorem os_l00Src_pick__src_n (b1 : Src) (a0 : I64) (ps : 0 ≤ b1.ix.val ∧ b1.ix.val + 2 ≤ 1000000000) : FunS Tryz.prog 51 [] [srcB 113 (.slice none 0 0) b1.ix b1.sd] #[.pointer (some ⟨0,0,none⟩),vI a0] (Drew vI 113 (.slice none 0 0) b1.ix.val (b1.ix.val + 2) (S_l00Src_pick__src Cd.nil b1 a0)):=by
 refine FunS.drew (fun _ _=>rfl) rfl (by kernel_rfl) (FunR.of 400 E_ok mixed Tryz.func51 (by kernel_rfl) ?_)
 show Run _ _ ((RD [] vI 113 (.slice none 0 0) b1.ix.val (b1.ix.val + 2)) (S_l00Src_pick__src Cd.nil b1 a0)) _
 unfold S_l00Src_pick__src
 refine Run.gy (Rg:=(RD [] vI 113 (.slice none 0 0) b1.ix.val (b1.ix.val + 2))) (fun h1=>?_) (fun h1=>?_)
 ·exact Run.dr (by kernel_rfl) (by kernel_rfl) (by first | omega | (simp only [w64_val,c64_val] at *; omega))
 ·refine Run.cw (e:=vI) (Rg:=(RD [] vI 113 (.slice none 0 0) b1.ix.val (b1.ix.val + 2))) [] 0 (os_l00Src_next__src_n _ (by first | omega | (simp only [w64_val,c64_val] at *; omega))) rfl fun r2 hr2 kr2=>?_
  refine Run.gy (Rg:=(RD [] vI 113 (.slice none 0 0) b1.ix.val (b1.ix.val + 2))) (fun h3=>?_) (fun h3=>?_)
  ·refine Run.cw (e:=vI) (Rg:=(RD [] vI 113 (.slice none 0 0) b1.ix.val (b1.ix.val + 2))) [] 0 (os_l00Src_next__src_n _ (by first | omega | (simp only [w64_val,c64_val] at *; omega))) rfl fun r4 hr4 kr4=>?_
   refine Run.k (c:=(decide (a0.val ≠ 0))) (by kernel_rfl) (by simp only [w64_val,wu64_val,c64_val,cu64_val,decide_eq_true_eq,decide_eq_false_iff_not,cond_true,cond_false] at *; omega) ?_
   exact Run.dr (by kernel_rfl) (by kernel_rfl) (by first | omega | (simp only [w64_val,c64_val] at *; omega))
  ·refine Run.k (c:=(decide (a0.val ≠ 0))) (by kernel_rfl) (by simp only [w64_val,wu64_val,c64_val,cu64_val,decide_eq_true_eq,decide_eq_false_iff_not,cond_true,cond_false] at *; omega) ?_
   exact Run.dr (by kernel_rfl) (by kernel_rfl) (by first | omega | (simp only [w64_val,c64_val] at *; omega))
theorem os_l00Src_one__src_n (b1 : Src) (a0 : I64) (ps : 0 ≤ b1.ix.val ∧ b1.ix.val + 2 ≤ 1000000000) : FunS Tryz.prog 145 [] [srcB 113 (.slice none 0 0) b1.ix b1.sd] #[.pointer (some ⟨0,0,none⟩),vI a0] (Drew vB 113 (.slice none 0 0) b1.ix.val (b1.ix.val + 2) (S_l00Src_one__src Cd.nil b1 a0)):=by
 refine FunS.drew (fun _ _=>rfl) rfl (by kernel_rfl) (FunR.of 400 E_ok mixed Tryz.func145 (by kernel_rfl) ?_)
 show Run _ _ ((RD [] vB 113 (.slice none 0 0) b1.ix.val (b1.ix.val + 2)) (S_l00Src_one__src Cd.nil b1 a0)) _
 unfold S_l00Src_one__src
 refine Run.cw (e:=vI) (Rg:=(RD [] vB 113 (.slice none 0 0) b1.ix.val (b1.ix.val + 2))) [] 0 (os_l00Src_pick__src_n _ _ (by first | omega | (simp only [w64_val,c64_val] at *; omega))) rfl fun r1 hr1 kr1=>?_
 exact Run.dr (by kernel_rfl) (by kernel_rfl) (by first | omega | (simp only [w64_val,c64_val] at *; omega))
theorem os_l00Src_among__src__s4_n (b1_0 : I64) (b1_1 : I64) (b1_2 : I64) (b1_3 : I64) (b2 : Src) (ps : 0 ≤ b2.ix.val ∧ b2.ix.val + 2 ≤ 1000000000) : FunS Tryz.prog 151 [(#[.int .i64 b1_0.val,.int .i64 b1_1.val,.int .i64 b1_2.val,.int .i64 b1_3.val],2)] [srcB 113 (.slice none 0 0) b2.ix b2.sd] #[.pointer (some ⟨1,0,none⟩),.slice (some ⟨0,0,none⟩) 4 4] (Drew vI 113 (.slice none 0 0) b2.ix.val (b2.ix.val + 2) (S_l00Src_among__src__s4 Cd.nil b1_0 b1_1 b1_2 b1_3 b2)):=by
 refine FunS.marks (args:=#[.pointer (some ⟨1,0,none⟩),.slice (some ⟨0,0,some 0⟩) 4 4]) (by kernel_rfl) ?_
 refine FunS.drew (fun _ _=>rfl) (allc (by kernel_rfl) rfl) (by kernel_rfl) (FunR.of 400 E_ok mixed Tryz.func151 (by kernel_rfl) ?_)
 show Run _ _ ((RD [(#[.int .i64 b1_0.val,.int .i64 b1_1.val,.int .i64 b1_2.val,.int .i64 b1_3.val],2)] vI 113 (.slice none 0 0) b2.ix.val (b2.ix.val + 2)) (S_l00Src_among__src__s4 Cd.nil b1_0 b1_1 b1_2 b1_3 b2)) _
 unfold S_l00Src_among__src__s4
 refine Run.cw (e:=vI) (Rg:=(RD [(#[.int .i64 b1_0.val,.int .i64 b1_1.val,.int .i64 b1_2.val,.int .i64 b1_3.val],2)] vI 113 (.slice none 0 0) b2.ix.val (b2.ix.val + 2))) [] 1 (os_l00Src_pick__src_n _ _ (by first | omega | (simp only [w64_val,c64_val] at *; omega))) rfl fun r1 hr1 kr1=>?_
 refine Run.k (c:=(decide (0 ≤ r1.1.val ∧ r1.1.val < 4))) (by kernel_rfl) (by rw [hr1]; first | exact decide_eq_true ⟨(pick_range _ _ _).1,(pick_range _ _ _).2 (by decide)⟩ | exact ⟨(pick_range _ _ _).1,(pick_range _ _ _).2 (by decide)⟩) ?_
 refine Run.ld (by kernel_rfl) (listAt_ok (L:=[b1_0,b1_1,b1_2,b1_3]) (pad:=[]) (i:=r1.1) (by rw [hr1]; first | exact decide_eq_true ⟨(pick_range _ _ _).1,(pick_range _ _ _).2 (by decide)⟩ | exact ⟨(pick_range _ _ _).1,(pick_range _ _ _).2 (by decide)⟩)) ?_
 exact Run.dr (by kernel_rfl) (by kernel_rfl) (by first | omega | (simp only [w64_val,c64_val] at *; omega))
theorem os_l05Number__src_n (b1 : Src) (a0 : I64) (p0 : 0 ≤ a0.val) (p1 : a0.val < 9223372036854775807) (ps : 0 ≤ b1.ix.val ∧ b1.ix.val + 13 ≤ 1000000000) : FunS Tryz.prog 150 [] [srcB 113 (.slice none 0 0) b1.ix b1.sd] #[.pointer (some ⟨0,0,none⟩),vI a0] (Drew vI 113 (.slice none 0 0) b1.ix.val (b1.ix.val + 13) (S_l05Number__src Cd.nil b1 a0)):=by
 refine FunS.drew (fun _ _=>rfl) rfl (by kernel_rfl) (FunR.of 400 E_ok mixed Tryz.func150 (by kernel_rfl) ?_)
 show Run _ _ ((RD [] vI 113 (.slice none 0 0) b1.ix.val (b1.ix.val + 13)) (S_l05Number__src Cd.nil b1 a0)) _
 unfold S_l05Number__src
 refine Run.u 400 E_ok mixed Tryz.func150 ?_
 refine Run.z [true,true] ?_
 refine Run.cw (e:=vI) (Rg:=(RD [] vI 113 (.slice none 0 0) b1.ix.val (b1.ix.val + 13))) [] 0 (os_l00Src_next__src_n _ (by first | omega | (simp only [w64_val,c64_val] at *; omega))) rfl fun r1 hr1 kr1=>?_
 refine Run.u 400 E_ok mixed Tryz.func150 ?_
 refine Run.z [true,true] ?_
 refine Run.cw (e:=vI) (Rg:=(RD [] vI 113 (.slice none 0 0) b1.ix.val (b1.ix.val + 13))) [] 0 (os_l00Src_next__src_n _ (by first | omega | (simp only [w64_val,c64_val] at *; omega))) rfl fun r2 hr2 kr2=>?_
 refine Run.u 400 E_ok mixed Tryz.func150 ?_
 refine Run.z [true,true] ?_
 refine Run.cw (e:=vI) (Rg:=(RD [] vI 113 (.slice none 0 0) b1.ix.val (b1.ix.val + 13))) [] 0 (os_l00Src_next__src_n _ (by first | omega | (simp only [w64_val,c64_val] at *; omega))) rfl fun r3 hr3 kr3=>?_
 refine Run.u 400 E_ok mixed Tryz.func150 ?_
 refine Run.z [true,true] ?_
 refine Run.cw (e:=vI) (Rg:=(RD [] vI 113 (.slice none 0 0) b1.ix.val (b1.ix.val + 13))) [] 0 (os_l00Src_next__src_n _ (by first | omega | (simp only [w64_val,c64_val] at *; omega))) rfl fun r4 hr4 kr4=>?_
 refine Run.u 400 E_ok mixed Tryz.func150 ?_
 refine Run.z [true,true] ?_
 refine Run.cw (e:=vI) (Rg:=(RD [] vI 113 (.slice none 0 0) b1.ix.val (b1.ix.val + 13))) [] 0 (os_l00Src_next__src_n _ (by first | omega | (simp only [w64_val,c64_val] at *; omega))) rfl fun r5 hr5 kr5=>?_
 refine Run.u 400 E_ok mixed Tryz.func150 ?_
 refine Run.z [true,true] ?_
 refine Run.cw (e:=vI) (Rg:=(RD [] vI 113 (.slice none 0 0) b1.ix.val (b1.ix.val + 13))) [] 0 (os_l00Src_next__src_n _ (by first | omega | (simp only [w64_val,c64_val] at *; omega))) rfl fun r6 hr6 kr6=>?_
 refine Run.u 400 E_ok mixed Tryz.func150 ?_
 refine Run.z [true,true] ?_
 refine Run.cw (e:=vI) (Rg:=(RD [] vI 113 (.slice none 0 0) b1.ix.val (b1.ix.val + 13))) [] 0 (os_l00Src_next__src_n _ (by first | omega | (simp only [w64_val,c64_val] at *; omega))) rfl fun r7 hr7 kr7=>?_
 refine Run.u 400 E_ok mixed Tryz.func150 ?_
 refine Run.z [false] ?_
 refine Run.k (c:=(decide ((w64 (a0.val + 1)).val ≠ 0))) (by kernel_rfl) (by simp only [w64_val,wu64_val,c64_val,cu64_val,decide_eq_true_eq,decide_eq_false_iff_not,cond_true,cond_false] at *; omega) ?_
 refine Run.cw (e:=vI) (Rg:=(RD [] vI 113 (.slice none 0 0) b1.ix.val (b1.ix.val + 13))) [] 0 (os_l00Src_pick__src_n _ _ (by first | omega | (simp only [w64_val,c64_val] at *; omega))) rfl fun r8 hr8 kr8=>?_
 refine Run.gy (Rg:=(RD [] vI 113 (.slice none 0 0) b1.ix.val (b1.ix.val + 13))) (fun h9=>?_) (fun h9=>?_)
 ·refine Run.cw (e:=vI) (Rg:=(RD [] vI 113 (.slice none 0 0) b1.ix.val (b1.ix.val + 13))) [] 0 (os_l00Src_pick__src_n _ _ (by first | omega | (simp only [w64_val,c64_val] at *; omega))) rfl fun r10 hr10 kr10=>?_
  refine Run.k (c:=(decide (0 ≤ (wu64 r10.1.val).val))) (by kernel_rfl) (by simp only [w64_val,wu64_val,c64_val,cu64_val,decide_eq_true_eq,decide_eq_false_iff_not,cond_true,cond_false] at *; omega) ?_
  refine Run.cw (e:=vB) (Rg:=(RD [] vI 113 (.slice none 0 0) b1.ix.val (b1.ix.val + 13))) [] 0 (os_l00Src_one__src_n _ _ (by first | omega | (simp only [w64_val,c64_val] at *; omega))) rfl fun r11 hr11 kr11=>?_
  refine Run.gy (Rg:=(RD [] vI 113 (.slice none 0 0) b1.ix.val (b1.ix.val + 13))) (fun h12=>?_) (fun h12=>?_)
  ·exact Run.dr (by kernel_rfl) (by kernel_rfl) (by first | omega | (simp only [w64_val,c64_val] at *; omega))
  ·exact Run.dr (by kernel_rfl) (by kernel_rfl) (by first | omega | (simp only [w64_val,c64_val] at *; omega))
 ·refine Run.gy (Rg:=(RD [] vI 113 (.slice none 0 0) b1.ix.val (b1.ix.val + 13))) (fun h13=>?_) (fun h13=>?_)
  ·refine Run.z [true] ?_
   refine Run.cw (e:=vI) (Rg:=(RD [] vI 113 (.slice none 0 0) b1.ix.val (b1.ix.val + 13))) [1] 0 (os_l00Src_among__src__s4_n _ _ _ _ _ (by first | omega | (simp only [w64_val,c64_val] at *; omega))) (allc (by kernel_rfl) rfl) fun r14 hr14 kr14=>?_
   refine Run.cw (e:=vB) (Rg:=(RD [] vI 113 (.slice none 0 0) b1.ix.val (b1.ix.val + 13))) [] 0 (os_l00Src_one__src_n _ _ (by first | omega | (simp only [w64_val,c64_val] at *; omega))) rfl fun r15 hr15 kr15=>?_
   refine Run.gy (Rg:=(RD [] vI 113 (.slice none 0 0) b1.ix.val (b1.ix.val + 13))) (fun h16=>?_) (fun h16=>?_)
   ·exact Run.dr (by kernel_rfl) (by kernel_rfl) (by first | omega | (simp only [w64_val,c64_val] at *; omega))
   ·exact Run.dr (by kernel_rfl) (by kernel_rfl) (by first | omega | (simp only [w64_val,c64_val] at *; omega))
  ·refine Run.cw (e:=vB) (Rg:=(RD [] vI 113 (.slice none 0 0) b1.ix.val (b1.ix.val + 13))) [] 0 (os_l00Src_one__src_n _ _ (by first | omega | (simp only [w64_val,c64_val] at *; omega))) rfl fun r17 hr17 kr17=>?_
   refine Run.gy (Rg:=(RD [] vI 113 (.slice none 0 0) b1.ix.val (b1.ix.val + 13))) (fun h18=>?_) (fun h18=>?_)
   ·exact Run.dr (by kernel_rfl) (by kernel_rfl) (by first | omega | (simp only [w64_val,c64_val] at *; omega))
   ·exact Run.dr (by kernel_rfl) (by kernel_rfl) (by first | omega | (simp only [w64_val,c64_val] at *; omega))
theorem os_l00Src_among__src__s5_n (b1_0 : I64) (b1_1 : I64) (b1_2 : I64) (b1_3 : I64) (b1_4 : I64) (b2 : Src) (ps : 0 ≤ b2.ix.val ∧ b2.ix.val + 2 ≤ 1000000000) : FunS Tryz.prog 151 [(#[.int .i64 b1_0.val,.int .i64 b1_1.val,.int .i64 b1_2.val,.int .i64 b1_3.val,.int .i64 b1_4.val],2)] [srcB 113 (.slice none 0 0) b2.ix b2.sd] #[.pointer (some ⟨1,0,none⟩),.slice (some ⟨0,0,none⟩) 5 5] (Drew vI 113 (.slice none 0 0) b2.ix.val (b2.ix.val + 2) (S_l00Src_among__src__s5 Cd.nil b1_0 b1_1 b1_2 b1_3 b1_4 b2)):=by
 refine FunS.marks (args:=#[.pointer (some ⟨1,0,none⟩),.slice (some ⟨0,0,some 0⟩) 5 5]) (by kernel_rfl) ?_
 refine FunS.drew (fun _ _=>rfl) (allc (by kernel_rfl) rfl) (by kernel_rfl) (FunR.of 400 E_ok mixed Tryz.func151 (by kernel_rfl) ?_)
 show Run _ _ ((RD [(#[.int .i64 b1_0.val,.int .i64 b1_1.val,.int .i64 b1_2.val,.int .i64 b1_3.val,.int .i64 b1_4.val],2)] vI 113 (.slice none 0 0) b2.ix.val (b2.ix.val + 2)) (S_l00Src_among__src__s5 Cd.nil b1_0 b1_1 b1_2 b1_3 b1_4 b2)) _
 unfold S_l00Src_among__src__s5
 refine Run.cw (e:=vI) (Rg:=(RD [(#[.int .i64 b1_0.val,.int .i64 b1_1.val,.int .i64 b1_2.val,.int .i64 b1_3.val,.int .i64 b1_4.val],2)] vI 113 (.slice none 0 0) b2.ix.val (b2.ix.val + 2))) [] 1 (os_l00Src_pick__src_n _ _ (by first | omega | (simp only [w64_val,c64_val] at *; omega))) rfl fun r1 hr1 kr1=>?_
 refine Run.k (c:=(decide (0 ≤ r1.1.val ∧ r1.1.val < 5))) (by kernel_rfl) (by rw [hr1]; first | exact decide_eq_true ⟨(pick_range _ _ _).1,(pick_range _ _ _).2 (by decide)⟩ | exact ⟨(pick_range _ _ _).1,(pick_range _ _ _).2 (by decide)⟩) ?_
 refine Run.ld (by kernel_rfl) (listAt_ok (L:=[b1_0,b1_1,b1_2,b1_3,b1_4]) (pad:=[]) (i:=r1.1) (by rw [hr1]; first | exact decide_eq_true ⟨(pick_range _ _ _).1,(pick_range _ _ _).2 (by decide)⟩ | exact ⟨(pick_range _ _ _).1,(pick_range _ _ _).2 (by decide)⟩)) ?_
 exact Run.dr (by kernel_rfl) (by kernel_rfl) (by first | omega | (simp only [w64_val,c64_val] at *; omega))
theorem os_l11Draw__src_n (b1 : Src) (ps : 0 ≤ b1.ix.val ∧ b1.ix.val + 30 ≤ 1000000000) : FunS Tryz.prog 55 [] [srcB 113 (.slice none 0 0) b1.ix b1.sd] #[.pointer (some ⟨0,0,none⟩)] (Drew vPt 113 (.slice none 0 0) b1.ix.val (b1.ix.val + 30) (S_l11Draw__src Cd.nil b1)):=by
 refine FunS.drew (fun _ _=>rfl) rfl (by kernel_rfl) (FunR.of 400 E_ok mixed Tryz.func55 (by kernel_rfl) ?_)
 show Run _ _ ((RD [] vPt 113 (.slice none 0 0) b1.ix.val (b1.ix.val + 30)) (S_l11Draw__src Cd.nil b1)) _
 unfold S_l11Draw__src
 refine Run.cw (e:=vI) (Rg:=(RD [] vPt 113 (.slice none 0 0) b1.ix.val (b1.ix.val + 30))) [] 0 (os_l05Number__src_n _ _ (by simp only [w64_val,wu64_val,c64_val,cu64_val,decide_eq_true_eq,decide_eq_false_iff_not,cond_true,cond_false] at *; omega) (by simp only [w64_val,wu64_val,c64_val,cu64_val,decide_eq_true_eq,decide_eq_false_iff_not,cond_true,cond_false] at *; omega) (by first | omega | (simp only [w64_val,c64_val] at *; omega))) rfl fun r1 hr1 kr1=>?_
 refine Run.cw (e:=vI) (Rg:=(RD [] vPt 113 (.slice none 0 0) b1.ix.val (b1.ix.val + 30))) [] 0 (os_l05Number__src_n _ _ (by simp only [w64_val,wu64_val,c64_val,cu64_val,decide_eq_true_eq,decide_eq_false_iff_not,cond_true,cond_false] at *; omega) (by simp only [w64_val,wu64_val,c64_val,cu64_val,decide_eq_true_eq,decide_eq_false_iff_not,cond_true,cond_false] at *; omega) (by first | omega | (simp only [w64_val,c64_val] at *; omega))) rfl fun r2 hr2 kr2=>?_
 refine Run.gq (Rg:=(RD [] vPt 113 (.slice none 0 0) b1.ix.val (b1.ix.val + 30))) (e:=vI) (os_l11Wrap _) fun r3 hr3=>?_
 refine Run.cw (e:=vI) (Rg:=(RD [] vPt 113 (.slice none 0 0) b1.ix.val (b1.ix.val + 30))) [] 0 (os_l00Src_pick__src_n _ _ (by first | omega | (simp only [w64_val,c64_val] at *; omega))) rfl fun r4 hr4 kr4=>?_
 refine Run.gy (Rg:=(RD [] vPt 113 (.slice none 0 0) b1.ix.val (b1.ix.val + 30))) (fun h5=>?_) (fun h5=>?_)
 ·refine Run.cw (e:=vI) (Rg:=(RD [] vPt 113 (.slice none 0 0) b1.ix.val (b1.ix.val + 30))) [3] 0 (os_l00Src_among__src__s4_n _ _ _ _ _ (by first | omega | (simp only [w64_val,c64_val] at *; omega))) (allc (by kernel_rfl) rfl) fun r6 hr6 kr6=>?_
  exact Run.dr (by kernel_rfl) (by kernel_rfl) (by first | omega | (simp only [w64_val,c64_val] at *; omega))
 ·refine Run.gy (Rg:=(RD [] vPt 113 (.slice none 0 0) b1.ix.val (b1.ix.val + 30))) (fun h7=>?_) (fun h7=>?_)
  ·refine Run.cw (e:=vI) (Rg:=(RD [] vPt 113 (.slice none 0 0) b1.ix.val (b1.ix.val + 30))) [3] 0 (os_l00Src_among__src__s5_n _ _ _ _ _ _ (by first | omega | (simp only [w64_val,c64_val] at *; omega))) (allc (by kernel_rfl) rfl) fun r8 hr8 kr8=>?_
   exact Run.dr (by kernel_rfl) (by kernel_rfl) (by first | omega | (simp only [w64_val,c64_val] at *; omega))
  ·exact Run.dr (by kernel_rfl) (by kernel_rfl) (by first | omega | (simp only [w64_val,c64_val] at *; omega))
theorem os_E8Point_n : Fun Tryz.prog 23 [] #[.slice none 0 0] (vPt (S_E8Point Cd.nil)) []:=by
 refine Fun.ofH 400 E_ok mixed Tryz.func23 (by kernel_rfl) (by kernel_rfl) ?_
 unfold S_E8Point
 refine Run.cf [] os_l00From_n rfl ?_
 refine Run.cw (e:=vPt) (Rg:=(fun b=>RvH [] (vPt b))) [] 1 (os_l11Draw__src_n _ (by first | omega | (simp only [w64_val,c64_val] at *; omega))) rfl fun r1 hr1 kr1=>?_
 exact Run.x 0
theorem os_l21Draw__src_n (b1 : Src) (ps : 0 ≤ b1.ix.val ∧ b1.ix.val + 32 ≤ 1000000000) : FunS Tryz.prog 131 [] [srcB 113 (.slice none 0 0) b1.ix b1.sd] #[.pointer (some ⟨0,0,none⟩)] (Drew vPj 113 (.slice none 0 0) b1.ix.val (b1.ix.val + 32) (S_l21Draw__src Cd.nil b1)):=by
 refine FunS.drew (fun _ _=>rfl) rfl (by kernel_rfl) (FunR.of 400 E_ok mixed Tryz.func131 (by kernel_rfl) ?_)
 show Run _ _ ((RD [] vPj 113 (.slice none 0 0) b1.ix.val (b1.ix.val + 32)) (S_l21Draw__src Cd.nil b1)) _
 unfold S_l21Draw__src
 refine Run.cw (e:=vPt) (Rg:=(RD [] vPj 113 (.slice none 0 0) b1.ix.val (b1.ix.val + 32))) [] 0 (os_l11Draw__src_n _ (by first | omega | (simp only [w64_val,c64_val] at *; omega))) rfl fun r1 hr1 kr1=>?_
 refine Run.cw (e:=vB) (Rg:=(RD [] vPj 113 (.slice none 0 0) b1.ix.val (b1.ix.val + 32))) [] 0 (os_l00Src_one__src_n _ _ (by first | omega | (simp only [w64_val,c64_val] at *; omega))) rfl fun r2 hr2 kr2=>?_
 refine Run.gy (Rg:=(RD [] vPj 113 (.slice none 0 0) b1.ix.val (b1.ix.val + 32))) (fun h3=>?_) (fun h3=>?_)
 ·exact Run.dr (by kernel_rfl) (by kernel_rfl) (by first | omega | (simp only [w64_val,c64_val] at *; omega))
 ·exact Run.dr (by kernel_rfl) (by kernel_rfl) (by first | omega | (simp only [w64_val,c64_val] at *; omega))
theorem os_E8Transverse_n : Fun Tryz.prog 41 [] #[.slice none 0 0] (vPj (S_E8Transverse Cd.nil)) []:=by
 refine Fun.ofH 400 E_ok mixed Tryz.func41 (by kernel_rfl) (by kernel_rfl) ?_
 unfold S_E8Transverse
 refine Run.cf [] os_l00From_n rfl ?_
 refine Run.cw (e:=vPj) (Rg:=(fun b=>RvH [] (vPj b))) [] 1 (os_l21Draw__src_n _ (by first | omega | (simp only [w64_val,c64_val] at *; omega))) rfl fun r1 hr1 kr1=>?_
 exact Run.x 0
end Go.Proofs.YtcdkepbgjgcjfaaGreat.Abs
