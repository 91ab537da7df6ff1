/- The program's functions are these; part 5 (written by w.py). -/
import Derived.Test.YtbipmdgocmdgdaaGreatCsE
import Derived.Test.YtbipmdgocmdgdaaGreatCsF3
import Derived.Test.YtbipmdgocmdgdaaGreatCsQpre
import Derived.Test.YtbipmdgocmdgdaaGreatCsK3
import Derived.Test.YtbipmdgocmdgdaaGreatCsK4
set_option linter.unusedVariables false
set_option linter.unusedSimpArgs false
namespace Go.Proofs.YtbipmdgocmdgdaaGreat.Abs
open Go Go.RowKit
theorem oi_conic_radius__pCn (b0 : Cn) (a0 : Iv) : Fun Tryz.prog 46 [(#[.int .i64 b0.p.kind.val,.int .i64 b0.p.lat0.val,.int .i64 b0.p.lon0.val,.int .i64 b0.p.lat1.val,.int .i64 b0.p.lat2.val,.int .i64 b0.a.lo.val,.int .i64 b0.a.hi.val,.int .i64 b0.b.lo.val,.int .i64 b0.b.hi.val,.int .i64 b0.o.lo.val,.int .i64 b0.o.hi.val,.int .i64 b0.n.lo.val,.int .i64 b0.n.hi.val,.int .i64 b0.g.lo.val,.int .i64 b0.g.hi.val],67)] #[.pointer (some ⟨0,0,none⟩),vIv a0] (vIv (I_conic_radius__pCn b0 a0)) [(#[.int .i64 b0.p.kind.val,.int .i64 b0.p.lat0.val,.int .i64 b0.p.lon0.val,.int .i64 b0.p.lat1.val,.int .i64 b0.p.lat2.val,.int .i64 b0.a.lo.val,.int .i64 b0.a.hi.val,.int .i64 b0.b.lo.val,.int .i64 b0.b.hi.val,.int .i64 b0.o.lo.val,.int .i64 b0.o.hi.val,.int .i64 b0.n.lo.val,.int .i64 b0.n.hi.val,.int .i64 b0.g.lo.val,.int .i64 b0.g.hi.val],67)]:=by
 refine Fun.ofH 400 E_ok mixed Tryz.func46 (by kernel_rfl) (by kernel_rfl) ?_
 unfold I_conic_radius__pCn
 refine Run.y (gv:=vIv) (fun _=>?_) (fun _=>?_)
 ·refine Run.q (e:=vIv) (gv:=vIv) (oi_times _ _) fun r1 _=>?_
  refine Run.q (e:=vIv) (gv:=vIv) (oi_SinI _) fun r2 _=>?_
  refine Run.q (e:=vIv) (gv:=vIv) (oi_MulI _ _) fun r3 _=>?_
  refine Run.q (e:=vIv) (gv:=vIv) (oi_SubI _ _) fun r4 _=>?_
  refine Run.q (e:=vIv) (gv:=vIv) (oi_SqrtI _) fun r5 _=>?_
  refine Run.q (e:=vIv) (gv:=vIv) (oi_DivI _ _) fun r6 _=>?_
  exact Run.x 1
 ·refine Run.y (gv:=vIv) (fun _=>?_) (fun _=>?_)
  ·refine Run.q (e:=vIv) (gv:=vIv) (oi_isometricSphere _) fun r7 _=>?_
   refine Run.q (e:=vIv) (gv:=vIv) (oi_MulI _ _) fun r8 _=>?_
   refine Run.q (e:=vIv) (gv:=vIv) (oi_NegI _) fun r9 _=>?_
   refine Run.q (e:=vIv) (gv:=vIv) (oi_ExpI _) fun r10 _=>?_
   refine Run.q (e:=vIv) (gv:=vIv) (oi_MulI _ _) fun r11 _=>?_
   exact Run.x 1
  ·refine Run.q (e:=vIv) (gv:=vIv) (oi_SubI _ _) fun r12 _=>?_
   exact Run.x 1
theorem oi_conic_scale__pCn (b0 : Cn) (a0 : Iv) : Fun Tryz.prog 39 [(#[.int .i64 b0.p.kind.val,.int .i64 b0.p.lat0.val,.int .i64 b0.p.lon0.val,.int .i64 b0.p.lat1.val,.int .i64 b0.p.lat2.val,.int .i64 b0.a.lo.val,.int .i64 b0.a.hi.val,.int .i64 b0.b.lo.val,.int .i64 b0.b.hi.val,.int .i64 b0.o.lo.val,.int .i64 b0.o.hi.val,.int .i64 b0.n.lo.val,.int .i64 b0.n.hi.val,.int .i64 b0.g.lo.val,.int .i64 b0.g.hi.val],67)] #[.pointer (some ⟨0,0,none⟩),vIv a0] (vIv (I_conic_scale__pCn b0 a0)) [(#[.int .i64 b0.p.kind.val,.int .i64 b0.p.lat0.val,.int .i64 b0.p.lon0.val,.int .i64 b0.p.lat1.val,.int .i64 b0.p.lat2.val,.int .i64 b0.a.lo.val,.int .i64 b0.a.hi.val,.int .i64 b0.b.lo.val,.int .i64 b0.b.hi.val,.int .i64 b0.o.lo.val,.int .i64 b0.o.hi.val,.int .i64 b0.n.lo.val,.int .i64 b0.n.hi.val,.int .i64 b0.g.lo.val,.int .i64 b0.g.hi.val],67)]:=by
 refine Fun.ofH 400 E_ok mixed Tryz.func39 (by kernel_rfl) (by kernel_rfl) ?_
 unfold I_conic_scale__pCn
 refine Run.w (e:=vIv) (gv:=vIv) [0] (oi_conic_radius__pCn _ _) fun r1 _=>?_
 refine Run.q (e:=vIv) (gv:=vIv) (oi_MulI _ _) fun r2 _=>?_
 refine Run.q (e:=vIv) (gv:=vIv) (oi_CosI _) fun r3 _=>?_
 refine Run.q (e:=vIv) (gv:=vIv) (oi_DivI _ _) fun r4 _=>?_
 exact Run.x 1
theorem oi_pair (a0 : Iv) (a1 : Iv) : Fun Tryz.prog 38 [] #[vIv a0,vIv a1] (vT_Iv_Iv_I (I_pair a0 a1)) []:=by
 refine Fun.ofH 400 E_ok mixed Tryz.func38 (by kernel_rfl) (by kernel_rfl) ?_
 unfold I_pair
 refine Run.q (e:=vB) (gv:=vT_Iv_Iv_I) (oi_areBounded _ _) fun r1 _=>?_
 refine Run.y (gv:=vT_Iv_Iv_I) (fun _=>?_) (fun _=>?_)
 ·exact Run.x 0
 ·exact Run.x 0
theorem oi_StandardScales (a0 : Pj) : Fun Tryz.prog 7 [] #[vPj a0] (vT_Iv_Iv_I (I_StandardScales a0)) []:=by
 refine Fun.ofH 400 E_ok mixed Tryz.func7 (by kernel_rfl) (by kernel_rfl) ?_
 unfold I_StandardScales
 refine Run.bmb (nn:=fun r : Cn × I64=>(r.2.val != 0)) (cl:=fun r : Cn × I64=>(vCn r.1).cells) (gv:=vT_Iv_Iv_I) (by kernel_rfl) (by kernel_rfl) (oi_newConic _) (by kernel_rfl) (fun _=>rfl) (fun r1 hr1=>?_) (fun r1 hr1=>?_)
 ·refine Run.z [true] ?_
  exact Run.x 0
 ·refine Run.z [false] ?_
  refine Run.w (e:=vIv) (gv:=vT_Iv_Iv_I) [3] (oi_conic_scale__pCn _ _) fun r2 hr2=>?_
  refine Run.w (e:=vIv) (gv:=vT_Iv_Iv_I) [3] (oi_conic_scale__pCn _ _) fun r3 hr3=>?_
  refine Run.q (e:=vT_Iv_Iv_I) (gv:=vT_Iv_Iv_I) (oi_pair _ _) fun r4 hr4=>?_
  exact Run.x 0
theorem oi_isPole (a0 : Pt) : Fun Tryz.prog 45 [] #[vPt a0] (vB (I_isPole a0)) []:=by
 refine Fun.ofH 400 E_ok mixed Tryz.func45 (by kernel_rfl) (by kernel_rfl) ?_
 unfold I_isPole
 refine Run.q (e:=vI) (gv:=vB) (oi_abs _) fun r1 _=>?_
 exact Run.x 0
theorem oi_LatOf (a0 : Pt) : Fun Tryz.prog 47 [] #[vPt a0] (vIv (I_LatOf a0)) []:=by
 refine Fun.ofH 400 E_ok mixed Tryz.func47 (by kernel_rfl) (by kernel_rfl) ?_
 unfold I_LatOf
 refine Run.q (e:=vB) (gv:=vIv) (oi_ValidPoint _) fun r1 _=>?_
 refine Run.y (gv:=vIv) (fun _=>?_) (fun _=>?_)
 ·refine Run.q (e:=vIv) (gv:=vIv) (oi_Whole) fun r2 _=>?_
  exact Run.x 0
 ·refine Run.q (e:=vIv) (gv:=vIv) (oi_RadiansOf _) fun r3 _=>?_
  exact Run.x 0
theorem oi_WrapLon (a0 : I64) : Fun Tryz.prog 135 [] #[vI a0] (vI (I_WrapLon a0)) []:=by
 refine Fun.ofH 400 E_ok mixed Tryz.func135 (by kernel_rfl) (by kernel_rfl) ?_
 unfold I_WrapLon
 refine Run.z [true] ?_
 refine Run.y (gv:=vI) (fun _=>?_) (fun _=>?_)
 ·exact Run.x 0
 ·refine Run.y (gv:=vI) (fun _=>?_) (fun _=>?_)
  ·exact Run.x 0
  ·exact Run.x 0
theorem oi_LonFrom (a0 : Pj) (a1 : Pt) : Fun Tryz.prog 49 [] #[vPj a0,vPt a1] (vIv (I_LonFrom a0 a1)) []:=by
 refine Fun.ofH 400 E_ok mixed Tryz.func49 (by kernel_rfl) (by kernel_rfl) ?_
 unfold I_LonFrom
 refine Run.q (e:=vB) (gv:=vIv) (oi_ValidProjection _) fun r1 _=>?_
 refine Run.y (gv:=vIv) (fun _=>?_) (fun _=>?_)
 ·refine Run.z [true,true,true,true] ?_
  refine Run.q (e:=vIv) (gv:=vIv) (oi_Whole) fun r2 _=>?_
  exact Run.x 0
 ·refine Run.z [false] ?_
  refine Run.q (e:=vB) (gv:=vIv) (oi_ValidPoint _) fun r3 _=>?_
  refine Run.z [false,false] ?_
  refine Run.y (gv:=vIv) (fun _=>?_) (fun _=>?_)
  ·refine Run.q (e:=vIv) (gv:=vIv) (oi_Whole) fun r4 _=>?_
   exact Run.x 0
  ·refine Run.q (e:=vI) (gv:=vIv) (oi_WrapLon _) fun r5 _=>?_
   refine Run.q (e:=vIv) (gv:=vIv) (oi_RadiansOf _) fun r6 _=>?_
   exact Run.x 0
theorem oi_planar (a0 : Iv) (a1 : Iv) : Fun Tryz.prog 50 [] #[vIv a0,vIv a1] (vT_Pn_I (I_planar a0 a1)) []:=by
 refine Fun.ofH 400 E_ok mixed Tryz.func50 (by kernel_rfl) (by kernel_rfl) ?_
 unfold I_planar
 refine Run.q (e:=vB) (gv:=vT_Pn_I) (oi_areBounded _ _) fun r1 _=>?_
 refine Run.y (gv:=vT_Pn_I) (fun _=>?_) (fun _=>?_)
 ·exact Run.x 0
 ·exact Run.x 0
theorem oi_ConicForward (a0 : Pj) (a1 : Pt) : Fun Tryz.prog 10 [] #[vPj a0,vPt a1] (vT_Pn_I (I_ConicForward a0 a1)) []:=by
 refine Fun.ofH 400 E_ok mixed Tryz.func10 (by kernel_rfl) (by kernel_rfl) ?_
 unfold I_ConicForward
 refine Run.bmb (nn:=fun r : Cn × I64=>(r.2.val != 0)) (cl:=fun r : Cn × I64=>(vCn r.1).cells) (gv:=vT_Pn_I) (by kernel_rfl) (by kernel_rfl) (oi_newConic _) (by kernel_rfl) (fun _=>rfl) (fun r1 hr1=>?_) (fun r1 hr1=>?_)
 ·refine Run.z [true,true,true,true,true] ?_
  exact Run.x 0
 ·refine Run.z [false,false] ?_
  refine Run.q (e:=vB) (gv:=vT_Pn_I) (oi_ValidPoint _) fun r2 hr2=>?_
  refine Run.z [false,false] ?_
  refine Run.y (gv:=vT_Pn_I) (fun h3=>?_) (fun h3=>?_)
  ·exact Run.x 0
  ·refine Run.q (e:=vB) (gv:=vT_Pn_I) (oi_isPole _) fun r4 hr4=>?_
   refine Run.y (gv:=vT_Pn_I) (fun h5=>?_) (fun h5=>?_)
   ·refine Run.z [true,true,true] ?_
    refine Run.y (gv:=vT_Pn_I) (fun h6=>?_) (fun h6=>?_)
    ·exact Run.x 0
    ·refine Run.q (e:=vIv) (gv:=vT_Pn_I) (oi_LatOf _) fun r7 hr7=>?_
     refine Run.w (e:=vIv) (gv:=vT_Pn_I) [3] (oi_conic_radius__pCn _ _) fun r8 hr8=>?_
     refine Run.q (e:=vIv) (gv:=vT_Pn_I) (oi_LonFrom _ _) fun r9 hr9=>?_
     refine Run.q (e:=vIv) (gv:=vT_Pn_I) (oi_MulI _ _) fun r10 hr10=>?_
     refine Run.q (e:=vIv) (gv:=vT_Pn_I) (oi_SinI _) fun r11 hr11=>?_
     refine Run.q (e:=vIv) (gv:=vT_Pn_I) (oi_MulI _ _) fun r12 hr12=>?_
     refine Run.w (e:=vIv) (gv:=vT_Pn_I) [3] (oi_conic_radius__pCn _ _) fun r13 hr13=>?_
     refine Run.q (e:=vIv) (gv:=vT_Pn_I) (oi_CosI _) fun r14 hr14=>?_
     refine Run.q (e:=vIv) (gv:=vT_Pn_I) (oi_MulI _ _) fun r15 hr15=>?_
     refine Run.q (e:=vIv) (gv:=vT_Pn_I) (oi_SubI _ _) fun r16 hr16=>?_
     refine Run.q (e:=vT_Pn_I) (gv:=vT_Pn_I) (oi_planar _ _) fun r17 hr17=>?_
     exact Run.x 0
   ·refine Run.z [false,false,false,false] ?_
    refine Run.q (e:=vIv) (gv:=vT_Pn_I) (oi_LatOf _) fun r18 hr18=>?_
    refine Run.w (e:=vIv) (gv:=vT_Pn_I) [3] (oi_conic_radius__pCn _ _) fun r19 hr19=>?_
    refine Run.q (e:=vIv) (gv:=vT_Pn_I) (oi_LonFrom _ _) fun r20 hr20=>?_
    refine Run.q (e:=vIv) (gv:=vT_Pn_I) (oi_MulI _ _) fun r21 hr21=>?_
    refine Run.q (e:=vIv) (gv:=vT_Pn_I) (oi_SinI _) fun r22 hr22=>?_
    refine Run.q (e:=vIv) (gv:=vT_Pn_I) (oi_MulI _ _) fun r23 hr23=>?_
    refine Run.w (e:=vIv) (gv:=vT_Pn_I) [3] (oi_conic_radius__pCn _ _) fun r24 hr24=>?_
    refine Run.q (e:=vIv) (gv:=vT_Pn_I) (oi_CosI _) fun r25 hr25=>?_
    refine Run.q (e:=vIv) (gv:=vT_Pn_I) (oi_MulI _ _) fun r26 hr26=>?_
    refine Run.q (e:=vIv) (gv:=vT_Pn_I) (oi_SubI _ _) fun r27 hr27=>?_
    refine Run.q (e:=vT_Pn_I) (gv:=vT_Pn_I) (oi_planar _ _) fun r28 hr28=>?_
    exact Run.x 0
theorem oi_isOpen (a0 : I64) : Fun Tryz.prog 206 [] #[vI a0] (vB (I_isOpen a0)) []:=by
 refine Fun.ofH 400 E_ok mixed Tryz.func206 (by kernel_rfl) (by kernel_rfl) ?_
 unfold I_isOpen
 refine Run.y (gv:=vB) (fun _=>?_) (fun _=>?_)
 ·refine Run.z [true,true] ?_
  exact Run.x 0
 ·refine Run.z [false,false] ?_
  exact Run.x 0
theorem oi_halfCircle : Fun Tryz.prog 210 [] #[] (vIv (I_halfCircle)) []:=by
 refine Fun.ofH 400 E_ok mixed Tryz.func210 (by kernel_rfl) (by kernel_rfl) ?_
 unfold I_halfCircle
 refine Run.q (e:=vIv) (gv:=vIv) (oi_TurnI _) fun r1 _=>?_
 refine Run.q (e:=vIv) (gv:=vIv) (oi_TurnI _) fun r2 _=>?_
 exact Run.x 0
theorem oi_halved (a0 : Iv) : Fun Tryz.prog 266 [] #[vIv a0] (vIv (I_halved a0)) []:=by
 refine Fun.ofH 400 E_ok mixed Tryz.func266 (by kernel_rfl) (by kernel_rfl) ?_
 unfold I_halved
 refine Run.q (e:=vIv) (gv:=vIv) (oi_Integer _) fun r1 _=>?_
 refine Run.q (e:=vIv) (gv:=vIv) (oi_Integer _) fun r2 _=>?_
 refine Run.q (e:=vIv) (gv:=vIv) (oi_SqrI _) fun r3 _=>?_
 refine Run.q (e:=vIv) (gv:=vIv) (oi_AddI _ _) fun r4 _=>?_
 refine Run.q (e:=vIv) (gv:=vIv) (oi_SqrtI _) fun r5 _=>?_
 refine Run.q (e:=vIv) (gv:=vIv) (oi_AddI _ _) fun r6 _=>?_
 refine Run.q (e:=vIv) (gv:=vIv) (oi_DivI _ _) fun r7 _=>?_
 exact Run.x 0
theorem oi_ArcSeries (a0 : Iv) : Fun Tryz.prog 265 [] #[vIv a0] (vIv (I_ArcSeries a0)) []:=by
 refine Fun.ofH 400 E_ok mixed Tryz.func265 (by kernel_rfl) (by kernel_rfl) ?_
 unfold I_ArcSeries
 refine Run.q (e:=vB) (gv:=vIv) (oi_InsideI _ _) fun r1 _=>?_
 refine Run.y (gv:=vIv) (fun _=>?_) (fun _=>?_)
 ·refine Run.q (e:=vIv) (gv:=vIv) (oi_Whole) fun r2 _=>?_
  exact Run.x 0
 ·refine Run.q (e:=vIv) (gv:=vIv) (oi_SqrI _) fun r3 _=>?_
  refine Run.q (e:=vIv) (gv:=vIv) (oi_Quotient _ _) fun r4 _=>?_
  refine Run.u 400 E_ok mixed Tryz.func265 ?_
  refine Run.z [true] ?_
  refine Run.q (e:=vIv) (gv:=vIv) (oi_Quotient _ _) fun r5 _=>?_
  refine Run.q (e:=vIv) (gv:=vIv) (oi_MulI _ _) fun r6 _=>?_
  refine Run.q (e:=vIv) (gv:=vIv) (oi_SubI _ _) fun r7 _=>?_
  refine Run.u 400 E_ok mixed Tryz.func265 ?_
  refine Run.z [true] ?_
  refine Run.q (e:=vIv) (gv:=vIv) (oi_Quotient _ _) fun r8 _=>?_
  refine Run.q (e:=vIv) (gv:=vIv) (oi_MulI _ _) fun r9 _=>?_
  refine Run.q (e:=vIv) (gv:=vIv) (oi_SubI _ _) fun r10 _=>?_
  refine Run.u 400 E_ok mixed Tryz.func265 ?_
  refine Run.z [true] ?_
  refine Run.q (e:=vIv) (gv:=vIv) (oi_Quotient _ _) fun r11 _=>?_
  refine Run.q (e:=vIv) (gv:=vIv) (oi_MulI _ _) fun r12 _=>?_
  refine Run.q (e:=vIv) (gv:=vIv) (oi_SubI _ _) fun r13 _=>?_
  refine Run.u 400 E_ok mixed Tryz.func265 ?_
  refine Run.z [true] ?_
  refine Run.q (e:=vIv) (gv:=vIv) (oi_Quotient _ _) fun r14 _=>?_
  refine Run.q (e:=vIv) (gv:=vIv) (oi_MulI _ _) fun r15 _=>?_
  refine Run.q (e:=vIv) (gv:=vIv) (oi_SubI _ _) fun r16 _=>?_
  refine Run.u 400 E_ok mixed Tryz.func265 ?_
  refine Run.z [true] ?_
  refine Run.q (e:=vIv) (gv:=vIv) (oi_Quotient _ _) fun r17 _=>?_
  refine Run.q (e:=vIv) (gv:=vIv) (oi_MulI _ _) fun r18 _=>?_
  refine Run.q (e:=vIv) (gv:=vIv) (oi_SubI _ _) fun r19 _=>?_
  refine Run.u 400 E_ok mixed Tryz.func265 ?_
  refine Run.z [true] ?_
  refine Run.q (e:=vIv) (gv:=vIv) (oi_Quotient _ _) fun r20 _=>?_
  refine Run.q (e:=vIv) (gv:=vIv) (oi_MulI _ _) fun r21 _=>?_
  refine Run.q (e:=vIv) (gv:=vIv) (oi_SubI _ _) fun r22 _=>?_
  refine Run.u 400 E_ok mixed Tryz.func265 ?_
  refine Run.z [true] ?_
  refine Run.q (e:=vIv) (gv:=vIv) (oi_Quotient _ _) fun r23 _=>?_
  refine Run.q (e:=vIv) (gv:=vIv) (oi_MulI _ _) fun r24 _=>?_
  refine Run.q (e:=vIv) (gv:=vIv) (oi_SubI _ _) fun r25 _=>?_
  refine Run.u 400 E_ok mixed Tryz.func265 ?_
  refine Run.z [true] ?_
  refine Run.q (e:=vIv) (gv:=vIv) (oi_Quotient _ _) fun r26 _=>?_
  refine Run.q (e:=vIv) (gv:=vIv) (oi_MulI _ _) fun r27 _=>?_
  refine Run.q (e:=vIv) (gv:=vIv) (oi_SubI _ _) fun r28 _=>?_
  refine Run.u 400 E_ok mixed Tryz.func265 ?_
  refine Run.z [true] ?_
  refine Run.q (e:=vIv) (gv:=vIv) (oi_Quotient _ _) fun r29 _=>?_
  refine Run.q (e:=vIv) (gv:=vIv) (oi_MulI _ _) fun r30 _=>?_
  refine Run.q (e:=vIv) (gv:=vIv) (oi_SubI _ _) fun r31 _=>?_
  refine Run.u 400 E_ok mixed Tryz.func265 ?_
  refine Run.z [true] ?_
  refine Run.q (e:=vIv) (gv:=vIv) (oi_Quotient _ _) fun r32 _=>?_
  refine Run.q (e:=vIv) (gv:=vIv) (oi_MulI _ _) fun r33 _=>?_
  refine Run.q (e:=vIv) (gv:=vIv) (oi_SubI _ _) fun r34 _=>?_
  refine Run.u 400 E_ok mixed Tryz.func265 ?_
  refine Run.z [false] ?_
  refine Run.q (e:=vIv) (gv:=vIv) (oi_MulI _ _) fun r35 _=>?_
  refine Run.q (e:=vIv) (gv:=vIv) (oi_tiny) fun r36 _=>?_
  refine Run.q (e:=vIv) (gv:=vIv) (oi_AddI _ _) fun r37 _=>?_
  exact Run.x 0
theorem oi_fourfold (a0 : Iv) : Fun Tryz.prog 245 [] #[vIv a0] (vIv (I_fourfold a0)) []:=by
 refine Fun.ofH 400 E_ok mixed Tryz.func245 (by kernel_rfl) (by kernel_rfl) ?_
 unfold I_fourfold
 refine Run.q (e:=vIv) (gv:=vIv) (oi_halved _) fun r1 _=>?_
 refine Run.q (e:=vIv) (gv:=vIv) (oi_halved _) fun r2 _=>?_
 refine Run.q (e:=vIv) (gv:=vIv) (oi_ArcSeries _) fun r3 _=>?_
 refine Run.q (e:=vIv) (gv:=vIv) (oi_DoubleI _) fun r4 _=>?_
 refine Run.q (e:=vIv) (gv:=vIv) (oi_DoubleI _) fun r5 _=>?_
 exact Run.x 0
theorem oi_AtanAt_r : ∀ (fu : Nat) (a0 : I64) (hm : min (0 - a0.val).toNat 1 < fu),Fun Tryz.prog 211 [] #[vI a0] (vIv (I_AtanAt_r fu a0)) []:=by
 intro fu
 induction fu with
 | zero=>intro a0 hm; exact absurd hm (Nat.not_lt_zero _)
 | succ fu ih=>
  intro a0 hm
  refine Fun.ofH 400 E_ok mixed Tryz.func211 (by kernel_rfl) (by kernel_rfl) ?_
  unfold I_AtanAt_r
  unfold I_AtanAt_b
  refine Run.q (e:=vB) (gv:=vIv) (oi_isOpen _) fun r1 hr1=>?_
  refine Run.y (gv:=vIv) (fun h2=>?_) (fun h2=>?_)
  ·refine Run.q (e:=vIv) (gv:=vIv) (oi_halfCircle) fun r3 hr3=>?_
   exact Run.x 0
  ·refine Run.y (gv:=vIv) (fun h4=>?_) (fun h4=>?_)
   ·refine Run.q (e:=vIv) (gv:=vIv) (ih (w64 (0 - a0.val)) (by rw [hr1] at h2; simp [I_isOpen,c64_val] at h2; simp only [w64_val,decide_eq_true_eq,decide_eq_false_iff_not] at *; omega)) fun r5 hr5=>?_
    refine Run.q (e:=vIv) (gv:=vIv) (oi_NegI _) fun r6 hr6=>?_
    exact Run.x 0
   ·refine Run.y (gv:=vIv) (fun h7=>?_) (fun h7=>?_)
    ·refine Run.q (e:=vIv) (gv:=vIv) (oi_TurnI _) fun r8 hr8=>?_
     refine Run.q (e:=vIv) (gv:=vIv) (oi_Integer _) fun r9 hr9=>?_
     refine Run.q (e:=vIv) (gv:=vIv) (oi_at _) fun r10 hr10=>?_
     refine Run.q (e:=vIv) (gv:=vIv) (oi_DivI _ _) fun r11 hr11=>?_
     refine Run.q (e:=vIv) (gv:=vIv) (oi_fourfold _) fun r12 hr12=>?_
     refine Run.q (e:=vIv) (gv:=vIv) (oi_SubI _ _) fun r13 hr13=>?_
     exact Run.x 0
    ·refine Run.q (e:=vIv) (gv:=vIv) (oi_at _) fun r14 hr14=>?_
     refine Run.q (e:=vIv) (gv:=vIv) (oi_fourfold _) fun r15 hr15=>?_
     exact Run.x 0
theorem oi_AtanAt (a0 : I64) : Fun Tryz.prog 211 [] #[vI a0] (vIv (I_AtanAt a0)) []:=oi_AtanAt_r 2 a0 (by omega)
theorem oi_AtanI (a0 : Iv) : Fun Tryz.prog 148 [] #[vIv a0] (vIv (I_AtanI a0)) []:=by
 refine Fun.ofH 400 E_ok mixed Tryz.func148 (by kernel_rfl) (by kernel_rfl) ?_
 unfold I_AtanI
 refine Run.q (e:=vB) (gv:=vIv) (oi_IsWhole _) fun r1 _=>?_
 refine Run.y (gv:=vIv) (fun _=>?_) (fun _=>?_)
 ·refine Run.q (e:=vIv) (gv:=vIv) (oi_halfCircle) fun r2 _=>?_
  exact Run.x 0
 ·refine Run.q (e:=vIv) (gv:=vIv) (oi_AtanAt _) fun r3 _=>?_
  refine Run.q (e:=vIv) (gv:=vIv) (oi_AtanAt _) fun r4 _=>?_
  refine Run.q (e:=vIv) (gv:=vIv) (oi_HullI _ _) fun r5 _=>?_
  exact Run.x 0
theorem oi_DirectionAt (a0 : I64) (a1 : I64) : Fun Tryz.prog 144 [] #[vI a0,vI a1] (vIv (I_DirectionAt a0 a1)) []:=by
 refine Fun.ofH 400 E_ok mixed Tryz.func144 (by kernel_rfl) (by kernel_rfl) ?_
 unfold I_DirectionAt
 refine Run.q (e:=vB) (gv:=vIv) (oi_isOpen _) fun r1 _=>?_
 refine Run.y (gv:=vIv) (fun _=>?_) (fun _=>?_)
 ·refine Run.z [true,true,true,true,true,true,true,true,true] ?_
  refine Run.q (e:=vIv) (gv:=vIv) (oi_Whole) fun r2 _=>?_
  exact Run.x 0
 ·refine Run.z [false] ?_
  refine Run.q (e:=vB) (gv:=vIv) (oi_isOpen _) fun r3 _=>?_
  refine Run.z [false,false] ?_
  refine Run.y (gv:=vIv) (fun _=>?_) (fun _=>?_)
  ·refine Run.z [true,true,true,true,true] ?_
   refine Run.q (e:=vIv) (gv:=vIv) (oi_Whole) fun r4 _=>?_
   exact Run.x 0
  ·refine Run.z [false,false] ?_
   refine Run.y (gv:=vIv) (fun _=>?_) (fun _=>?_)
   ·refine Run.z [true,false,true,false] ?_
    refine Run.y (gv:=vIv) (fun _=>?_) (fun _=>?_)
    ·refine Run.q (e:=vIv) (gv:=vIv) (oi_Whole) fun r5 _=>?_
     exact Run.x 0
    ·refine Run.q (e:=vI) (gv:=vIv) (oi_abs _) fun r6 _=>?_
     refine Run.q (e:=vI) (gv:=vIv) (oi_abs _) fun r7 _=>?_
     refine Run.y (gv:=vIv) (fun _=>?_) (fun _=>?_)
     ·refine Run.q (e:=vIv) (gv:=vIv) (oi_TurnI _) fun r8 _=>?_
      refine Run.y (gv:=vIv) (fun _=>?_) (fun _=>?_)
      ·refine Run.q (e:=vIv) (gv:=vIv) (oi_TurnI _) fun r9 _=>?_
       refine Run.q (e:=vIv) (gv:=vIv) (oi_at _) fun r10 _=>?_
       refine Run.q (e:=vIv) (gv:=vIv) (oi_at _) fun r11 _=>?_
       refine Run.q (e:=vIv) (gv:=vIv) (oi_DivI _ _) fun r12 _=>?_
       refine Run.q (e:=vIv) (gv:=vIv) (oi_AtanI _) fun r13 _=>?_
       refine Run.q (e:=vIv) (gv:=vIv) (oi_SubI _ _) fun r14 _=>?_
       exact Run.x 0
      ·refine Run.q (e:=vIv) (gv:=vIv) (oi_at _) fun r15 _=>?_
       refine Run.q (e:=vIv) (gv:=vIv) (oi_at _) fun r16 _=>?_
       refine Run.q (e:=vIv) (gv:=vIv) (oi_DivI _ _) fun r17 _=>?_
       refine Run.q (e:=vIv) (gv:=vIv) (oi_AtanI _) fun r18 _=>?_
       refine Run.q (e:=vIv) (gv:=vIv) (oi_SubI _ _) fun r19 _=>?_
       exact Run.x 0
     ·refine Run.q (e:=vIv) (gv:=vIv) (oi_at _) fun r20 _=>?_
      refine Run.q (e:=vIv) (gv:=vIv) (oi_at _) fun r21 _=>?_
      refine Run.q (e:=vIv) (gv:=vIv) (oi_DivI _ _) fun r22 _=>?_
      refine Run.q (e:=vIv) (gv:=vIv) (oi_AtanI _) fun r23 _=>?_
      refine Run.y (gv:=vIv) (fun _=>?_) (fun _=>?_)
      ·exact Run.x 0
      ·refine Run.y (gv:=vIv) (fun _=>?_) (fun _=>?_)
       ·refine Run.q (e:=vIv) (gv:=vIv) (oi_TurnI _) fun r24 _=>?_
        refine Run.q (e:=vIv) (gv:=vIv) (oi_AddI _ _) fun r25 _=>?_
        exact Run.x 0
       ·refine Run.q (e:=vIv) (gv:=vIv) (oi_TurnI _) fun r26 _=>?_
        refine Run.q (e:=vIv) (gv:=vIv) (oi_AddI _ _) fun r27 _=>?_
        exact Run.x 0
   ·refine Run.z [false,false,false,false,false] ?_
    refine Run.q (e:=vI) (gv:=vIv) (oi_abs _) fun r28 _=>?_
    refine Run.q (e:=vI) (gv:=vIv) (oi_abs _) fun r29 _=>?_
    refine Run.y (gv:=vIv) (fun _=>?_) (fun _=>?_)
    ·refine Run.q (e:=vIv) (gv:=vIv) (oi_TurnI _) fun r30 _=>?_
     refine Run.y (gv:=vIv) (fun _=>?_) (fun _=>?_)
     ·refine Run.q (e:=vIv) (gv:=vIv) (oi_TurnI _) fun r31 _=>?_
      refine Run.q (e:=vIv) (gv:=vIv) (oi_at _) fun r32 _=>?_
      refine Run.q (e:=vIv) (gv:=vIv) (oi_at _) fun r33 _=>?_
      refine Run.q (e:=vIv) (gv:=vIv) (oi_DivI _ _) fun r34 _=>?_
      refine Run.q (e:=vIv) (gv:=vIv) (oi_AtanI _) fun r35 _=>?_
      refine Run.q (e:=vIv) (gv:=vIv) (oi_SubI _ _) fun r36 _=>?_
      exact Run.x 0
     ·refine Run.q (e:=vIv) (gv:=vIv) (oi_at _) fun r37 _=>?_
      refine Run.q (e:=vIv) (gv:=vIv) (oi_at _) fun r38 _=>?_
      refine Run.q (e:=vIv) (gv:=vIv) (oi_DivI _ _) fun r39 _=>?_
      refine Run.q (e:=vIv) (gv:=vIv) (oi_AtanI _) fun r40 _=>?_
      refine Run.q (e:=vIv) (gv:=vIv) (oi_SubI _ _) fun r41 _=>?_
      exact Run.x 0
    ·refine Run.q (e:=vIv) (gv:=vIv) (oi_at _) fun r42 _=>?_
     refine Run.q (e:=vIv) (gv:=vIv) (oi_at _) fun r43 _=>?_
     refine Run.q (e:=vIv) (gv:=vIv) (oi_DivI _ _) fun r44 _=>?_
     refine Run.q (e:=vIv) (gv:=vIv) (oi_AtanI _) fun r45 _=>?_
     refine Run.y (gv:=vIv) (fun _=>?_) (fun _=>?_)
     ·exact Run.x 0
     ·refine Run.y (gv:=vIv) (fun _=>?_) (fun _=>?_)
      ·refine Run.q (e:=vIv) (gv:=vIv) (oi_TurnI _) fun r46 _=>?_
       refine Run.q (e:=vIv) (gv:=vIv) (oi_AddI _ _) fun r47 _=>?_
       exact Run.x 0
      ·refine Run.q (e:=vIv) (gv:=vIv) (oi_TurnI _) fun r48 _=>?_
       refine Run.q (e:=vIv) (gv:=vIv) (oi_AddI _ _) fun r49 _=>?_
       exact Run.x 0
theorem oi_DirectionI (a0 : Iv) (a1 : Iv) : Fun Tryz.prog 57 [] #[vIv a0,vIv a1] (vIv (I_DirectionI a0 a1)) []:=by
 refine Fun.ofH 400 E_ok mixed Tryz.func57 (by kernel_rfl) (by kernel_rfl) ?_
 unfold I_DirectionI
 refine Run.q (e:=vB) (gv:=vIv) (oi_areBounded _ _) fun r1 _=>?_
 refine Run.y (gv:=vIv) (fun _=>?_) (fun _=>?_)
 ·refine Run.z [true,true,true,true,true,true,true,true,true,true,true,true,true] ?_
  refine Run.q (e:=vIv) (gv:=vIv) (oi_Whole) fun r2 _=>?_
  exact Run.x 0
 ·refine Run.z [false] ?_
  refine Run.q (e:=vB) (gv:=vIv) (oi_HasI _ _) fun r3 _=>?_
  refine Run.z [false] ?_
  refine Run.y (gv:=vIv) (fun _=>?_) (fun _=>?_)
  ·refine Run.z [true] ?_
   refine Run.q (e:=vB) (gv:=vIv) (oi_HasI _ _) fun r4 _=>?_
   refine Run.z [false,true,false] ?_
   refine Run.y (gv:=vIv) (fun _=>?_) (fun _=>?_)
   ·refine Run.z [true,true,true,true,true,true,true,true] ?_
    refine Run.q (e:=vIv) (gv:=vIv) (oi_Whole) fun r5 _=>?_
    exact Run.x 0
   ·refine Run.z [false,false,false] ?_
    refine Run.y (gv:=vIv) (fun _=>?_) (fun _=>?_)
    ·refine Run.z [true,true,false,true,false] ?_
     refine Run.y (gv:=vIv) (fun _=>?_) (fun _=>?_)
     ·refine Run.z [true,true,false,true,false] ?_
      refine Run.y (gv:=vIv) (fun _=>?_) (fun _=>?_)
      ·refine Run.q (e:=vIv) (gv:=vIv) (oi_Whole) fun r6 _=>?_
       exact Run.x 0
      ·refine Run.q (e:=vIv) (gv:=vIv) (oi_DirectionAt _ _) fun r7 _=>?_
       refine Run.q (e:=vIv) (gv:=vIv) (oi_DirectionAt _ _) fun r8 _=>?_
       refine Run.q (e:=vIv) (gv:=vIv) (oi_HullI _ _) fun r9 _=>?_
       refine Run.q (e:=vIv) (gv:=vIv) (oi_DirectionAt _ _) fun r10 _=>?_
       refine Run.q (e:=vIv) (gv:=vIv) (oi_DirectionAt _ _) fun r11 _=>?_
       refine Run.q (e:=vIv) (gv:=vIv) (oi_HullI _ _) fun r12 _=>?_
       refine Run.q (e:=vIv) (gv:=vIv) (oi_HullI _ _) fun r13 _=>?_
       exact Run.x 0
     ·refine Run.z [false,false,false,false,false,false] ?_
      refine Run.q (e:=vIv) (gv:=vIv) (oi_DirectionAt _ _) fun r14 _=>?_
      refine Run.q (e:=vIv) (gv:=vIv) (oi_DirectionAt _ _) fun r15 _=>?_
      refine Run.q (e:=vIv) (gv:=vIv) (oi_HullI _ _) fun r16 _=>?_
      refine Run.q (e:=vIv) (gv:=vIv) (oi_DirectionAt _ _) fun r17 _=>?_
      refine Run.q (e:=vIv) (gv:=vIv) (oi_DirectionAt _ _) fun r18 _=>?_
      refine Run.q (e:=vIv) (gv:=vIv) (oi_HullI _ _) fun r19 _=>?_
      refine Run.q (e:=vIv) (gv:=vIv) (oi_HullI _ _) fun r20 _=>?_
      exact Run.x 0
    ·refine Run.z [false,false,false,false,false,false,false,false,false,false,false,false] ?_
     refine Run.q (e:=vIv) (gv:=vIv) (oi_DirectionAt _ _) fun r21 _=>?_
     refine Run.q (e:=vIv) (gv:=vIv) (oi_DirectionAt _ _) fun r22 _=>?_
     refine Run.q (e:=vIv) (gv:=vIv) (oi_HullI _ _) fun r23 _=>?_
     refine Run.q (e:=vIv) (gv:=vIv) (oi_DirectionAt _ _) fun r24 _=>?_
     refine Run.q (e:=vIv) (gv:=vIv) (oi_DirectionAt _ _) fun r25 _=>?_
     refine Run.q (e:=vIv) (gv:=vIv) (oi_HullI _ _) fun r26 _=>?_
     refine Run.q (e:=vIv) (gv:=vIv) (oi_HullI _ _) fun r27 _=>?_
     exact Run.x 0
  ·refine Run.z [false,false,false,false,false,false,false,false] ?_
   refine Run.y (gv:=vIv) (fun _=>?_) (fun _=>?_)
   ·refine Run.z [true,true,false,true,false] ?_
    refine Run.y (gv:=vIv) (fun _=>?_) (fun _=>?_)
    ·refine Run.z [true,true,false,true,false] ?_
     refine Run.y (gv:=vIv) (fun _=>?_) (fun _=>?_)
     ·refine Run.q (e:=vIv) (gv:=vIv) (oi_Whole) fun r28 _=>?_
      exact Run.x 0
     ·refine Run.q (e:=vIv) (gv:=vIv) (oi_DirectionAt _ _) fun r29 _=>?_
      refine Run.q (e:=vIv) (gv:=vIv) (oi_DirectionAt _ _) fun r30 _=>?_
      refine Run.q (e:=vIv) (gv:=vIv) (oi_HullI _ _) fun r31 _=>?_
      refine Run.q (e:=vIv) (gv:=vIv) (oi_DirectionAt _ _) fun r32 _=>?_
      refine Run.q (e:=vIv) (gv:=vIv) (oi_DirectionAt _ _) fun r33 _=>?_
      refine Run.q (e:=vIv) (gv:=vIv) (oi_HullI _ _) fun r34 _=>?_
      refine Run.q (e:=vIv) (gv:=vIv) (oi_HullI _ _) fun r35 _=>?_
      exact Run.x 0
    ·refine Run.z [false,false,false,false,false,false] ?_
     refine Run.q (e:=vIv) (gv:=vIv) (oi_DirectionAt _ _) fun r36 _=>?_
     refine Run.q (e:=vIv) (gv:=vIv) (oi_DirectionAt _ _) fun r37 _=>?_
     refine Run.q (e:=vIv) (gv:=vIv) (oi_HullI _ _) fun r38 _=>?_
     refine Run.q (e:=vIv) (gv:=vIv) (oi_DirectionAt _ _) fun r39 _=>?_
     refine Run.q (e:=vIv) (gv:=vIv) (oi_DirectionAt _ _) fun r40 _=>?_
     refine Run.q (e:=vIv) (gv:=vIv) (oi_HullI _ _) fun r41 _=>?_
     refine Run.q (e:=vIv) (gv:=vIv) (oi_HullI _ _) fun r42 _=>?_
     exact Run.x 0
   ·refine Run.z [false,false,false,false,false,false,false,false,false,false,false,false] ?_
    refine Run.q (e:=vIv) (gv:=vIv) (oi_DirectionAt _ _) fun r43 _=>?_
    refine Run.q (e:=vIv) (gv:=vIv) (oi_DirectionAt _ _) fun r44 _=>?_
    refine Run.q (e:=vIv) (gv:=vIv) (oi_HullI _ _) fun r45 _=>?_
    refine Run.q (e:=vIv) (gv:=vIv) (oi_DirectionAt _ _) fun r46 _=>?_
    refine Run.q (e:=vIv) (gv:=vIv) (oi_DirectionAt _ _) fun r47 _=>?_
    refine Run.q (e:=vIv) (gv:=vIv) (oi_HullI _ _) fun r48 _=>?_
    refine Run.q (e:=vIv) (gv:=vIv) (oi_HullI _ _) fun r49 _=>?_
    exact Run.x 0
theorem oi_CircleAt (a0 : I64) : Fun Tryz.prog 244 [] #[vI a0] (vIv (I_CircleAt a0)) []:=by
 refine Fun.ofH 400 E_ok mixed Tryz.func244 (by kernel_rfl) (by kernel_rfl) ?_
 unfold I_CircleAt
 refine Run.q (e:=vB) (gv:=vIv) (oi_within _ _ _) fun r1 _=>?_
 refine Run.y (gv:=vIv) (fun _=>?_) (fun _=>?_)
 ·refine Run.q (e:=vIv) (gv:=vIv) (oi_Whole) fun r2 _=>?_
  exact Run.x 0
 ·refine Run.q (e:=vT_I_B) (gv:=vIv) (oi_SqrtFloor _ _) fun r3 _=>?_
  refine Run.q (e:=vWd) (gv:=vIv) (oi_WideMul _ _) fun r4 _=>?_
  refine Run.q (e:=vWd) (gv:=vIv) (oi_WideMul _ _) fun r5 _=>?_
  refine Run.y (gv:=vIv) (fun _=>?_) (fun _=>?_)
  ·refine Run.q (e:=vIv) (gv:=vIv) (oi_at _) fun r6 _=>?_
   exact Run.x 0
  ·exact Run.x 0
theorem oi_AsinAt (a0 : I64) : Fun Tryz.prog 209 [] #[vI a0] (vIv (I_AsinAt a0)) []:=by
 refine Fun.ofH 400 E_ok mixed Tryz.func209 (by kernel_rfl) (by kernel_rfl) ?_
 unfold I_AsinAt
 refine Run.q (e:=vB) (gv:=vIv) (oi_within _ _ _) fun r1 _=>?_
 refine Run.y (gv:=vIv) (fun _=>?_) (fun _=>?_)
 ·refine Run.q (e:=vIv) (gv:=vIv) (oi_Whole) fun r2 _=>?_
  exact Run.x 0
 ·refine Run.q (e:=vIv) (gv:=vIv) (oi_at _) fun r3 _=>?_
  refine Run.q (e:=vIv) (gv:=vIv) (oi_Integer _) fun r4 _=>?_
  refine Run.q (e:=vIv) (gv:=vIv) (oi_CircleAt _) fun r5 _=>?_
  refine Run.q (e:=vIv) (gv:=vIv) (oi_AddI _ _) fun r6 _=>?_
  refine Run.q (e:=vIv) (gv:=vIv) (oi_DivI _ _) fun r7 _=>?_
  refine Run.q (e:=vIv) (gv:=vIv) (oi_AtanI _) fun r8 _=>?_
  refine Run.q (e:=vIv) (gv:=vIv) (oi_DoubleI _) fun r9 _=>?_
  refine Run.q (e:=vIv) (gv:=vIv) (oi_halfCircle) fun r10 _=>?_
  refine Run.q (e:=vT_Iv_B) (gv:=vIv) (oi_MeetI _ _) fun r11 _=>?_
  exact Run.x 0
theorem oi_AsinI (a0 : Iv) : Fun Tryz.prog 145 [] #[vIv a0] (vIv (I_AsinI a0)) []:=by
 refine Fun.ofH 400 E_ok mixed Tryz.func145 (by kernel_rfl) (by kernel_rfl) ?_
 unfold I_AsinI
 refine Run.q (e:=vIv) (gv:=vIv) (oi_ring) fun r1 _=>?_
 refine Run.q (e:=vT_Iv_B) (gv:=vIv) (oi_MeetI _ _) fun r2 _=>?_
 refine Run.y (gv:=vIv) (fun _=>?_) (fun _=>?_)
 ·refine Run.q (e:=vIv) (gv:=vIv) (oi_Whole) fun r3 _=>?_
  exact Run.x 0
 ·refine Run.q (e:=vIv) (gv:=vIv) (oi_AsinAt _) fun r4 _=>?_
  refine Run.q (e:=vIv) (gv:=vIv) (oi_AsinAt _) fun r5 _=>?_
  refine Run.q (e:=vIv) (gv:=vIv) (oi_HullI _ _) fun r6 _=>?_
  exact Run.x 0
theorem oi_SinhI_1 (a0 : I64) : Fun Tryz.prog 212 [] #[vI a0] (vIv (I_SinhI_1 a0)) []:=by
 refine Fun.ofH 400 E_ok mixed Tryz.func212 (by kernel_rfl) (by kernel_rfl) ?_
 unfold I_SinhI_1
 refine Run.q (e:=vIv) (gv:=vIv) (oi_ExpAt _) fun r1 _=>?_
 refine Run.q (e:=vIv) (gv:=vIv) (oi_ExpAt _) fun r2 _=>?_
 refine Run.q (e:=vIv) (gv:=vIv) (oi_SubI _ _) fun r3 _=>?_
 refine Run.q (e:=vIv) (gv:=vIv) (oi_HalfI _) fun r4 _=>?_
 exact Run.x 0
theorem oi_monotonic__impl_SinhI_1 (a0 : Iv) : Fun Tryz.prog 197 [] #[vIv a0,.func (.func 212) #[] #[]] (vIv (I_monotonic__impl_SinhI_1 a0)) []:=by
 refine Fun.ofH 400 E_ok mixed Tryz.func197 (by kernel_rfl) (by kernel_rfl) ?_
 unfold I_monotonic__impl_SinhI_1
 refine Run.q (e:=vB) (gv:=vIv) (oi_IsWhole _) fun r1 _=>?_
 refine Run.y (gv:=vIv) (fun _=>?_) (fun _=>?_)
 ·refine Run.q (e:=vIv) (gv:=vIv) (oi_Whole) fun r2 _=>?_
  exact Run.x 0
 ·refine Run.q (e:=vIv) (gv:=vIv) (oi_SinhI_1 _) fun r3 _=>?_
  refine Run.q (e:=vIv) (gv:=vIv) (oi_SinhI_1 _) fun r4 _=>?_
  refine Run.q (e:=vB) (gv:=vIv) (oi_areBounded _ _) fun r5 _=>?_
  refine Run.y (gv:=vIv) (fun _=>?_) (fun _=>?_)
  ·refine Run.q (e:=vIv) (gv:=vIv) (oi_Whole) fun r6 _=>?_
   exact Run.x 0
  ·refine Run.q (e:=vIv) (gv:=vIv) (oi_bounded _ _ _) fun r7 _=>?_
   exact Run.x 0
theorem oi_SinhI (a0 : Iv) : Fun Tryz.prog 149 [] #[vIv a0] (vIv (I_SinhI a0)) []:=by
 refine Fun.ofH 400 E_ok mixed Tryz.func149 (by kernel_rfl) (by kernel_rfl) ?_
 unfold I_SinhI
 refine Run.q (e:=vIv) (gv:=vIv) (oi_monotonic__impl_SinhI_1 _) fun r1 _=>?_
 exact Run.x 0
theorem oi_conic_inverseLat__pCn (b0 : Cn) (a0 : Iv) : Fun Tryz.prog 59 [(#[.int .i64 b0.p.kind.val,.int .i64 b0.p.lat0.val,.int .i64 b0.p.lon0.val,.int .i64 b0.p.lat1.val,.int .i64 b0.p.lat2.val,.int .i64 b0.a.lo.val,.int .i64 b0.a.hi.val,.int .i64 b0.b.lo.val,.int .i64 b0.b.hi.val,.int .i64 b0.o.lo.val,.int .i64 b0.o.hi.val,.int .i64 b0.n.lo.val,.int .i64 b0.n.hi.val,.int .i64 b0.g.lo.val,.int .i64 b0.g.hi.val],67)] #[.pointer (some ⟨0,0,none⟩),vIv a0] (vT_Iv_B (I_conic_inverseLat__pCn b0 a0)) [(#[.int .i64 b0.p.kind.val,.int .i64 b0.p.lat0.val,.int .i64 b0.p.lon0.val,.int .i64 b0.p.lat1.val,.int .i64 b0.p.lat2.val,.int .i64 b0.a.lo.val,.int .i64 b0.a.hi.val,.int .i64 b0.b.lo.val,.int .i64 b0.b.hi.val,.int .i64 b0.o.lo.val,.int .i64 b0.o.hi.val,.int .i64 b0.n.lo.val,.int .i64 b0.n.hi.val,.int .i64 b0.g.lo.val,.int .i64 b0.g.hi.val],67)]:=by
 refine Fun.ofH 400 E_ok mixed Tryz.func59 (by kernel_rfl) (by kernel_rfl) ?_
 unfold I_conic_inverseLat__pCn
 refine Run.y (gv:=vT_Iv_B) (fun _=>?_) (fun _=>?_)
 ·refine Run.q (e:=vIv) (gv:=vT_Iv_B) (oi_MulI _ _) fun r1 _=>?_
  refine Run.q (e:=vIv) (gv:=vT_Iv_B) (oi_SqrI _) fun r2 _=>?_
  refine Run.q (e:=vIv) (gv:=vT_Iv_B) (oi_SubI _ _) fun r3 _=>?_
  refine Run.q (e:=vIv) (gv:=vT_Iv_B) (oi_times _ _) fun r4 _=>?_
  refine Run.q (e:=vIv) (gv:=vT_Iv_B) (oi_DivI _ _) fun r5 _=>?_
  refine Run.q (e:=vIv) (gv:=vT_Iv_B) (oi_AsinI _) fun r6 _=>?_
  refine Run.q (e:=vIv) (gv:=vT_Iv_B) (oi_ring) fun r7 _=>?_
  refine Run.q (e:=vB) (gv:=vT_Iv_B) (oi_OverlapI _ _) fun r8 _=>?_
  exact Run.x 1
 ·refine Run.y (gv:=vT_Iv_B) (fun _=>?_) (fun _=>?_)
  ·refine Run.q (e:=vIv) (gv:=vT_Iv_B) (oi_DivI _ _) fun r9 _=>?_
   refine Run.q (e:=vIv) (gv:=vT_Iv_B) (oi_LogI _) fun r10 _=>?_
   refine Run.q (e:=vIv) (gv:=vT_Iv_B) (oi_DivI _ _) fun r11 _=>?_
   refine Run.q (e:=vIv) (gv:=vT_Iv_B) (oi_SinhI _) fun r12 _=>?_
   refine Run.q (e:=vIv) (gv:=vT_Iv_B) (oi_AtanI _) fun r13 _=>?_
   exact Run.x 1
  ·refine Run.q (e:=vIv) (gv:=vT_Iv_B) (oi_SubI _ _) fun r14 _=>?_
   exact Run.x 1
theorem oi_quarter : Fun Tryz.prog 152 [] #[] (vI (I_quarter)) []:=by
 refine Fun.ofH 400 E_ok mixed Tryz.func152 (by kernel_rfl) (by kernel_rfl) ?_
 unfold I_quarter
 refine Run.q (e:=vIv) (gv:=vI) (oi_TurnI _) fun r1 _=>?_
 exact Run.x 0
theorem oi_overlapsAny (a0 : Iv) (a1 : I64) : Fun Tryz.prog 151 [] #[vIv a0,vI a1] (vB (I_overlapsAny a0 a1)) []:=by
 refine Fun.ofH 400 E_ok mixed Tryz.func151 (by kernel_rfl) (by kernel_rfl) ?_
 unfold I_overlapsAny
 refine Run.q (e:=vB) (gv:=vB) (oi_OverlapI _ _) fun r1 _=>?_
 exact Run.x 0
theorem oi_onEarth (a0 : Iv) (a1 : Iv) (a2 : I64) : Fun Tryz.prog 60 [] #[vIv a0,vIv a1,vI a2] (vT_Iv_Iv_I (I_onEarth a0 a1 a2)) []:=by
 refine Fun.ofH 400 E_ok mixed Tryz.func60 (by kernel_rfl) (by kernel_rfl) ?_
 unfold I_onEarth
 refine Run.q (e:=vI) (gv:=vT_Iv_Iv_I) (oi_quarter) fun r1 _=>?_
 refine Run.q (e:=vB) (gv:=vT_Iv_Iv_I) (oi_overlapsAny _ _) fun r2 _=>?_
 refine Run.y (gv:=vT_Iv_Iv_I) (fun _=>?_) (fun _=>?_)
 ·refine Run.z [true,true,true,true,true,true] ?_
  exact Run.x 0
 ·refine Run.z [false] ?_
  refine Run.q (e:=vIv) (gv:=vT_Iv_Iv_I) (oi_TurnI _) fun r3 _=>?_
  refine Run.z [false,false] ?_
  refine Run.q (e:=vB) (gv:=vT_Iv_Iv_I) (oi_overlapsAny _ _) fun r4 _=>?_
  refine Run.z [false,false] ?_
  refine Run.y (gv:=vT_Iv_Iv_I) (fun _=>?_) (fun _=>?_)
  ·exact Run.x 0
  ·refine Run.q (e:=vIv) (gv:=vT_Iv_Iv_I) (oi_RadiansOf _) fun r5 _=>?_
   refine Run.q (e:=vIv) (gv:=vT_Iv_Iv_I) (oi_AddI _ _) fun r6 _=>?_
   refine Run.q (e:=vT_Iv_Iv_I) (gv:=vT_Iv_Iv_I) (oi_pair _ _) fun r7 _=>?_
   exact Run.x 0
theorem oi_ConicInverse (a0 : Pj) (a1 : Pn) : Fun Tryz.prog 11 [] #[vPj a0,vPn a1] (vT_Iv_Iv_I (I_ConicInverse a0 a1)) []:=by
 refine Fun.ofH 400 E_ok mixed Tryz.func11 (by kernel_rfl) (by kernel_rfl) ?_
 unfold I_ConicInverse
 refine Run.bmb (nn:=fun r : Cn × I64=>(r.2.val != 0)) (cl:=fun r : Cn × I64=>(vCn r.1).cells) (gv:=vT_Iv_Iv_I) (by kernel_rfl) (by kernel_rfl) (oi_newConic _) (by kernel_rfl) (fun _=>rfl) (fun r1 hr1=>?_) (fun r1 hr1=>?_)
 ·refine Run.z [true] ?_
  exact Run.x 0
 ·refine Run.z [false] ?_
  refine Run.w (e:=vIv) (gv:=vT_Iv_Iv_I) [4] (oi_conic_radius__pCn _ _) fun r2 hr2=>?_
  refine Run.q (e:=vIv) (gv:=vT_Iv_Iv_I) (oi_SubI _ _) fun r3 hr3=>?_
  refine Run.q (e:=vIv) (gv:=vT_Iv_Iv_I) (oi_SqrI _) fun r4 hr4=>?_
  refine Run.q (e:=vIv) (gv:=vT_Iv_Iv_I) (oi_SqrI _) fun r5 hr5=>?_
  refine Run.q (e:=vIv) (gv:=vT_Iv_Iv_I) (oi_AddI _ _) fun r6 hr6=>?_
  refine Run.q (e:=vIv) (gv:=vT_Iv_Iv_I) (oi_SqrtI _) fun r7 hr7=>?_
  refine Run.q (e:=vIv) (gv:=vT_Iv_Iv_I) (oi_DirectionI _ _) fun r8 hr8=>?_
  refine Run.y (gv:=vT_Iv_Iv_I) (fun h9=>?_) (fun h9=>?_)
  ·refine Run.q (e:=vIv) (gv:=vT_Iv_Iv_I) (oi_NegI _) fun r10 hr10=>?_
   refine Run.q (e:=vIv) (gv:=vT_Iv_Iv_I) (oi_NegI _) fun r11 hr11=>?_
   refine Run.q (e:=vIv) (gv:=vT_Iv_Iv_I) (oi_NegI _) fun r12 hr12=>?_
   refine Run.q (e:=vIv) (gv:=vT_Iv_Iv_I) (oi_DirectionI _ _) fun r13 hr13=>?_
   refine Run.w (e:=vT_Iv_B) (gv:=vT_Iv_Iv_I) [4] (oi_conic_inverseLat__pCn _ _) fun r14 hr14=>?_
   refine Run.y (gv:=vT_Iv_Iv_I) (fun h15=>?_) (fun h15=>?_)
   ·exact Run.x 0
   ·refine Run.q (e:=vIv) (gv:=vT_Iv_Iv_I) (oi_DivI _ _) fun r16 hr16=>?_
    refine Run.q (e:=vT_Iv_Iv_I) (gv:=vT_Iv_Iv_I) (oi_onEarth _ _ _) fun r17 hr17=>?_
    exact Run.x 0
  ·refine Run.w (e:=vT_Iv_B) (gv:=vT_Iv_Iv_I) [4] (oi_conic_inverseLat__pCn _ _) fun r18 hr18=>?_
   refine Run.y (gv:=vT_Iv_Iv_I) (fun h19=>?_) (fun h19=>?_)
   ·exact Run.x 0
   ·refine Run.q (e:=vIv) (gv:=vT_Iv_Iv_I) (oi_DivI _ _) fun r20 hr20=>?_
    refine Run.q (e:=vT_Iv_Iv_I) (gv:=vT_Iv_Iv_I) (oi_onEarth _ _ _) fun r21 hr21=>?_
    exact Run.x 0
theorem oi_knownI (a0 : Iv) : Fun Tryz.prog 63 [] #[vIv a0] (vT_Iv_I (I_knownI a0)) []:=by
 refine Fun.ofH 400 E_ok mixed Tryz.func63 (by kernel_rfl) (by kernel_rfl) ?_
 unfold I_knownI
 refine Run.q (e:=vB) (gv:=vT_Iv_I) (oi_IsWhole _) fun r1 _=>?_
 refine Run.y (gv:=vT_Iv_I) (fun _=>?_) (fun _=>?_)
 ·exact Run.x 0
 ·exact Run.x 0
theorem oi_ConicRadius (a0 : Pj) (a1 : Iv) : Fun Tryz.prog 13 [] #[vPj a0,vIv a1] (vT_Iv_I (I_ConicRadius a0 a1)) []:=by
 refine Fun.ofH 400 E_ok mixed Tryz.func13 (by kernel_rfl) (by kernel_rfl) ?_
 unfold I_ConicRadius
 refine Run.bmb (nn:=fun r : Cn × I64=>(r.2.val != 0)) (cl:=fun r : Cn × I64=>(vCn r.1).cells) (gv:=vT_Iv_I) (by kernel_rfl) (by kernel_rfl) (oi_newConic _) (by kernel_rfl) (fun _=>rfl) (fun r1 hr1=>?_) (fun r1 hr1=>?_)
 ·refine Run.z [true] ?_
  exact Run.x 0
 ·refine Run.z [false] ?_
  refine Run.w (e:=vIv) (gv:=vT_Iv_I) [3] (oi_conic_radius__pCn _ _) fun r2 hr2=>?_
  refine Run.q (e:=vT_Iv_I) (gv:=vT_Iv_I) (oi_knownI _) fun r3 hr3=>?_
  exact Run.x 0
end Go.Proofs.YtbipmdgocmdgdaaGreat.Abs
