/- The functions, on numbers; part 5 (written by w.py). -/
import Derived.Test.YtclbkeejhnmeoaaGreatF4
set_option linter.unusedVariables false
set_option linter.unusedSimpArgs false
namespace Go.Proofs.YtclbkeejhnmeoaaGreat.Abs
open Go Go.RowKit

def F_spec_ValidEllipsoid (a0 : El) : Bool :=
  bindP (F_spec_l12Ok a0) fun r1 => r1

def F_spec_l23Ok__pSf (b0 : Sf) : Bool :=
  bindP (F_spec_l00In b0.tx (c64 (-10000000)) (c64 10000000)) fun r1 => (bif (!r1) then false else bindP (F_spec_l00In b0.rx (c64 (-100000000)) (c64 100000000)) fun r2 => (bif (!r2) then false else bindP (F_spec_l00In b0.ty (c64 (-10000000)) (c64 10000000)) fun r3 => (bif (!r3) then false else bindP (F_spec_l00In b0.ry (c64 (-100000000)) (c64 100000000)) fun r4 => (bif (!r4) then false else bindP (F_spec_l00In b0.tz (c64 (-10000000)) (c64 10000000)) fun r5 => (bif (!r5) then false else bindP (F_spec_l00In b0.rz (c64 (-100000000)) (c64 100000000)) fun r6 => (bif (!r6) then false else bindP (F_spec_l00In b0.sc (c64 (-1000000)) (c64 1000000)) fun r7 => r7))))))

def F_spec_l14Ok__pPl (b0 : Pl) : Bool :=
  bindP (F_spec_l11Ok b0.point) fun r1 => (bif r1 then bindP (F_spec_l00In b0.height (c64 (-20000000)) (c64 20000000000)) fun r2 => r2 else false)

def F_spec_l23Arc (a0 : I64) : Iv :=
  bindP (F_spec_PiI) fun r1 => bindP (F_spec_Quotient a0 (c64 648000000000)) fun r2 => bindP (F_spec_MulI r1 r2) fun r3 => r3

def F_spec_l23Affine__pSf (b0 : Sf) : Af :=
  bindP (F_spec_Integer (c64 1)) fun r1 => bindP (F_spec_Quotient b0.sc (c64 1000000000)) fun r2 => bindP (F_spec_AddI r1 r2) fun r3 => bindP (F_spec_l23Arc b0.rx) fun r4 => bindP (F_spec_MulI r3 r4) fun r5 => bindP (F_spec_l23Arc b0.ry) fun r6 => bindP (F_spec_MulI r3 r6) fun r7 => bindP (F_spec_l23Arc b0.rz) fun r8 => bindP (F_spec_MulI r3 r8) fun r9 => bindP (F_spec_NegI r7) fun r10 => bindP (F_spec_NegI r9) fun r11 => bindP (F_spec_NegI r5) fun r12 => bindP (F_spec_Quotient b0.tx (c64 1000)) fun r13 => bindP (F_spec_Quotient b0.ty (c64 1000)) fun r14 => bindP (F_spec_Quotient b0.tz (c64 1000)) fun r15 => (⟨(⟨(⟨r3, r9, r10⟩ : Vc), (⟨r11, r3, r5⟩ : Vc), (⟨r7, r12, r3⟩ : Vc)⟩ : Mt), (⟨r13, r14, r15⟩ : Vc)⟩ : Af)

def F_spec_MajorI (a0 : El) : Iv :=
  bindP (F_spec_l12Ok a0) fun r1 => (bif (!r1) then bindP (F_spec_l04Whole) fun r2 => r2 else bindP (F_spec_Quotient a0.a (c64 1000)) fun r3 => r3)

def F_spec_FlatteningI (a0 : El) : Iv :=
  bindP (F_spec_l12Ok a0) fun r1 => (bif (!r1) then bindP (F_spec_l04Whole) fun r2 => r2 else bindP (F_spec_Quotient a0.num a0.den) fun r3 => r3)

def F_spec_EccI (a0 : El) : Iv :=
  bindP (F_spec_FlatteningI a0) fun r1 => bindP (F_spec_Integer (c64 2)) fun r2 => bindP (F_spec_SubI r2 r1) fun r3 => bindP (F_spec_MulI r1 r3) fun r4 => r4

def F_spec_l12W (a0 : El) (a1 : Iv) : Iv :=
  bindP (F_spec_Integer (c64 1)) fun r1 => bindP (F_spec_EccI a0) fun r2 => bindP (F_spec_SinI a1) fun r3 => bindP (F_spec_SqrI r3) fun r4 => bindP (F_spec_MulI r2 r4) fun r5 => bindP (F_spec_SubI r1 r5) fun r6 => r6

def F_spec_RadiusN (a0 : El) (a1 : Iv) : Iv :=
  bindP (F_spec_MajorI a0) fun r1 => bindP (F_spec_l12W a0 a1) fun r2 => bindP (F_spec_SqrtI r2) fun r3 => bindP (F_spec_DivI r1 r3) fun r4 => r4

def F_spec_l14To__pPl (b0 : Pl) (a0 : El) : Vc :=
  bindP (F_spec_RadiansOf b0.point.lat) fun r1 => bindP (F_spec_RadiansOf b0.point.lon) fun r2 => bindP (F_spec_RadiusN a0 r1) fun r3 => bindP (F_spec_Quotient b0.height (c64 1000)) fun r4 => bindP (F_spec_AddI r3 r4) fun r5 => bindP (F_spec_CosI r1) fun r6 => bindP (F_spec_MulI r5 r6) fun r7 => bindP (F_spec_Integer (c64 1)) fun r8 => bindP (F_spec_EccI a0) fun r9 => bindP (F_spec_SubI r8 r9) fun r10 => bindP (F_spec_MulI r3 r10) fun r11 => bindP (F_spec_AddI r11 r4) fun r12 => bindP (F_spec_SinI r1) fun r13 => bindP (F_spec_MulI r12 r13) fun r14 => bindP (F_spec_CosI r2) fun r15 => bindP (F_spec_MulI r7 r15) fun r16 => bindP (F_spec_SinI r2) fun r17 => bindP (F_spec_MulI r7 r17) fun r18 => (⟨r16, r18, r14⟩ : Vc)

def F_spec_DotV (a0 : Vc) (a1 : Vc) : Iv :=
  bindP (F_spec_MulI a0.x a1.x) fun r1 => bindP (F_spec_MulI a0.y a1.y) fun r2 => bindP (F_spec_AddI r1 r2) fun r3 => bindP (F_spec_MulI a0.z a1.z) fun r4 => bindP (F_spec_AddI r3 r4) fun r5 => r5

def F_spec_ApplyM (a0 : Mt) (a1 : Vc) : Vc :=
  bindP (F_spec_DotV a0.a a1) fun r1 => bindP (F_spec_DotV a0.b a1) fun r2 => bindP (F_spec_DotV a0.c a1) fun r3 => (⟨r1, r2, r3⟩ : Vc)

def F_spec_AddV (a0 : Vc) (a1 : Vc) : Vc :=
  bindP (F_spec_AddI a0.x a1.x) fun r1 => bindP (F_spec_AddI a0.y a1.y) fun r2 => bindP (F_spec_AddI a0.z a1.z) fun r3 => (⟨r1, r2, r3⟩ : Vc)

def F_spec_ApplyAffine (a0 : Af) (a1 : Vc) : Vc :=
  bindP (F_spec_ApplyM a0.m a1) fun r1 => bindP (F_spec_AddV r1 a0.t) fun r2 => r2

def F_spec_l14Far (a0 : El) (a1 : Vc) : I64 :=
  bindP (F_spec_ValidEllipsoid a0) fun r1 => (bif (!r1) then (c64 1) else bindP (F_spec_NormV a1) fun r2 => bindP (F_spec_MajorI a0) fun r3 => bindP (F_spec_HalfI r3) fun r4 => bindP (F_spec_LessI r2 r4) fun r5 => (bif (r5.val == 1) then (c64 8) else (bif (r5.val == 0) then (c64 0) else (c64 9))))

def F_spec_l14Side (a0 : El) (a1 : Iv) (a2 : Iv) (a3 : I64) : Iv :=
  bindP (F_spec_SinAt a3) fun r1 => bindP (F_spec_CosAt a3) fun r2 => bindP (F_spec_l05At a3) fun r3 => bindP (F_spec_RadiusN a0 r3) fun r4 => bindP (F_spec_MulI a1 r1) fun r5 => bindP (F_spec_MulI a2 r2) fun r6 => bindP (F_spec_SubI r5 r6) fun r7 => bindP (F_spec_EccI a0) fun r8 => bindP (F_spec_MulI r8 r4) fun r9 => bindP (F_spec_MulI r9 r1) fun r10 => bindP (F_spec_MulI r10 r2) fun r11 => bindP (F_spec_SubI r7 r11) fun r12 => r12

def F_spec_l14Lat_L1 : Nat → El → Vc → Iv → I64 → I64 → I64 → Iv
  | 0, _, _, _, _, _, _ => (⟨(c64 0), (c64 0)⟩ : Iv)
  | fu + 1, a0, a1, r1, x_from, x_low, x_high => (bif (decide ((w64 (x_high.val - x_low.val)).val > 1)) then bindP (F_spec_l14Side a0 r1 a1.z (ishr (w64 (x_low.val + x_high.val)) 1)) fun r9 => (bif (decide (r9.lo.val > 0)) then F_spec_l14Lat_L1 fu a0 a1 r1 x_from x_low (ishr (w64 (x_low.val + x_high.val)) 1) else F_spec_l14Lat_L1 fu a0 a1 r1 x_from (ishr (w64 (x_low.val + x_high.val)) 1) x_high) else (⟨x_from, x_high⟩ : Iv))

def F_spec_l14Lat_L0 : Nat → El → Vc → Iv → I64 → I64 → Iv
  | 0, _, _, _, _, _ => (⟨(c64 0), (c64 0)⟩ : Iv)
  | fu + 1, a0, a1, r1, x_low, x_high => (bif (decide ((w64 (x_high.val - x_low.val)).val > 1)) then bindP (F_spec_l14Side a0 r1 a1.z (ishr (w64 (x_low.val + x_high.val)) 1)) fun r5 => (bif (decide (r5.hi.val < 0)) then F_spec_l14Lat_L0 fu a0 a1 r1 (ishr (w64 (x_low.val + x_high.val)) 1) x_high else F_spec_l14Lat_L0 fu a0 a1 r1 x_low (ishr (w64 (x_low.val + x_high.val)) 1)) else bindP (F_spec_l05Turn (c64 1)) fun r7 => F_spec_l14Lat_L1 ((r7.hi.val - x_low.val).toNat + 1) a0 a1 r1 x_low x_low r7.hi)

def F_spec_l14Lat (a0 : El) (a1 : Vc) : Iv :=
  bindP (F_spec_l15Flat a1) fun r1 => bindP (F_spec_l05Turn (c64 1)) fun r2 => bindP (F_spec_l05Turn (c64 1)) fun r3 => F_spec_l14Lat_L0 ((r3.hi.val - (w64 (0 - r2.hi.val)).val).toNat + 1) a0 a1 r1 (w64 (0 - r2.hi.val)) r3.hi

def F_spec_FromCartesian (a0 : El) (a1 : Vc) : Iv × Iv × Iv × I64 :=
  bindP (F_spec_l14Far a0 a1) fun r1 => (bif (r1.val != 0) then ((⟨(c64 0), (c64 0)⟩ : Iv), (⟨(c64 0), (c64 0)⟩ : Iv), (⟨(c64 0), (c64 0)⟩ : Iv), r1) else bindP (F_spec_l14Lat a0 a1) fun r2 => bindP (F_spec_SinI r2) fun r3 => bindP (F_spec_Integer (c64 1)) fun r4 => bindP (F_spec_EccI a0) fun r5 => bindP (F_spec_SqrI r3) fun r6 => bindP (F_spec_MulI r5 r6) fun r7 => bindP (F_spec_SubI r4 r7) fun r8 => bindP (F_spec_SqrtI r8) fun r9 => bindP (F_spec_l15Flat a1) fun r10 => bindP (F_spec_CosI r2) fun r11 => bindP (F_spec_MulI r10 r11) fun r12 => bindP (F_spec_MulI a1.z r3) fun r13 => bindP (F_spec_AddI r12 r13) fun r14 => bindP (F_spec_MajorI a0) fun r15 => bindP (F_spec_MulI r15 r9) fun r16 => bindP (F_spec_SubI r14 r16) fun r17 => bindP (F_spec_IsWhole r17) fun r18 => (bif r18 then ((⟨(c64 0), (c64 0)⟩ : Iv), (⟨(c64 0), (c64 0)⟩ : Iv), (⟨(c64 0), (c64 0)⟩ : Iv), (c64 9)) else bindP (F_spec_DirectionI a1.y a1.x) fun r19 => (r2, r19, r17, (c64 0))))

def F_spec_MovePlace (a0 : El) (a1 : Sf) (a2 : El) (a3 : Pl) : Iv × Iv × Iv × I64 :=
  bindP (F_spec_ValidEllipsoid a0) fun r1 => (bif (!r1) then ((⟨(c64 0), (c64 0)⟩ : Iv), (⟨(c64 0), (c64 0)⟩ : Iv), (⟨(c64 0), (c64 0)⟩ : Iv), (c64 1)) else bindP (F_spec_l23Ok__pSf a1) fun r2 => (bif (!r2) then ((⟨(c64 0), (c64 0)⟩ : Iv), (⟨(c64 0), (c64 0)⟩ : Iv), (⟨(c64 0), (c64 0)⟩ : Iv), (c64 1)) else bindP (F_spec_ValidEllipsoid a2) fun r3 => (bif (!r3) then ((⟨(c64 0), (c64 0)⟩ : Iv), (⟨(c64 0), (c64 0)⟩ : Iv), (⟨(c64 0), (c64 0)⟩ : Iv), (c64 1)) else bindP (F_spec_l14Ok__pPl a3) fun r4 => (bif (!r4) then ((⟨(c64 0), (c64 0)⟩ : Iv), (⟨(c64 0), (c64 0)⟩ : Iv), (⟨(c64 0), (c64 0)⟩ : Iv), (c64 1)) else bindP (F_spec_l23Affine__pSf a1) fun r5 => bindP (F_spec_l14To__pPl a3 a0) fun r6 => bindP (F_spec_ApplyAffine r5 r6) fun r7 => bindP (F_spec_FromCartesian a2 r7) fun r8 => (r8.1, r8.2.1, r8.2.2.1, r8.2.2.2)))))

def F_impl_ValidEllipsoid (a0 : El) : Bool :=
  bindP (F_impl_within a0.a (c64 1000) (c64 100000000000)) fun r1 => (bif r1 then bindP (F_impl_within a0.den (c64 1) (c64 1000000000000)) fun r2 => (bif r2 then bindP (F_impl_within a0.num (c64 0) (w64 (Int.tdiv a0.den.val 100))) fun r3 => r3 else false) else false)

def F_impl_areWithin__s3 (b0_0 : I64) (b0_1 : I64) (b0_2 : I64) (a0 : I64) : Bool :=
  bindP (F_impl_within b0_0 (w64 (0 - a0.val)) a0) fun r1 => (bif (!r1) then false else bindP (F_impl_within b0_1 (w64 (0 - a0.val)) a0) fun r2 => (bif (!r2) then false else bindP (F_impl_within b0_2 (w64 (0 - a0.val)) a0) fun r3 => (bif (!r3) then false else true)))

def F_impl_areWithin__s1 (b0 : I64) (a0 : I64) : Bool :=
  bindP (F_impl_within b0 (w64 (0 - a0.val)) a0) fun r1 => (bif (!r1) then false else true)

def F_impl_ValidShift (a0 : Sf) : Bool :=
  bindP (F_impl_areWithin__s3 a0.tx a0.ty a0.tz (c64 10000000)) fun r1 => (bif r1 then bindP (F_impl_areWithin__s3 a0.rx a0.ry a0.rz (c64 100000000)) fun r2 => (bif r2 then bindP (F_impl_areWithin__s1 a0.sc (c64 1000000)) fun r3 => r3 else false) else false)

def F_impl_isHeight (a0 : I64) : Bool :=
  bindP (F_impl_within a0 (c64 (-20000000)) (c64 20000000000)) fun r1 => r1

def F_impl_ValidPlace (a0 : Pl) : Bool :=
  bindP (F_impl_ValidPoint a0.point) fun r1 => (bif r1 then bindP (F_impl_isHeight a0.height) fun r2 => r2 else false)

def F_impl_affineOf_1__pIv (b0 : Iv) (a0 : I64) : Iv :=
  bindP (F_impl_PiI) fun r1 => bindP (F_impl_Quotient a0 (c64 648000000000)) fun r2 => bindP (F_impl_MulI r1 r2) fun r3 => bindP (F_impl_MulI b0 r3) fun r4 => r4

def F_impl_affineOf (a0 : Sf) : Af :=
  bindP (F_impl_Integer (c64 1)) fun r1 => bindP (F_impl_Quotient a0.sc (c64 1000000000)) fun r2 => bindP (F_impl_AddI r1 r2) fun r3 => bindP (F_impl_affineOf_1__pIv r3 a0.rx) fun r4 => bindP (F_impl_affineOf_1__pIv r3 a0.ry) fun r5 => bindP (F_impl_affineOf_1__pIv r3 a0.rz) fun r6 => bindP (F_impl_NegI r5) fun r7 => bindP (F_impl_NegI r6) fun r8 => bindP (F_impl_NegI r4) fun r9 => bindP (F_impl_Quotient a0.tx (c64 1000)) fun r10 => bindP (F_impl_Quotient a0.ty (c64 1000)) fun r11 => bindP (F_impl_Quotient a0.tz (c64 1000)) fun r12 => (⟨(⟨(⟨r3, r6, r7⟩ : Vc), (⟨r8, r3, r4⟩ : Vc), (⟨r5, r9, r3⟩ : Vc)⟩ : Mt), (⟨r10, r11, r12⟩ : Vc)⟩ : Af)

def F_impl_LonOf (a0 : Pt) : Iv :=
  bindP (F_impl_ValidPoint a0) fun r1 => (bif (!r1) then bindP (F_impl_Whole) fun r2 => r2 else bindP (F_impl_RadiansOf a0.lon) fun r3 => r3)

def F_impl_MajorI_1__pEl (b0 : El) : Iv :=
  bindP (F_impl_Quotient b0.a (c64 1000)) fun r1 => r1

def F_impl_ifValid__impl_MajorI_1_pEl (b0 : El) (a0 : El) : Iv :=
  bindP (F_impl_ValidEllipsoid a0) fun r1 => (bif (!r1) then bindP (F_impl_Whole) fun r2 => r2 else bindP (F_impl_MajorI_1__pEl b0) fun r3 => r3)

def F_impl_MajorI (a0 : El) : Iv :=
  bindP (F_impl_ifValid__impl_MajorI_1_pEl a0 a0) fun r1 => r1

def F_impl_FlatteningI_1__pEl (b0 : El) : Iv :=
  bindP (F_impl_Quotient b0.num b0.den) fun r1 => r1

def F_impl_ifValid__impl_FlatteningI_1_pEl (b0 : El) (a0 : El) : Iv :=
  bindP (F_impl_ValidEllipsoid a0) fun r1 => (bif (!r1) then bindP (F_impl_Whole) fun r2 => r2 else bindP (F_impl_FlatteningI_1__pEl b0) fun r3 => r3)

def F_impl_FlatteningI (a0 : El) : Iv :=
  bindP (F_impl_ifValid__impl_FlatteningI_1_pEl a0 a0) fun r1 => r1

def F_impl_EccI (a0 : El) : Iv :=
  bindP (F_impl_FlatteningI a0) fun r1 => bindP (F_impl_Integer (c64 2)) fun r2 => bindP (F_impl_SubI r2 r1) fun r3 => bindP (F_impl_MulI r1 r3) fun r4 => r4

def F_impl_weightOf (a0 : El) (a1 : Iv) : Iv :=
  bindP (F_impl_EccI a0) fun r1 => bindP (F_impl_SqrI a1) fun r2 => bindP (F_impl_MulI r1 r2) fun r3 => bindP (F_impl_oneLess r3) fun r4 => r4

def F_impl_RadiusN (a0 : El) (a1 : Iv) : Iv :=
  bindP (F_impl_MajorI a0) fun r1 => bindP (F_impl_SinI a1) fun r2 => bindP (F_impl_weightOf a0 r2) fun r3 => bindP (F_impl_SqrtI r3) fun r4 => bindP (F_impl_DivI r1 r4) fun r5 => r5

def F_impl_HeightI (a0 : I64) : Iv :=
  bindP (F_impl_isHeight a0) fun r1 => (bif (!r1) then bindP (F_impl_Whole) fun r2 => r2 else bindP (F_impl_Quotient a0 (c64 1000)) fun r3 => r3)

def F_impl_toCartesian (a0 : El) (a1 : Pl) : Vc :=
  bindP (F_impl_LatOf a1.point) fun r1 => bindP (F_impl_LonOf a1.point) fun r2 => bindP (F_impl_RadiusN a0 r1) fun r3 => bindP (F_impl_HeightI a1.height) fun r4 => bindP (F_impl_AddI r3 r4) fun r5 => bindP (F_impl_CosI r1) fun r6 => bindP (F_impl_MulI r5 r6) fun r7 => bindP (F_impl_CosI r2) fun r8 => bindP (F_impl_MulI r7 r8) fun r9 => bindP (F_impl_SinI r2) fun r10 => bindP (F_impl_MulI r7 r10) fun r11 => bindP (F_impl_EccI a0) fun r12 => bindP (F_impl_oneLess r12) fun r13 => bindP (F_impl_MulI r3 r13) fun r14 => bindP (F_impl_AddI r14 r4) fun r15 => bindP (F_impl_SinI r1) fun r16 => bindP (F_impl_MulI r15 r16) fun r17 => (⟨r9, r11, r17⟩ : Vc)

def F_impl_DotV (a0 : Vc) (a1 : Vc) : Iv :=
  bindP (F_impl_MulI a0.x a1.x) fun r1 => bindP (F_impl_MulI a0.y a1.y) fun r2 => bindP (F_impl_AddI r1 r2) fun r3 => bindP (F_impl_MulI a0.z a1.z) fun r4 => bindP (F_impl_AddI r3 r4) fun r5 => r5

def F_impl_ApplyM (a0 : Mt) (a1 : Vc) : Vc :=
  bindP (F_impl_DotV a0.a a1) fun r1 => bindP (F_impl_DotV a0.b a1) fun r2 => bindP (F_impl_DotV a0.c a1) fun r3 => (⟨r1, r2, r3⟩ : Vc)

def F_impl_AddV (a0 : Vc) (a1 : Vc) : Vc :=
  bindP (F_impl_AddI a0.x a1.x) fun r1 => bindP (F_impl_AddI a0.y a1.y) fun r2 => bindP (F_impl_AddI a0.z a1.z) fun r3 => (⟨r1, r2, r3⟩ : Vc)

def F_impl_ApplyAffine (a0 : Af) (a1 : Vc) : Vc :=
  bindP (F_impl_ApplyM a0.m a1) fun r1 => bindP (F_impl_AddV r1 a0.t) fun r2 => r2

def F_impl_centreCode (a0 : El) (a1 : Vc) : I64 :=
  bindP (F_impl_ValidEllipsoid a0) fun r1 => (bif (!r1) then (c64 1) else bindP (F_impl_NormV a1) fun r2 => bindP (F_impl_MajorI a0) fun r3 => bindP (F_impl_HalfI r3) fun r4 => bindP (F_impl_LessI r2 r4) fun r5 => (bif (r5.val == 1) then (c64 8) else (bif (r5.val == 2) then (c64 9) else (c64 0))))

def F_impl_quarter : I64 :=
  bindP (F_impl_TurnI (c64 1)) fun r1 => r1.hi

def F_impl_SideAt (a0 : El) (a1 : Vc) (a2 : I64) : Iv :=
  bindP (F_impl_ValidEllipsoid a0) fun r1 => (bif (!r1) then bindP (F_impl_Whole) fun r2 => r2 else bindP (F_impl_SinAt a2) fun r3 => bindP (F_impl_CosAt a2) fun r4 => bindP (F_impl_EccI a0) fun r5 => bindP (F_impl_at a2) fun r6 => bindP (F_impl_RadiusN a0 r6) fun r7 => bindP (F_impl_MulI r5 r7) fun r8 => bindP (F_impl_MulI r8 r3) fun r9 => bindP (F_impl_MulI r9 r4) fun r10 => bindP (F_impl_fromAxis a1) fun r11 => bindP (F_impl_MulI r11 r3) fun r12 => bindP (F_impl_MulI a1.z r4) fun r13 => bindP (F_impl_SubI r12 r13) fun r14 => bindP (F_impl_SubI r14 r10) fun r15 => r15)

def F_impl_latitudeOf_L1 : Nat → El → Vc → I64 → I64 → I64 → Iv
  | 0, _, _, _, _, _ => (⟨(c64 0), (c64 0)⟩ : Iv)
  | fu + 1, a0, a1, x_low, x_lowq, x_high => (bif (decide ((w64 (x_high.val - x_lowq.val)).val > 1)) then bindP (F_impl_SideAt a0 a1 (ishr (w64 (x_lowq.val + x_high.val)) 1)) fun r8 => (bif (decide (r8.lo.val > 0)) then F_impl_latitudeOf_L1 fu a0 a1 x_low x_lowq (ishr (w64 (x_lowq.val + x_high.val)) 1) else F_impl_latitudeOf_L1 fu a0 a1 x_low (ishr (w64 (x_lowq.val + x_high.val)) 1) x_high) else (⟨x_low, x_high⟩ : Iv))

def F_impl_latitudeOf_L0 : Nat → El → Vc → I64 → I64 → Iv
  | 0, _, _, _, _ => (⟨(c64 0), (c64 0)⟩ : Iv)
  | fu + 1, a0, a1, x_low, x_high => (bif (decide ((w64 (x_high.val - x_low.val)).val > 1)) then bindP (F_impl_SideAt a0 a1 (ishr (w64 (x_low.val + x_high.val)) 1)) fun r4 => (bif (decide (r4.hi.val < 0)) then F_impl_latitudeOf_L0 fu a0 a1 (ishr (w64 (x_low.val + x_high.val)) 1) x_high else F_impl_latitudeOf_L0 fu a0 a1 x_low (ishr (w64 (x_low.val + x_high.val)) 1)) else bindP (F_impl_quarter) fun r6 => F_impl_latitudeOf_L1 ((r6.val - x_low.val).toNat + 1) a0 a1 x_low x_low r6)

def F_impl_latitudeOf (a0 : El) (a1 : Vc) : Iv :=
  bindP (F_impl_quarter) fun r1 => bindP (F_impl_quarter) fun r2 => F_impl_latitudeOf_L0 ((r2.val - (w64 (0 - r1.val)).val).toNat + 1) a0 a1 (w64 (0 - r1.val)) r2

def F_impl_FromCartesian (a0 : El) (a1 : Vc) : Iv × Iv × Iv × I64 :=
  bindP (F_impl_centreCode a0 a1) fun r1 => (bif (r1.val != 0) then ((⟨(c64 0), (c64 0)⟩ : Iv), (⟨(c64 0), (c64 0)⟩ : Iv), (⟨(c64 0), (c64 0)⟩ : Iv), r1) else bindP (F_impl_latitudeOf a0 a1) fun r2 => bindP (F_impl_SinI r2) fun r3 => bindP (F_impl_fromAxis a1) fun r4 => bindP (F_impl_CosI r2) fun r5 => bindP (F_impl_MulI r4 r5) fun r6 => bindP (F_impl_MulI a1.z r3) fun r7 => bindP (F_impl_AddI r6 r7) fun r8 => bindP (F_impl_MajorI a0) fun r9 => bindP (F_impl_weightOf a0 r3) fun r10 => bindP (F_impl_SqrtI r10) fun r11 => bindP (F_impl_MulI r9 r11) fun r12 => bindP (F_impl_SubI r8 r12) fun r13 => bindP (F_impl_IsWhole r13) fun r14 => (bif r14 then ((⟨(c64 0), (c64 0)⟩ : Iv), (⟨(c64 0), (c64 0)⟩ : Iv), (⟨(c64 0), (c64 0)⟩ : Iv), (c64 9)) else bindP (F_impl_DirectionI a1.y a1.x) fun r15 => (r2, r15, r13, (c64 0))))

def F_impl_MovePlace (a0 : El) (a1 : Sf) (a2 : El) (a3 : Pl) : Iv × Iv × Iv × I64 :=
  bindP (F_impl_ValidEllipsoid a0) fun r1 => (bif (!r1) then ((⟨(c64 0), (c64 0)⟩ : Iv), (⟨(c64 0), (c64 0)⟩ : Iv), (⟨(c64 0), (c64 0)⟩ : Iv), (c64 1)) else bindP (F_impl_ValidEllipsoid a2) fun r2 => (bif (!r2) then ((⟨(c64 0), (c64 0)⟩ : Iv), (⟨(c64 0), (c64 0)⟩ : Iv), (⟨(c64 0), (c64 0)⟩ : Iv), (c64 1)) else bindP (F_impl_ValidShift a1) fun r3 => (bif (!r3) then ((⟨(c64 0), (c64 0)⟩ : Iv), (⟨(c64 0), (c64 0)⟩ : Iv), (⟨(c64 0), (c64 0)⟩ : Iv), (c64 1)) else bindP (F_impl_ValidPlace a3) fun r4 => (bif (!r4) then ((⟨(c64 0), (c64 0)⟩ : Iv), (⟨(c64 0), (c64 0)⟩ : Iv), (⟨(c64 0), (c64 0)⟩ : Iv), (c64 1)) else bindP (F_impl_affineOf a1) fun r5 => bindP (F_impl_toCartesian a0 a3) fun r6 => bindP (F_impl_ApplyAffine r5 r6) fun r7 => bindP (F_impl_FromCartesian a2 r7) fun r8 => (r8.1, r8.2.1, r8.2.2.1, r8.2.2.2)))))

def F_laws_FnExactMovePlace (a0 : El) (a1 : Sf) (a2 : El) (a3 : Pl) : Bool :=
  bindP (F_laws_toEllipsoid a0) fun r1 => bindP (F_laws_toShift a1) fun r2 => bindP (F_laws_toEllipsoid a2) fun r3 => bindP (F_laws_toPlace a3) fun r4 => bindP (F_spec_MovePlace r1 r2 r3 r4) fun r5 => bindP (F_laws_toEllipsoid a0) fun r6 => bindP (F_laws_toShift a1) fun r7 => bindP (F_laws_toEllipsoid a2) fun r8 => bindP (F_laws_toPlace a3) fun r9 => bindP (F_impl_MovePlace r6 r7 r8 r9) fun r10 => bindP (F_laws_eqInterval r10.1 r5.1) fun r11 => (bif (!r11) then false else bindP (F_laws_eqInterval r10.2.1 r5.2.1) fun r12 => (bif (!r12) then false else bindP (F_laws_eqInterval r10.2.2.1 r5.2.2.1) fun r13 => (bif (!r13) then false else (bif (r10.2.2.2.val != r5.2.2.2.val) then false else true))))

def F_spec_WideMul (a0 : I64) (a1 : I64) : Wd :=
  bindP (F_spec_l02Mul a0 a1) fun r1 => r1

def F_spec_CircleAt (a0 : I64) : Iv :=
  bindP (F_spec_l00In a0 (c64 (-4294967296)) (c64 4294967296)) fun r1 => (bif (!r1) then bindP (F_spec_Whole) fun r2 => r2 else bindP (F_spec_SqrtFloor (w64 (4294967296 - a0.val)) (w64 (4294967296 + a0.val))) fun r3 => bindP (F_spec_WideMul r3.1 r3.1) fun r4 => bindP (F_spec_WideMul (w64 (4294967296 - a0.val)) (w64 (4294967296 + a0.val))) fun r5 => (bif (!((r4.hi.val == r5.hi.val) && (r4.lo.val == r5.lo.val))) then (⟨r3.1, (w64 (r3.1.val + 1))⟩ : Iv) else (⟨r3.1, r3.1⟩ : Iv)))

def F_spec_AsinAt (a0 : I64) : Iv :=
  bindP (F_spec_l00In a0 (c64 (-4294967296)) (c64 4294967296)) fun r1 => (bif (!r1) then bindP (F_spec_Whole) fun r2 => r2 else bindP (F_spec_l05At a0) fun r3 => bindP (F_spec_Integer (c64 1)) fun r4 => bindP (F_spec_CircleAt a0) fun r5 => bindP (F_spec_AddI r4 r5) fun r6 => bindP (F_spec_DivI r3 r6) fun r7 => bindP (F_spec_AtanI r7) fun r8 => bindP (F_spec_DoubleI r8) fun r9 => bindP (F_spec_l07Quarter) fun r10 => bindP (F_spec_MeetI r9 r10) fun r11 => r11.1)

def F_spec_AsinI (a0 : Iv) : Iv :=
  bindP (F_spec_l06Ring) fun r1 => bindP (F_spec_MeetI a0 r1) fun r2 => (bif (!r2.2) then bindP (F_spec_Whole) fun r3 => r3 else bindP (F_spec_AsinAt r2.1.lo) fun r4 => bindP (F_spec_AsinAt r2.1.hi) fun r5 => bindP (F_spec_HullI r4 r5) fun r6 => r6)

def F_spec_l17Back (a0 : Pj) (a1 : Iv) (a2 : Iv) : Iv × Iv × I64 :=
  bindP (F_spec_l05Turn (c64 1)) fun r1 => bindP (F_spec_l05Turn (c64 2)) fun r2 => bindP (F_spec_l04Ok a1) fun r3 => (bif r3 then bindP (F_spec_OverlapI a1 (⟨(w64 (0 - r1.hi.val)), r1.hi⟩ : Iv)) fun r5 => (bif (!r5) then ((⟨(c64 0), (c64 0)⟩ : Iv), (⟨(c64 0), (c64 0)⟩ : Iv), (c64 8)) else bindP (F_spec_l04Ok a2) fun r7 => (bif r7 then bindP (F_spec_OverlapI a2 (⟨(w64 (0 - r2.hi.val)), r2.hi⟩ : Iv)) fun r9 => (bif (!r9) then ((⟨(c64 0), (c64 0)⟩ : Iv), (⟨(c64 0), (c64 0)⟩ : Iv), (c64 8)) else bindP (F_spec_RadiansOf a0.lon0) fun r11 => bindP (F_spec_AddI a2 r11) fun r12 => bindP (F_spec_l04Ok a1) fun r13 => (bif (!r13) then ((⟨(c64 0), (c64 0)⟩ : Iv), (⟨(c64 0), (c64 0)⟩ : Iv), (c64 9)) else bindP (F_spec_l04Ok r12) fun r15 => (bif (!r15) then ((⟨(c64 0), (c64 0)⟩ : Iv), (⟨(c64 0), (c64 0)⟩ : Iv), (c64 9)) else (a1, r12, (c64 0))))) else bindP (F_spec_RadiansOf a0.lon0) fun r17 => bindP (F_spec_AddI a2 r17) fun r18 => bindP (F_spec_l04Ok a1) fun r19 => (bif (!r19) then ((⟨(c64 0), (c64 0)⟩ : Iv), (⟨(c64 0), (c64 0)⟩ : Iv), (c64 9)) else bindP (F_spec_l04Ok r18) fun r21 => (bif (!r21) then ((⟨(c64 0), (c64 0)⟩ : Iv), (⟨(c64 0), (c64 0)⟩ : Iv), (c64 9)) else (a1, r18, (c64 0)))))) else bindP (F_spec_l04Ok a2) fun r23 => (bif r23 then bindP (F_spec_OverlapI a2 (⟨(w64 (0 - r2.hi.val)), r2.hi⟩ : Iv)) fun r25 => (bif (!r25) then ((⟨(c64 0), (c64 0)⟩ : Iv), (⟨(c64 0), (c64 0)⟩ : Iv), (c64 8)) else bindP (F_spec_RadiansOf a0.lon0) fun r27 => bindP (F_spec_AddI a2 r27) fun r28 => bindP (F_spec_l04Ok a1) fun r29 => (bif (!r29) then ((⟨(c64 0), (c64 0)⟩ : Iv), (⟨(c64 0), (c64 0)⟩ : Iv), (c64 9)) else bindP (F_spec_l04Ok r28) fun r31 => (bif (!r31) then ((⟨(c64 0), (c64 0)⟩ : Iv), (⟨(c64 0), (c64 0)⟩ : Iv), (c64 9)) else (a1, r28, (c64 0))))) else bindP (F_spec_RadiansOf a0.lon0) fun r33 => bindP (F_spec_AddI a2 r33) fun r34 => bindP (F_spec_l04Ok a1) fun r35 => (bif (!r35) then ((⟨(c64 0), (c64 0)⟩ : Iv), (⟨(c64 0), (c64 0)⟩ : Iv), (c64 9)) else bindP (F_spec_l04Ok r34) fun r37 => (bif (!r37) then ((⟨(c64 0), (c64 0)⟩ : Iv), (⟨(c64 0), (c64 0)⟩ : Iv), (c64 9)) else (a1, r34, (c64 0))))))

end Go.Proofs.YtclbkeejhnmeoaaGreat.Abs
