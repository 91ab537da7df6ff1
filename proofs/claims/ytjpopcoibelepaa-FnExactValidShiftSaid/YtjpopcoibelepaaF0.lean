/- The functions, on numbers; part 0 (written by w.py). -/
import Derived.Test.YtjpopcoibelepaaAbsT
set_option linter.unusedVariables false
set_option linter.unusedSimpArgs false
namespace Go.Proofs.Ytjpopcoibelepaa.Abs
open Go Go.RowKit

def vT_I_I (a : I64 × I64) : Value := .tuple #[vI a.1, vI a.2]
def vT_Pj_I (a : Pj × I64) : Value := .tuple #[vPj a.1, vI a.2]
def vT_Sf_I (a : Sf × I64) : Value := .tuple #[vSf a.1, vI a.2]

def F_spec_l00In (a0 : I64) (a1 : I64) (a2 : I64) : Bool :=
  (bif (decide (a0.val ≥ a1.val)) then (decide (a0.val ≤ a2.val)) else false)

def F_spec_l21Middle (a0 : I64) : I64 :=
  (w64 ((w64 ((w64 (6 * a0.val)).val - 183)).val * 10000000))

def F_spec_ZoneMiddle (a0 : I64) : I64 × I64 :=
  bindP (F_spec_l00In a0 (c64 1) (c64 60)) fun r1 => (bif (!r1) then ((c64 0), (c64 2)) else bindP (F_spec_l21Middle a0) fun r2 => (r2, (c64 0)))

def F_impl_within (a0 : I64) (a1 : I64) (a2 : I64) : Bool :=
  (bif (decide (a0.val ≥ a1.val)) then (decide (a0.val ≤ a2.val)) else false)

def F_impl_ZoneMiddle (a0 : I64) : I64 × I64 :=
  bindP (F_impl_within a0 (c64 1) (c64 60)) fun r1 => (bif (!r1) then ((c64 0), (c64 2)) else ((w64 ((w64 ((w64 (6 * a0.val)).val - 183)).val * 10000000)), (c64 0)))

def F_laws_FnExactZoneMiddle (a0 : I64) : Bool :=
  bindP (F_spec_ZoneMiddle a0) fun r1 => bindP (F_impl_ZoneMiddle a0) fun r2 => (bif (r2.1.val != r1.1.val) then false else (bif (r2.2.val != r1.2.val) then false else true))

def F_spec_l00Has__s4 (b0_0 : I64) (b0_1 : I64) (b0_2 : I64) (b0_3 : I64) (a0 : I64) : Bool :=
  (bif (b0_0.val == a0.val) then true else (bif (b0_1.val == a0.val) then true else (bif (b0_2.val == a0.val) then true else (bif (b0_3.val == a0.val) then true else false))))

def F_spec_IsConformal (a0 : I64) : Bool :=
  bindP (F_spec_l00Has__s4 (c64 2) (c64 6) (c64 11) (c64 16) a0) fun r1 => r1

def F_slices_Index_int64_int64__s4 (b0_0 : I64) (b0_1 : I64) (b0_2 : I64) (b0_3 : I64) (a0 : I64) : I64 :=
  (bif (a0.val == b0_0.val) then (c64 0) else (bif (a0.val == b0_1.val) then (c64 1) else (bif (a0.val == b0_2.val) then (c64 2) else (bif (a0.val == b0_3.val) then (c64 3) else (c64 (-1))))))

def F_slices_Contains_int64_int64__s4 (b0_0 : I64) (b0_1 : I64) (b0_2 : I64) (b0_3 : I64) (a0 : I64) : Bool :=
  bindP (F_slices_Index_int64_int64__s4 b0_0 b0_1 b0_2 b0_3 a0) fun r1 => (decide (r1.val ≥ 0))

def F_impl_IsConformal (a0 : I64) : Bool :=
  bindP (F_slices_Contains_int64_int64__s4 (c64 2) (c64 6) (c64 11) (c64 16) a0) fun r1 => r1

def F_laws_FnExactIsConformal (a0 : I64) : Bool :=
  bindP (F_spec_IsConformal a0) fun r1 => bindP (F_impl_IsConformal a0) fun r2 => (bif (!(r2 == r1)) then false else true)

def F_spec_l00Has__s6 (b0_0 : I64) (b0_1 : I64) (b0_2 : I64) (b0_3 : I64) (b0_4 : I64) (b0_5 : I64) (a0 : I64) : Bool :=
  (bif (b0_0.val == a0.val) then true else (bif (b0_1.val == a0.val) then true else (bif (b0_2.val == a0.val) then true else (bif (b0_3.val == a0.val) then true else (bif (b0_4.val == a0.val) then true else (bif (b0_5.val == a0.val) then true else false))))))

def F_spec_IsEqualArea (a0 : I64) : Bool :=
  bindP (F_spec_l00Has__s6 (c64 3) (c64 9) (c64 10) (c64 13) (c64 14) (c64 15) a0) fun r1 => r1

def F_slices_Index_int64_int64__s6 (b0_0 : I64) (b0_1 : I64) (b0_2 : I64) (b0_3 : I64) (b0_4 : I64) (b0_5 : I64) (a0 : I64) : I64 :=
  (bif (a0.val == b0_0.val) then (c64 0) else (bif (a0.val == b0_1.val) then (c64 1) else (bif (a0.val == b0_2.val) then (c64 2) else (bif (a0.val == b0_3.val) then (c64 3) else (bif (a0.val == b0_4.val) then (c64 4) else (bif (a0.val == b0_5.val) then (c64 5) else (c64 (-1))))))))

def F_slices_Contains_int64_int64__s6 (b0_0 : I64) (b0_1 : I64) (b0_2 : I64) (b0_3 : I64) (b0_4 : I64) (b0_5 : I64) (a0 : I64) : Bool :=
  bindP (F_slices_Index_int64_int64__s6 b0_0 b0_1 b0_2 b0_3 b0_4 b0_5 a0) fun r1 => (decide (r1.val ≥ 0))

def F_impl_IsEqualArea (a0 : I64) : Bool :=
  bindP (F_slices_Contains_int64_int64__s6 (c64 3) (c64 9) (c64 10) (c64 13) (c64 14) (c64 15) a0) fun r1 => r1

def F_laws_FnExactIsEqualArea (a0 : I64) : Bool :=
  bindP (F_spec_IsEqualArea a0) fun r1 => bindP (F_impl_IsEqualArea a0) fun r2 => (bif (!(r2 == r1)) then false else true)

def F_laws_toShift (a0 : Sf) : Sf :=
  a0

def F_spec_l23Ok__pSf (b0 : Sf) : Bool :=
  bindP (F_spec_l00In b0.tx (c64 (-10000000)) (c64 10000000)) fun r1 => (bif (!r1) then false else bindP (F_spec_l00In b0.rx (c64 (-100000000)) (c64 100000000)) fun r2 => (bif (!r2) then false else bindP (F_spec_l00In b0.ty (c64 (-10000000)) (c64 10000000)) fun r3 => (bif (!r3) then false else bindP (F_spec_l00In b0.ry (c64 (-100000000)) (c64 100000000)) fun r4 => (bif (!r4) then false else bindP (F_spec_l00In b0.tz (c64 (-10000000)) (c64 10000000)) fun r5 => (bif (!r5) then false else bindP (F_spec_l00In b0.rz (c64 (-100000000)) (c64 100000000)) fun r6 => (bif (!r6) then false else bindP (F_spec_l00In b0.sc (c64 (-1000000)) (c64 1000000)) fun r7 => r7))))))

def F_spec_ValidShift (a0 : Sf) : Bool :=
  bindP (F_spec_l23Ok__pSf a0) fun r1 => r1

def F_impl_areWithin__s3 (b0_0 : I64) (b0_1 : I64) (b0_2 : I64) (a0 : I64) : Bool :=
  bindP (F_impl_within b0_0 (w64 (0 - a0.val)) a0) fun r1 => (bif (!r1) then false else bindP (F_impl_within b0_1 (w64 (0 - a0.val)) a0) fun r2 => (bif (!r2) then false else bindP (F_impl_within b0_2 (w64 (0 - a0.val)) a0) fun r3 => (bif (!r3) then false else true)))

def F_impl_areWithin__s1 (b0 : I64) (a0 : I64) : Bool :=
  bindP (F_impl_within b0 (w64 (0 - a0.val)) a0) fun r1 => (bif (!r1) then false else true)

def F_impl_ValidShift (a0 : Sf) : Bool :=
  bindP (F_impl_areWithin__s3 a0.tx a0.ty a0.tz (c64 10000000)) fun r1 => (bif r1 then bindP (F_impl_areWithin__s3 a0.rx a0.ry a0.rz (c64 100000000)) fun r2 => (bif r2 then bindP (F_impl_areWithin__s1 a0.sc (c64 1000000)) fun r3 => r3 else false) else false)

def F_laws_FnExactValidShift (a0 : Sf) : Bool :=
  bindP (F_laws_toShift a0) fun r1 => bindP (F_spec_ValidShift r1) fun r2 => bindP (F_laws_toShift a0) fun r3 => bindP (F_impl_ValidShift r3) fun r4 => (bif (!(r4 == r2)) then false else true)

def F_spec_l22Family (a0 : I64) : I64 :=
  bindP (F_spec_l00In a0 (c64 1) (c64 4)) fun r1 => (bif r1 then (c64 1) else bindP (F_spec_l00In a0 (c64 5) (c64 9)) fun r2 => (bif r2 then (c64 2) else bindP (F_spec_l00In a0 (c64 10) (c64 12)) fun r3 => (bif r3 then (c64 3) else bindP (F_spec_l00In a0 (c64 13) (c64 15)) fun r4 => (bif r4 then (c64 4) else (bif (a0.val == 16) then (c64 5) else (c64 0))))))

def F_spec_FamilyOf (a0 : I64) : I64 :=
  bindP (F_spec_l22Family a0) fun r1 => r1

def F_impl_isCylindrical (a0 : I64) : Bool :=
  bindP (F_impl_within a0 (c64 1) (c64 4)) fun r1 => r1

def F_impl_isAzimuthal (a0 : I64) : Bool :=
  bindP (F_impl_within a0 (c64 5) (c64 9)) fun r1 => r1

def F_impl_isConic (a0 : I64) : Bool :=
  bindP (F_impl_within a0 (c64 10) (c64 12)) fun r1 => r1

def F_impl_isPseudo (a0 : I64) : Bool :=
  bindP (F_impl_within a0 (c64 13) (c64 15)) fun r1 => r1

def F_impl_FamilyOf (a0 : I64) : I64 :=
  bindP (F_impl_isCylindrical a0) fun r1 => (bif r1 then (c64 1) else bindP (F_impl_isAzimuthal a0) fun r2 => (bif r2 then (c64 2) else bindP (F_impl_isConic a0) fun r3 => (bif r3 then (c64 3) else bindP (F_impl_isPseudo a0) fun r4 => (bif r4 then (c64 4) else (bif (a0.val == 16) then (c64 5) else (c64 0))))))

def F_laws_FnExactFamilyOf (a0 : I64) : Bool :=
  bindP (F_spec_FamilyOf a0) fun r1 => bindP (F_impl_FamilyOf a0) fun r2 => (bif (r2.val != r1.val) then false else true)

def F_laws_toPoint (a0 : Pt) : Pt :=
  a0

def F_spec_l11Ok (a0 : Pt) : Bool :=
  bindP (F_spec_l00In a0.lat (c64 (-900000000)) (c64 900000000)) fun r1 => (bif r1 then bindP (F_spec_l00In a0.lon (c64 (-1799999999)) (c64 1800000000)) fun r2 => r2 else false)

def F_spec_l21Zone (a0 : Pt) : I64 :=
  (bif (a0.lon.val == 1800000000) then (c64 1) else (w64 ((w64 (Int.tdiv (w64 (a0.lon.val + 1800000000)).val 60000000)).val + 1)))

def F_spec_ZoneOf (a0 : Pt) : I64 × I64 :=
  bindP (F_spec_l11Ok a0) fun r1 => (bif (!r1) then ((c64 0), (c64 1)) else bindP (F_spec_l21Zone a0) fun r2 => (r2, (c64 0)))

def F_impl_ValidPoint (a0 : Pt) : Bool :=
  bindP (F_impl_within a0.lat (c64 (-900000000)) (c64 900000000)) fun r1 => (bif r1 then (bif (decide (a0.lon.val > (-1800000000))) then (decide (a0.lon.val ≤ 1800000000)) else false) else false)

def F_impl_zoneOf (a0 : Pt) : I64 :=
  (bif (a0.lon.val == 1800000000) then (c64 1) else (w64 ((w64 (Int.tdiv (w64 (a0.lon.val + 1800000000)).val 60000000)).val + 1)))

def F_impl_ZoneOf (a0 : Pt) : I64 × I64 :=
  bindP (F_impl_ValidPoint a0) fun r1 => (bif (!r1) then ((c64 0), (c64 1)) else bindP (F_impl_zoneOf a0) fun r2 => (r2, (c64 0)))

def F_laws_FnExactZoneOf (a0 : Pt) : Bool :=
  bindP (F_laws_toPoint a0) fun r1 => bindP (F_spec_ZoneOf r1) fun r2 => bindP (F_laws_toPoint a0) fun r3 => bindP (F_impl_ZoneOf r3) fun r4 => (bif (r4.1.val != r2.1.val) then false else (bif (r4.2.val != r2.2.val) then false else true))

def F_spec_l21Projection (a0 : I64) : Pj :=
  bindP (F_spec_l21Middle a0) fun r1 => (⟨(c64 16), (c64 0), r1, (c64 0), (c64 0)⟩ : Pj)

def F_spec_ZoneProjection (a0 : I64) : Pj × I64 :=
  bindP (F_spec_l00In a0 (c64 1) (c64 60)) fun r1 => (bif (!r1) then ((⟨(c64 0), (c64 0), (c64 0), (c64 0), (c64 0)⟩ : Pj), (c64 2)) else bindP (F_spec_l21Projection a0) fun r2 => (r2, (c64 0)))

def F_impl_ZoneProjection (a0 : I64) : Pj × I64 :=
  bindP (F_impl_ZoneMiddle a0) fun r1 => (bif (r1.2.val != 0) then ((⟨(c64 0), (c64 0), (c64 0), (c64 0), (c64 0)⟩ : Pj), r1.2) else ((⟨(c64 16), (c64 0), r1.1, (c64 0), (c64 0)⟩ : Pj), (c64 0)))

def F_laws_eqProjection (a0 : Pj) (a1 : Pj) : Bool :=
  (bif (a0.kind.val != a1.kind.val) then false else (bif (a0.lat0.val != a1.lat0.val) then false else (bif (a0.lon0.val != a1.lon0.val) then false else (bif (a0.lat1.val != a1.lat1.val) then false else (bif (a0.lat2.val != a1.lat2.val) then false else true)))))

def F_laws_FnExactZoneProjection (a0 : I64) : Bool :=
  bindP (F_spec_ZoneProjection a0) fun r1 => bindP (F_impl_ZoneProjection a0) fun r2 => bindP (F_laws_eqProjection r2.1 r1.1) fun r3 => (bif (!r3) then false else (bif (r2.2.val != r1.2.val) then false else true))

def F_spec_OppositeShift (a0 : Sf) : Sf × I64 :=
  bindP (F_spec_l23Ok__pSf a0) fun r1 => (bif (!r1) then ((⟨(c64 0), (c64 0), (c64 0), (c64 0), (c64 0), (c64 0), (c64 0)⟩ : Sf), (c64 1)) else ((⟨(w64 (0 - a0.tx.val)), (w64 (0 - a0.ty.val)), (w64 (0 - a0.tz.val)), (w64 (0 - a0.rx.val)), (w64 (0 - a0.ry.val)), (w64 (0 - a0.rz.val)), (w64 (0 - a0.sc.val))⟩ : Sf), (c64 0)))

def F_impl_OppositeShift (a0 : Sf) : Sf × I64 :=
  bindP (F_impl_ValidShift a0) fun r1 => (bif (!r1) then ((⟨(c64 0), (c64 0), (c64 0), (c64 0), (c64 0), (c64 0), (c64 0)⟩ : Sf), (c64 1)) else ((⟨(w64 (0 - a0.tx.val)), (w64 (0 - a0.ty.val)), (w64 (0 - a0.tz.val)), (w64 (0 - a0.rx.val)), (w64 (0 - a0.ry.val)), (w64 (0 - a0.rz.val)), (w64 (0 - a0.sc.val))⟩ : Sf), (c64 0)))

def F_laws_eqShift (a0 : Sf) (a1 : Sf) : Bool :=
  (bif (a0.tx.val != a1.tx.val) then false else (bif (a0.ty.val != a1.ty.val) then false else (bif (a0.tz.val != a1.tz.val) then false else (bif (a0.rx.val != a1.rx.val) then false else (bif (a0.ry.val != a1.ry.val) then false else (bif (a0.rz.val != a1.rz.val) then false else (bif (a0.sc.val != a1.sc.val) then false else true)))))))

def F_laws_FnExactOppositeShift (a0 : Sf) : Bool :=
  bindP (F_laws_toShift a0) fun r1 => bindP (F_spec_OppositeShift r1) fun r2 => bindP (F_laws_toShift a0) fun r3 => bindP (F_impl_OppositeShift r3) fun r4 => bindP (F_laws_eqShift r4.1 r2.1) fun r5 => (bif (!r5) then false else (bif (r4.2.val != r2.2.val) then false else true))

end Go.Proofs.Ytjpopcoibelepaa.Abs
