/- The functions, on numbers; part 2 (written by w.py). -/
import Derived.Test.YtmkiegnnaabmaaaGreatF1
set_option linter.unusedVariables false
set_option linter.unusedSimpArgs false
namespace Go.Proofs.YtmkiegnnaabmaaaGreat.Abs
open Go Go.RowKit

def F_impl_turnsIn_L0 : Nat → Iv → I64 → List I64 → List I64
  | 0, _, _, acc => acc
  | fu + 1, a0, x_k, acc => bindP (F_impl_QuarterOf a0.hi) fun r1 => (bif (decide (x_k.val ≤ (w64 (r1.val + 1)).val)) then bindP (F_impl_TurnI x_k) fun r2 => bindP (F_impl_OverlapI r2 a0) fun r3 => (bif r3 then F_impl_turnsIn_L0 fu a0 (w64 (x_k.val + 1)) (acc ++ [x_k]) else F_impl_turnsIn_L0 fu a0 (w64 (x_k.val + 1)) acc) else acc)
def F_impl_turnsIn (a0 : Iv) : List I64 := bindP (F_impl_QuarterOf a0.lo) fun r1 => F_impl_turnsIn_L0 ((2000 - (w64 (r1.val - 1)).val).toNat + 1) a0 (w64 (r1.val - 1)) []

def F_impl_circleHull_L0 : Nat → I64 → List I64 → Iv → I64 → Iv → Iv
  | 0, _, _, _, _, _ => (⟨(c64 0), (c64 0)⟩ : Iv)
  | fu + 1, a1, r7, a0, x_24, y_2 => (bif (decide (x_24.val < (((r7.length : Nat) : Int)))) then (bif ((iand .i64 (w64 ((listAt r7 x_24).val + a1.val)).val 3).val == 1) then bindP (F_impl_Integer (c64 1)) fun r10 => bindP (F_impl_HullI y_2 r10) fun r11 => F_impl_circleHull_L0 fu a1 r7 a0 (w64 (x_24.val + 1)) r11 else (bif ((iand .i64 (w64 ((listAt r7 x_24).val + a1.val)).val 3).val == 3) then bindP (F_impl_Integer (c64 (-1))) fun r13 => bindP (F_impl_HullI y_2 r13) fun r14 => F_impl_circleHull_L0 fu a1 r7 a0 (w64 (x_24.val + 1)) r14 else F_impl_circleHull_L0 fu a1 r7 a0 (w64 (x_24.val + 1)) y_2)) else y_2)

def F_impl_circleHull (a0 : Iv) (a1 : I64) : Iv :=
  bindP (F_impl_areAngles a0) fun r1 => (bif (!r1) then bindP (F_impl_ring) fun r3 => r3 else bindP (F_impl_circleValue a0.lo a1) fun r4 => bindP (F_impl_circleValue a0.hi a1) fun r5 => bindP (F_impl_HullI r4 r5) fun r6 => bindP (F_impl_turnsIn a0) fun r7 => F_impl_circleHull_L0 (((r7.length : Nat) : Int).toNat + 1) a1 r7 a0 (c64 0) r6)

def F_impl_SinI (a0 : Iv) : Iv :=
  bindP (F_impl_circleHull a0 (c64 0)) fun r1 => r1

def F_impl_leftSide (a0 : I64) (a1 : I64) : Iv :=
  bindP (F_impl_at a1) fun r1 => (bif (a0.val == 14) then bindP (F_impl_at (w64 (2 * a1.val))) fun r2 => bindP (F_impl_SinI r2) fun r3 => bindP (F_impl_AddI r2 r3) fun r4 => r4 else bindP (F_impl_SinI r1) fun r5 => bindP (F_impl_AddI r1 r5) fun r6 => r6)

def F_impl_parameterAt_L1 : Nat → I64 → I64 → I64 → I64 → I64 → Iv
  | 0, _, _, _, _, _ => (⟨(c64 0), (c64 0)⟩ : Iv)
  | fu + 1, a0, a1, x_low, x_lowq, x_high => (bif (decide ((w64 (x_high.val - x_lowq.val)).val > 1)) then bindP (F_impl_leftSide a0 (ishr (w64 (x_lowq.val + x_high.val)) 1)) fun r13 => (bif (decide (r13.lo.val > a1.val)) then F_impl_parameterAt_L1 fu a0 a1 x_low x_lowq (ishr (w64 (x_lowq.val + x_high.val)) 1) else F_impl_parameterAt_L1 fu a0 a1 x_low (ishr (w64 (x_lowq.val + x_high.val)) 1) x_high) else (⟨x_low, x_high⟩ : Iv))

def F_impl_parameterAt_L0 : Nat → I64 → I64 → I64 → I64 → Iv
  | 0, _, _, _, _ => (⟨(c64 0), (c64 0)⟩ : Iv)
  | fu + 1, a0, a1, x_low, x_high => (bif (decide ((w64 (x_high.val - x_low.val)).val > 1)) then bindP (F_impl_leftSide a0 (ishr (w64 (x_low.val + x_high.val)) 1)) fun r9 => (bif (decide (r9.hi.val < a1.val)) then F_impl_parameterAt_L0 fu a0 a1 (ishr (w64 (x_low.val + x_high.val)) 1) x_high else F_impl_parameterAt_L0 fu a0 a1 x_low (ishr (w64 (x_low.val + x_high.val)) 1)) else bindP (F_impl_quarter) fun r11 => F_impl_parameterAt_L1 ((r11.val - x_low.val).toNat + 1) a0 a1 x_low x_low r11)

def F_impl_parameterAt_r : Nat → I64 → I64 → Iv
  | 0, _, _ => (⟨(c64 0), (c64 0)⟩ : Iv)
  | fu + 1, a0, a1 => bindP (F_impl_ValidFix a1) fun r1 => (bif (!r1) then bindP (F_impl_halfCircle) fun r3 => r3 else (bif (decide (a1.val < 0)) then bindP (F_impl_parameterAt_r fu a0 (w64 (0 - a1.val))) fun r5 => bindP (F_impl_NegI r5) fun r6 => r6 else bindP (F_impl_quarter) fun r7 => F_impl_parameterAt_L0 ((r7.val - (c64 0).val).toNat + 1) a0 a1 (c64 0) r7))
def F_impl_parameterAt (a0 : I64) (a1 : I64) : Iv := F_impl_parameterAt_r 2 a0 a1

def F_impl_EckertAt (a0 : I64) : Iv :=
  bindP (F_impl_parameterAt (c64 15) a0) fun r1 => r1

def F_laws_eqInterval (a0 : Iv) (a1 : Iv) : Bool :=
  (bif (a0.lo.val != a1.lo.val) then false else (bif (a0.hi.val != a1.hi.val) then false else true))

def F_laws_FnExactEckertAt (a0 : I64) : Bool :=
  bindP (F_spec_EckertAt a0) fun r1 => bindP (F_impl_EckertAt a0) fun r2 => bindP (F_laws_eqInterval r2 r1) fun r3 => (bif (!r3) then false else true)

def F_spec_MollweideAt (a0 : I64) : Iv :=
  bindP (F_spec_l20At (c64 14) a0) fun r1 => r1

def F_impl_MollweideAt (a0 : I64) : Iv :=
  bindP (F_impl_parameterAt (c64 14) a0) fun r1 => r1

def F_laws_FnExactMollweideAt (a0 : I64) : Bool :=
  bindP (F_spec_MollweideAt a0) fun r1 => bindP (F_impl_MollweideAt a0) fun r2 => bindP (F_laws_eqInterval r2 r1) fun r3 => (bif (!r3) then false else true)

def F_laws_toInterval (a0 : Iv) : Iv :=
  a0

def F_spec_PiI : Iv :=
  bindP (F_spec_l05Turn (c64 2)) fun r1 => r1

def F_spec_l20Right (a0 : I64) : Iv :=
  (bif (a0.val == 14) then bindP (F_spec_PiI) fun r1 => r1 else bindP (F_spec_Integer (c64 1)) fun r2 => bindP (F_spec_TurnI (c64 1)) fun r3 => bindP (F_spec_AddI r2 r3) fun r4 => r4)

def F_spec_ThetaOf (a0 : I64) (a1 : Iv) : Iv :=
  (bif (a0.val == 13) then a1 else (bif (a0.val == 14) then bindP (F_spec_l20Right a0) fun r1 => bindP (F_spec_SinI a1) fun r2 => bindP (F_spec_MulI r1 r2) fun r3 => bindP (F_spec_l20At a0 r3.lo) fun r4 => bindP (F_spec_l20At a0 r3.hi) fun r5 => bindP (F_spec_HullI r4 r5) fun r6 => r6 else (bif (a0.val == 15) then bindP (F_spec_l20Right a0) fun r7 => bindP (F_spec_SinI a1) fun r8 => bindP (F_spec_MulI r7 r8) fun r9 => bindP (F_spec_l20At a0 r9.lo) fun r10 => bindP (F_spec_l20At a0 r9.hi) fun r11 => bindP (F_spec_HullI r10 r11) fun r12 => r12 else bindP (F_spec_Whole) fun r13 => r13)))

def F_impl_isPseudo (a0 : I64) : Bool :=
  bindP (F_impl_within a0 (c64 13) (c64 15)) fun r1 => r1

def F_impl_PiI : Iv :=
  bindP (F_impl_TurnI (c64 2)) fun r1 => r1

def F_impl_leftFactor (a0 : I64) : Iv :=
  (bif (a0.val == 14) then bindP (F_impl_PiI) fun r1 => r1 else bindP (F_impl_Integer (c64 1)) fun r2 => bindP (F_impl_TurnI (c64 1)) fun r3 => bindP (F_impl_AddI r2 r3) fun r4 => r4)

def F_impl_ThetaOf (a0 : I64) (a1 : Iv) : Iv :=
  bindP (F_impl_isPseudo a0) fun r1 => (bif (!r1) then bindP (F_impl_Whole) fun r2 => r2 else (bif (a0.val == 13) then a1 else bindP (F_impl_leftFactor a0) fun r3 => bindP (F_impl_SinI a1) fun r4 => bindP (F_impl_MulI r3 r4) fun r5 => bindP (F_impl_parameterAt a0 r5.lo) fun r6 => bindP (F_impl_parameterAt a0 r5.hi) fun r7 => bindP (F_impl_HullI r6 r7) fun r8 => r8))

def F_laws_FnExactThetaOf (a0 : I64) (a1 : Iv) : Bool :=
  bindP (F_laws_toInterval a1) fun r1 => bindP (F_spec_ThetaOf a0 r1) fun r2 => bindP (F_laws_toInterval a1) fun r3 => bindP (F_impl_ThetaOf a0 r3) fun r4 => bindP (F_laws_eqInterval r4 r2) fun r5 => (bif (!r5) then false else true)

def F_laws_toProjection (a0 : Pj) : Pj :=
  a0

def F_laws_toPoint (a0 : Pt) : Pt :=
  a0

def F_spec_l11Ok (a0 : Pt) : Bool :=
  bindP (F_spec_l00In a0.lat (c64 (-900000000)) (c64 900000000)) fun r1 => (bif r1 then bindP (F_spec_l00In a0.lon (c64 (-1799999999)) (c64 1800000000)) fun r2 => r2 else false)

def F_spec_l17Standard (a0 : I64) : Bool :=
  bindP (F_spec_l00In a0 (c64 (-890000000)) (c64 890000000)) fun r1 => r1

def F_spec_l17Ok (a0 : Pj) : Bool :=
  bindP (F_spec_l11Ok (⟨a0.lat0, a0.lon0⟩ : Pt)) fun r1 => (bif (!r1) then false else bindP (F_spec_l17Standard a0.lat1) fun r2 => (bif (!r2) then false else bindP (F_spec_l17Standard a0.lat2) fun r3 => (bif (!r3) then false else (bif (a0.kind.val == 1) then (bif (a0.lat0.val == 0) then (a0.lat2.val == 0) else false) else (bif (a0.kind.val == 3) then (bif (a0.lat0.val == 0) then (a0.lat2.val == 0) else false) else (bif (a0.kind.val == 2) then (bif (a0.lat0.val == 0) then (bif (a0.lat1.val == 0) then (a0.lat2.val == 0) else false) else false) else (bif (a0.kind.val == 4) then (bif (a0.lat0.val == 0) then (bif (a0.lat1.val == 0) then (a0.lat2.val == 0) else false) else false) else (bif (a0.kind.val == 13) then (bif (a0.lat0.val == 0) then (bif (a0.lat1.val == 0) then (a0.lat2.val == 0) else false) else false) else (bif (a0.kind.val == 14) then (bif (a0.lat0.val == 0) then (bif (a0.lat1.val == 0) then (a0.lat2.val == 0) else false) else false) else (bif (a0.kind.val == 15) then (bif (a0.lat0.val == 0) then (bif (a0.lat1.val == 0) then (a0.lat2.val == 0) else false) else false) else (bif (a0.kind.val == 5) then (bif (a0.lat1.val == 0) then (a0.lat2.val == 0) else false) else (bif (a0.kind.val == 6) then (bif (a0.lat1.val == 0) then (a0.lat2.val == 0) else false) else (bif (a0.kind.val == 7) then (bif (a0.lat1.val == 0) then (a0.lat2.val == 0) else false) else (bif (a0.kind.val == 8) then (bif (a0.lat1.val == 0) then (a0.lat2.val == 0) else false) else (bif (a0.kind.val == 9) then (bif (a0.lat1.val == 0) then (a0.lat2.val == 0) else false) else (bif (a0.kind.val == 16) then (bif (a0.lat1.val == 0) then (a0.lat2.val == 0) else false) else (bif (a0.kind.val == 10) then (bif (decide ((w64 (a0.lat1.val + a0.lat2.val)).val ≥ 10000000)) then true else (decide ((w64 (a0.lat1.val + a0.lat2.val)).val ≤ (-10000000)))) else (bif (a0.kind.val == 11) then (bif (decide ((w64 (a0.lat1.val + a0.lat2.val)).val ≥ 10000000)) then true else (decide ((w64 (a0.lat1.val + a0.lat2.val)).val ≤ (-10000000)))) else (bif (a0.kind.val == 12) then (bif (decide ((w64 (a0.lat1.val + a0.lat2.val)).val ≥ 10000000)) then true else (decide ((w64 (a0.lat1.val + a0.lat2.val)).val ≤ (-10000000)))) else false)))))))))))))))))))

def F_spec_ValidProjection (a0 : Pj) : Bool :=
  bindP (F_spec_l17Ok a0) fun r1 => r1

def F_spec_l21Ok__pPj (b0 : Pj) : Bool :=
  (bif (b0.kind.val == 16) then bindP (F_spec_ValidProjection b0) fun r1 => r1 else false)

def F_spec_l11Wrap (a0 : I64) : I64 :=
  (bif (decide ((imod a0 3600000000).val > 1800000000)) then (bif (decide ((w64 ((imod a0 3600000000).val - 3600000000)).val ≤ (-1800000000))) then (w64 ((w64 ((imod a0 3600000000).val - 3600000000)).val + 3600000000)) else (w64 ((imod a0 3600000000).val - 3600000000))) else (bif (decide ((imod a0 3600000000).val ≤ (-1800000000))) then (w64 ((imod a0 3600000000).val + 3600000000)) else (imod a0 3600000000)))

def F_spec_l21Edge__pPj (b0 : Pj) (a0 : Pt) : Bool :=
  bindP (F_spec_l11Wrap (w64 (a0.lon.val - b0.lon0.val))) fun r1 => (bif (a0.lat.val == 0) then (bif (r1.val == 900000000) then true else (r1.val == (-900000000))) else false)

def F_spec_RadiansOf_b (self : I64 → Iv) (a0 : I64) : Iv :=
  bindP (F_spec_l00In a0 (c64 (-36000000000)) (c64 36000000000)) fun r1 => (bif (!r1) then bindP (F_spec_Whole) fun r3 => r3 else (bif (a0.val == 0) then (⟨(c64 0), (c64 0)⟩ : Iv) else (bif (decide (a0.val < 0)) then bindP (self (w64 (0 - a0.val))) fun r6 => bindP (F_spec_NegI r6) fun r7 => r7 else bindP (F_spec_MulDivFloor a0 (c64 7244019458077122842) (c64 966367641600000000)) fun r8 => bindP (F_spec_MulDivFloor a0 (c64 7244019458077122843) (c64 966367641600000000)) fun r9 => (⟨r8.1, (w64 (r9.1.val + 1))⟩ : Iv))))
def F_spec_RadiansOf_r : Nat → I64 → Iv
  | 0, _ => (⟨(c64 0), (c64 0)⟩ : Iv)
  | fu + 1, a0 => F_spec_RadiansOf_b (F_spec_RadiansOf_r fu) a0
def F_spec_RadiansOf (a0 : I64) : Iv := F_spec_RadiansOf_r 2 a0

def F_spec_CosI (a0 : Iv) : Iv :=
  bindP (F_spec_l06Over a0 (c64 1)) fun r1 => r1

def F_spec_l21Turn__pPj (b0 : Pj) (a0 : Pt) : Iv :=
  bindP (F_spec_l11Wrap (w64 (a0.lon.val - b0.lon0.val))) fun r1 => bindP (F_spec_RadiansOf r1) fun r2 => r2

def F_spec_l21Side__pPj (b0 : Pj) (a0 : Pt) : Iv :=
  bindP (F_spec_RadiansOf a0.lat) fun r1 => bindP (F_spec_CosI r1) fun r2 => bindP (F_spec_l21Turn__pPj b0 a0) fun r3 => bindP (F_spec_SinI r3) fun r4 => bindP (F_spec_MulI r2 r4) fun r5 => r5

def F_spec_l02Root_L0 : Nat → Wd → U64 → I64 → U64
  | 0, _, _, _ => (cu64 0)
  | fu + 1, a0, x_out, x_i => (bif (decide (x_i.val ≥ 0)) then bindP (F_spec_l02Times (ior .u64 x_out.val (ishl .u64 1 (wu64 x_i.val).val).val) (ior .u64 x_out.val (ishl .u64 1 (wu64 x_i.val).val).val)) fun r2 => (bif (decide (r2.1.val < (wu64 a0.hi.val).val)) then F_spec_l02Root_L0 fu a0 (ior .u64 x_out.val (ishl .u64 1 (wu64 x_i.val).val).val) (w64 (x_i.val - 1)) else (bif (r2.1.val == (wu64 a0.hi.val).val) then (bif (decide (r2.2.val ≤ a0.lo.val)) then F_spec_l02Root_L0 fu a0 (ior .u64 x_out.val (ishl .u64 1 (wu64 x_i.val).val).val) (w64 (x_i.val - 1)) else F_spec_l02Root_L0 fu a0 x_out (w64 (x_i.val - 1))) else F_spec_l02Root_L0 fu a0 x_out (w64 (x_i.val - 1)))) else x_out)

def F_spec_l02Root (a0 : Wd) : U64 :=
  F_spec_l02Root_L0 65 a0 (cu64 0) (c64 63)

def F_spec_SqrtFloor (a0 : I64) (a1 : I64) : I64 × Bool :=
  (bif (decide (a0.val < 0)) then ((c64 0), false) else (bif (decide (a1.val < 0)) then ((c64 0), false) else bindP (F_spec_l02Mul a0 a1) fun r1 => bindP (F_spec_l02Root r1) fun r2 => ((w64 r2.val), true)))

def F_spec_l03SqrtDown (a0 : I64) : I64 × Bool :=
  bindP (F_spec_l00In a0 (c64 0) (c64 1152921504606846976)) fun r1 => (bif (!r1) then ((c64 0), false) else bindP (F_spec_SqrtFloor a0 (c64 4294967296)) fun r2 => (r2.1, r2.2))

def F_spec_l03SqrtUp (a0 : I64) : I64 × Bool :=
  bindP (F_spec_l03SqrtDown a0) fun r1 => (bif (!r1.2) then ((c64 0), false) else bindP (F_spec_MulFloor r1.1 r1.1 (c64 32)) fun r2 => (bif (r2.1.val != a0.val) then ((w64 (r1.1.val + 1)), true) else (bif ((iand .i64 (w64 (r1.1.val * r1.1.val)).val 4294967295).val != 0) then ((w64 (r1.1.val + 1)), true) else (r1.1, true))))

def F_spec_SqrtI (a0 : Iv) : Iv :=
  bindP (F_spec_l04Ok a0) fun r1 => (bif (!r1) then bindP (F_spec_l04Whole) fun r2 => r2 else (bif (decide (a0.lo.val < 0)) then bindP (F_spec_l04Whole) fun r3 => r3 else bindP (F_spec_l03SqrtDown a0.lo) fun r4 => bindP (F_spec_l03SqrtUp a0.hi) fun r5 => bindP (F_spec_l04Make r4.1 r5.1) fun r6 => r6))

def F_spec_IsWhole (a0 : Iv) : Bool :=
  bindP (F_spec_l04Ok a0) fun r1 => (!r1)

def F_spec_l15Known (a0 : Iv) : Iv × I64 :=
  bindP (F_spec_IsWhole a0) fun r1 => (bif r1 then ((⟨(c64 0), (c64 0)⟩ : Iv), (c64 9)) else (a0, (c64 0)))

def F_spec_TransverseScale (a0 : Pj) (a1 : Pt) : Iv × I64 :=
  bindP (F_spec_l21Ok__pPj a0) fun r1 => (bif (!r1) then ((⟨(c64 0), (c64 0)⟩ : Iv), (c64 1)) else bindP (F_spec_l11Ok a1) fun r2 => (bif (!r2) then ((⟨(c64 0), (c64 0)⟩ : Iv), (c64 1)) else bindP (F_spec_l21Edge__pPj a0 a1) fun r3 => (bif r3 then ((⟨(c64 0), (c64 0)⟩ : Iv), (c64 8)) else bindP (F_spec_Integer (c64 1)) fun r4 => bindP (F_spec_Integer (c64 1)) fun r5 => bindP (F_spec_l21Side__pPj a0 a1) fun r6 => bindP (F_spec_SqrI r6) fun r7 => bindP (F_spec_SubI r5 r7) fun r8 => bindP (F_spec_SqrtI r8) fun r9 => bindP (F_spec_DivI r4 r9) fun r10 => bindP (F_spec_l15Known r10) fun r11 => (r11.1, r11.2))))

def F_impl_ValidPoint (a0 : Pt) : Bool :=
  bindP (F_impl_within a0.lat (c64 (-900000000)) (c64 900000000)) fun r1 => (bif r1 then (bif (decide (a0.lon.val > (-1800000000))) then (decide (a0.lon.val ≤ 1800000000)) else false) else false)

def F_impl_isStandard (a0 : I64) : Bool :=
  bindP (F_impl_within a0 (c64 (-890000000)) (c64 890000000)) fun r1 => r1

def F_impl_isAzimuthal (a0 : I64) : Bool :=
  bindP (F_impl_within a0 (c64 5) (c64 9)) fun r1 => r1

def F_impl_isConic (a0 : I64) : Bool :=
  bindP (F_impl_within a0 (c64 10) (c64 12)) fun r1 => r1

def F_impl_ValidProjection (a0 : Pj) : Bool :=
  bindP (F_impl_within a0.kind (c64 1) (c64 16)) fun r1 => (bif (!r1) then false else bindP (F_impl_ValidPoint (⟨a0.lat0, a0.lon0⟩ : Pt)) fun r2 => (bif (!r2) then false else bindP (F_impl_isStandard a0.lat1) fun r3 => (bif (!r3) then false else bindP (F_impl_isStandard a0.lat2) fun r4 => (bif (!r4) then false else bindP (F_impl_isAzimuthal a0.kind) fun r5 => (bif r5 then bindP (F_impl_isConic a0.kind) fun r6 => (bif r6 then bindP (F_impl_isConic a0.kind) fun r7 => (bif (!r7) then (bif (a0.lat2.val != 0) then false else bindP (F_impl_isConic a0.kind) fun r8 => (bif (!r8) then true else bindP (F_impl_abs (w64 (a0.lat1.val + a0.lat2.val))) fun r9 => (decide (r9.val ≥ 10000000)))) else bindP (F_impl_isConic a0.kind) fun r10 => (bif (!r10) then true else bindP (F_impl_abs (w64 (a0.lat1.val + a0.lat2.val))) fun r11 => (decide (r11.val ≥ 10000000)))) else (bif (a0.kind.val == 1) then bindP (F_impl_isConic a0.kind) fun r12 => (bif (!r12) then (bif (a0.lat2.val != 0) then false else bindP (F_impl_isConic a0.kind) fun r13 => (bif (!r13) then true else bindP (F_impl_abs (w64 (a0.lat1.val + a0.lat2.val))) fun r14 => (decide (r14.val ≥ 10000000)))) else bindP (F_impl_isConic a0.kind) fun r15 => (bif (!r15) then true else bindP (F_impl_abs (w64 (a0.lat1.val + a0.lat2.val))) fun r16 => (decide (r16.val ≥ 10000000)))) else (bif (!(a0.kind.val == 3)) then (bif (a0.lat1.val != 0) then false else bindP (F_impl_isConic a0.kind) fun r17 => (bif (!r17) then (bif (a0.lat2.val != 0) then false else bindP (F_impl_isConic a0.kind) fun r18 => (bif (!r18) then true else bindP (F_impl_abs (w64 (a0.lat1.val + a0.lat2.val))) fun r19 => (decide (r19.val ≥ 10000000)))) else bindP (F_impl_isConic a0.kind) fun r20 => (bif (!r20) then true else bindP (F_impl_abs (w64 (a0.lat1.val + a0.lat2.val))) fun r21 => (decide (r21.val ≥ 10000000))))) else bindP (F_impl_isConic a0.kind) fun r22 => (bif (!r22) then (bif (a0.lat2.val != 0) then false else bindP (F_impl_isConic a0.kind) fun r23 => (bif (!r23) then true else bindP (F_impl_abs (w64 (a0.lat1.val + a0.lat2.val))) fun r24 => (decide (r24.val ≥ 10000000)))) else bindP (F_impl_isConic a0.kind) fun r25 => (bif (!r25) then true else bindP (F_impl_abs (w64 (a0.lat1.val + a0.lat2.val))) fun r26 => (decide (r26.val ≥ 10000000))))))) else bindP (F_impl_isConic a0.kind) fun r27 => (bif r27 then bindP (F_impl_isConic a0.kind) fun r28 => (bif r28 then bindP (F_impl_isConic a0.kind) fun r29 => (bif (!r29) then (bif (a0.lat2.val != 0) then false else bindP (F_impl_isConic a0.kind) fun r30 => (bif (!r30) then true else bindP (F_impl_abs (w64 (a0.lat1.val + a0.lat2.val))) fun r31 => (decide (r31.val ≥ 10000000)))) else bindP (F_impl_isConic a0.kind) fun r32 => (bif (!r32) then true else bindP (F_impl_abs (w64 (a0.lat1.val + a0.lat2.val))) fun r33 => (decide (r33.val ≥ 10000000)))) else (bif (a0.kind.val == 1) then bindP (F_impl_isConic a0.kind) fun r34 => (bif (!r34) then (bif (a0.lat2.val != 0) then false else bindP (F_impl_isConic a0.kind) fun r35 => (bif (!r35) then true else bindP (F_impl_abs (w64 (a0.lat1.val + a0.lat2.val))) fun r36 => (decide (r36.val ≥ 10000000)))) else bindP (F_impl_isConic a0.kind) fun r37 => (bif (!r37) then true else bindP (F_impl_abs (w64 (a0.lat1.val + a0.lat2.val))) fun r38 => (decide (r38.val ≥ 10000000)))) else (bif (!(a0.kind.val == 3)) then (bif (a0.lat1.val != 0) then false else bindP (F_impl_isConic a0.kind) fun r39 => (bif (!r39) then (bif (a0.lat2.val != 0) then false else bindP (F_impl_isConic a0.kind) fun r40 => (bif (!r40) then true else bindP (F_impl_abs (w64 (a0.lat1.val + a0.lat2.val))) fun r41 => (decide (r41.val ≥ 10000000)))) else bindP (F_impl_isConic a0.kind) fun r42 => (bif (!r42) then true else bindP (F_impl_abs (w64 (a0.lat1.val + a0.lat2.val))) fun r43 => (decide (r43.val ≥ 10000000))))) else bindP (F_impl_isConic a0.kind) fun r44 => (bif (!r44) then (bif (a0.lat2.val != 0) then false else bindP (F_impl_isConic a0.kind) fun r45 => (bif (!r45) then true else bindP (F_impl_abs (w64 (a0.lat1.val + a0.lat2.val))) fun r46 => (decide (r46.val ≥ 10000000)))) else bindP (F_impl_isConic a0.kind) fun r47 => (bif (!r47) then true else bindP (F_impl_abs (w64 (a0.lat1.val + a0.lat2.val))) fun r48 => (decide (r48.val ≥ 10000000))))))) else bindP (F_impl_isConic a0.kind) fun r49 => (bif r49 then (bif (!(a0.kind.val == 16)) then (bif (a0.lat0.val != 0) then false else bindP (F_impl_isConic a0.kind) fun r50 => (bif (!r50) then (bif (a0.lat2.val != 0) then false else bindP (F_impl_isConic a0.kind) fun r51 => (bif (!r51) then true else bindP (F_impl_abs (w64 (a0.lat1.val + a0.lat2.val))) fun r52 => (decide (r52.val ≥ 10000000)))) else bindP (F_impl_isConic a0.kind) fun r53 => (bif (!r53) then true else bindP (F_impl_abs (w64 (a0.lat1.val + a0.lat2.val))) fun r54 => (decide (r54.val ≥ 10000000))))) else bindP (F_impl_isConic a0.kind) fun r55 => (bif (!r55) then (bif (a0.lat2.val != 0) then false else bindP (F_impl_isConic a0.kind) fun r56 => (bif (!r56) then true else bindP (F_impl_abs (w64 (a0.lat1.val + a0.lat2.val))) fun r57 => (decide (r57.val ≥ 10000000)))) else bindP (F_impl_isConic a0.kind) fun r58 => (bif (!r58) then true else bindP (F_impl_abs (w64 (a0.lat1.val + a0.lat2.val))) fun r59 => (decide (r59.val ≥ 10000000))))) else (bif (a0.kind.val == 1) then (bif (!(a0.kind.val == 16)) then (bif (a0.lat0.val != 0) then false else bindP (F_impl_isConic a0.kind) fun r60 => (bif (!r60) then (bif (a0.lat2.val != 0) then false else bindP (F_impl_isConic a0.kind) fun r61 => (bif (!r61) then true else bindP (F_impl_abs (w64 (a0.lat1.val + a0.lat2.val))) fun r62 => (decide (r62.val ≥ 10000000)))) else bindP (F_impl_isConic a0.kind) fun r63 => (bif (!r63) then true else bindP (F_impl_abs (w64 (a0.lat1.val + a0.lat2.val))) fun r64 => (decide (r64.val ≥ 10000000))))) else bindP (F_impl_isConic a0.kind) fun r65 => (bif (!r65) then (bif (a0.lat2.val != 0) then false else bindP (F_impl_isConic a0.kind) fun r66 => (bif (!r66) then true else bindP (F_impl_abs (w64 (a0.lat1.val + a0.lat2.val))) fun r67 => (decide (r67.val ≥ 10000000)))) else bindP (F_impl_isConic a0.kind) fun r68 => (bif (!r68) then true else bindP (F_impl_abs (w64 (a0.lat1.val + a0.lat2.val))) fun r69 => (decide (r69.val ≥ 10000000))))) else (bif (!(a0.kind.val == 16)) then (bif (a0.lat0.val != 0) then false else (bif (!(a0.kind.val == 3)) then (bif (a0.lat1.val != 0) then false else bindP (F_impl_isConic a0.kind) fun r70 => (bif (!r70) then (bif (a0.lat2.val != 0) then false else bindP (F_impl_isConic a0.kind) fun r71 => (bif (!r71) then true else bindP (F_impl_abs (w64 (a0.lat1.val + a0.lat2.val))) fun r72 => (decide (r72.val ≥ 10000000)))) else bindP (F_impl_isConic a0.kind) fun r73 => (bif (!r73) then true else bindP (F_impl_abs (w64 (a0.lat1.val + a0.lat2.val))) fun r74 => (decide (r74.val ≥ 10000000))))) else bindP (F_impl_isConic a0.kind) fun r75 => (bif (!r75) then (bif (a0.lat2.val != 0) then false else bindP (F_impl_isConic a0.kind) fun r76 => (bif (!r76) then true else bindP (F_impl_abs (w64 (a0.lat1.val + a0.lat2.val))) fun r77 => (decide (r77.val ≥ 10000000)))) else bindP (F_impl_isConic a0.kind) fun r78 => (bif (!r78) then true else bindP (F_impl_abs (w64 (a0.lat1.val + a0.lat2.val))) fun r79 => (decide (r79.val ≥ 10000000)))))) else (bif (!(a0.kind.val == 3)) then (bif (a0.lat1.val != 0) then false else bindP (F_impl_isConic a0.kind) fun r80 => (bif (!r80) then (bif (a0.lat2.val != 0) then false else bindP (F_impl_isConic a0.kind) fun r81 => (bif (!r81) then true else bindP (F_impl_abs (w64 (a0.lat1.val + a0.lat2.val))) fun r82 => (decide (r82.val ≥ 10000000)))) else bindP (F_impl_isConic a0.kind) fun r83 => (bif (!r83) then true else bindP (F_impl_abs (w64 (a0.lat1.val + a0.lat2.val))) fun r84 => (decide (r84.val ≥ 10000000))))) else bindP (F_impl_isConic a0.kind) fun r85 => (bif (!r85) then (bif (a0.lat2.val != 0) then false else bindP (F_impl_isConic a0.kind) fun r86 => (bif (!r86) then true else bindP (F_impl_abs (w64 (a0.lat1.val + a0.lat2.val))) fun r87 => (decide (r87.val ≥ 10000000)))) else bindP (F_impl_isConic a0.kind) fun r88 => (bif (!r88) then true else bindP (F_impl_abs (w64 (a0.lat1.val + a0.lat2.val))) fun r89 => (decide (r89.val ≥ 10000000))))))))))))))

def F_impl_isTransverse (a0 : Pj) : Bool :=
  bindP (F_impl_ValidProjection a0) fun r1 => (bif r1 then (a0.kind.val == 16) else false)

def F_impl_WrapLon (a0 : I64) : I64 :=
  (bif (decide ((imod a0 3600000000).val > 1800000000)) then (w64 ((imod a0 3600000000).val - 3600000000)) else (bif (decide ((imod a0 3600000000).val ≤ (-1800000000))) then (w64 ((imod a0 3600000000).val + 3600000000)) else (imod a0 3600000000)))

def F_impl_RadiansOf_r : Nat → I64 → Iv
  | 0, _ => (⟨(c64 0), (c64 0)⟩ : Iv)
  | fu + 1, a0 => bindP (F_impl_within a0 (c64 (-36000000000)) (c64 36000000000)) fun r1 => (bif (!r1) then bindP (F_impl_Whole) fun r3 => r3 else (bif (decide (a0.val < 0)) then bindP (F_impl_RadiansOf_r fu (w64 (0 - a0.val))) fun r5 => bindP (F_impl_NegI r5) fun r6 => r6 else (bif (a0.val == 0) then (⟨(c64 0), (c64 0)⟩ : Iv) else bindP (F_impl_MulDivFloor a0 (c64 7244019458077122842) (c64 966367641600000000)) fun r8 => bindP (F_impl_MulDivFloor a0 (c64 7244019458077122843) (c64 966367641600000000)) fun r9 => (⟨r8.1, (w64 (r9.1.val + 1))⟩ : Iv))))
def F_impl_RadiansOf (a0 : I64) : Iv := F_impl_RadiansOf_r 2 a0

def F_impl_LatOf (a0 : Pt) : Iv :=
  bindP (F_impl_ValidPoint a0) fun r1 => (bif (!r1) then bindP (F_impl_Whole) fun r2 => r2 else bindP (F_impl_RadiansOf a0.lat) fun r3 => r3)

def F_impl_LonFrom (a0 : Pj) (a1 : Pt) : Iv :=
  bindP (F_impl_ValidProjection a0) fun r1 => (bif (!r1) then bindP (F_impl_Whole) fun r2 => r2 else bindP (F_impl_ValidPoint a1) fun r3 => (bif (!r3) then bindP (F_impl_Whole) fun r4 => r4 else bindP (F_impl_WrapLon (w64 (a1.lon.val - a0.lon0.val))) fun r5 => bindP (F_impl_RadiansOf r5) fun r6 => r6))

def F_impl_CosI (a0 : Iv) : Iv :=
  bindP (F_impl_circleHull a0 (c64 1)) fun r1 => r1

def F_impl_transverse (a0 : Pj) (a1 : Pt) : Iv × Iv × Iv × I64 :=
  bindP (F_impl_isTransverse a0) fun r1 => (bif (!r1) then ((⟨(c64 0), (c64 0)⟩ : Iv), (⟨(c64 0), (c64 0)⟩ : Iv), (⟨(c64 0), (c64 0)⟩ : Iv), (c64 1)) else bindP (F_impl_ValidPoint a1) fun r2 => (bif (!r2) then ((⟨(c64 0), (c64 0)⟩ : Iv), (⟨(c64 0), (c64 0)⟩ : Iv), (⟨(c64 0), (c64 0)⟩ : Iv), (c64 1)) else (bif (a1.lat.val == 0) then bindP (F_impl_WrapLon (w64 (a1.lon.val - a0.lon0.val))) fun r3 => bindP (F_impl_abs r3) fun r4 => (bif (r4.val == 900000000) then ((⟨(c64 0), (c64 0)⟩ : Iv), (⟨(c64 0), (c64 0)⟩ : Iv), (⟨(c64 0), (c64 0)⟩ : Iv), (c64 8)) else bindP (F_impl_LatOf a1) fun r5 => bindP (F_impl_LonFrom a0 a1) fun r6 => bindP (F_impl_CosI r5) fun r7 => bindP (F_impl_SinI r6) fun r8 => bindP (F_impl_MulI r7 r8) fun r9 => (r5, r6, r9, (c64 0))) else bindP (F_impl_LatOf a1) fun r10 => bindP (F_impl_LonFrom a0 a1) fun r11 => bindP (F_impl_CosI r10) fun r12 => bindP (F_impl_SinI r11) fun r13 => bindP (F_impl_MulI r12 r13) fun r14 => (r10, r11, r14, (c64 0)))))

def F_impl_oneLess (a0 : Iv) : Iv :=
  bindP (F_impl_Integer (c64 1)) fun r1 => bindP (F_impl_SubI r1 a0) fun r2 => r2

def F_impl_WideSqrt_L0 : Nat → Wd → U64 → I64 → U64 × Bool
  | 0, _, _, _ => ((cu64 0), false)
  | fu + 1, a0, x_root, x_i => (bif (decide (x_i.val ≥ 0)) then bindP (F_bits_Mul64 (ior .u64 x_root.val (ishl .u64 1 x_i.val).val) (ior .u64 x_root.val (ishl .u64 1 x_i.val).val)) fun r3 => (bif (decide (r3.1.val < (wu64 a0.hi.val).val)) then F_impl_WideSqrt_L0 fu a0 (ior .u64 x_root.val (ishl .u64 1 x_i.val).val) (w64 (x_i.val - 1)) else (bif (r3.1.val == (wu64 a0.hi.val).val) then (bif (decide (r3.2.val ≤ a0.lo.val)) then F_impl_WideSqrt_L0 fu a0 (ior .u64 x_root.val (ishl .u64 1 x_i.val).val) (w64 (x_i.val - 1)) else F_impl_WideSqrt_L0 fu a0 x_root (w64 (x_i.val - 1))) else F_impl_WideSqrt_L0 fu a0 x_root (w64 (x_i.val - 1)))) else (x_root, true))

def F_impl_WideSqrt (a0 : Wd) : U64 × Bool :=
  (bif (decide (a0.hi.val < 0)) then ((cu64 0), false) else F_impl_WideSqrt_L0 65 a0 (cu64 0) (c64 63))

end Go.Proofs.YtmkiegnnaabmaaaGreat.Abs
