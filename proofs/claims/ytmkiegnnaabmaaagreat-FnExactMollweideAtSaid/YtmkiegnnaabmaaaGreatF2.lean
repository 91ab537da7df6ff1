/- The functions, on numbers; part 2 (written by w.py). -/
import Derived.Test.YtmkiegnnaabmaaaGreatF1
set_option linter.unusedVariables false
set_option linter.unusedSimpArgs false
namespace Go.Proofs.YtmkiegnnaabmaaaGreat.Abs
open Go Go.RowKit

def F_impl_turnsIn_L0 : Nat → Iv → I64 → List I64 → List I64
  | 0, _, _, acc => acc
  | fu + 1, a0, x_k, acc => bindP (F_impl_QuarterOf a0.hi) fun r1 => (bif (decide (x_k.val ≤ (w64 (r1.val + 1)).val)) then bindP (F_impl_TurnI x_k) fun r2 => bindP (F_impl_OverlapI r2 a0) fun r3 => (bif r3 then F_impl_turnsIn_L0 fu a0 (w64 (x_k.val + 1)) (acc ++ [x_k]) else F_impl_turnsIn_L0 fu a0 (w64 (x_k.val + 1)) acc) else acc)
def F_impl_turnsIn (a0 : Iv) : List I64 := bindP (F_impl_QuarterOf a0.lo) fun r1 => F_impl_turnsIn_L0 ((2000 - (w64 (r1.val - 1)).val).toNat + 1) a0 (w64 (r1.val - 1)) []

def F_impl_circleHull_L0 : Nat → I64 → List I64 → Iv → I64 → Iv → Iv
  | 0, _, _, _, _, _ => (⟨(c64 0), (c64 0)⟩ : Iv)
  | fu + 1, a1, r7, a0, x_24, y_2 => (bif (decide (x_24.val < (((r7.length : Nat) : Int)))) then (bif ((iand .i64 (w64 ((listAt r7 x_24).val + a1.val)).val 3).val == 1) then bindP (F_impl_Integer (c64 1)) fun r10 => bindP (F_impl_HullI y_2 r10) fun r11 => F_impl_circleHull_L0 fu a1 r7 a0 (w64 (x_24.val + 1)) r11 else (bif ((iand .i64 (w64 ((listAt r7 x_24).val + a1.val)).val 3).val == 3) then bindP (F_impl_Integer (c64 (-1))) fun r13 => bindP (F_impl_HullI y_2 r13) fun r14 => F_impl_circleHull_L0 fu a1 r7 a0 (w64 (x_24.val + 1)) r14 else F_impl_circleHull_L0 fu a1 r7 a0 (w64 (x_24.val + 1)) y_2)) else y_2)

def F_impl_circleHull (a0 : Iv) (a1 : I64) : Iv :=
  bindP (F_impl_areAngles a0) fun r1 => (bif (!r1) then bindP (F_impl_ring) fun r3 => r3 else bindP (F_impl_circleValue a0.lo a1) fun r4 => bindP (F_impl_circleValue a0.hi a1) fun r5 => bindP (F_impl_HullI r4 r5) fun r6 => bindP (F_impl_turnsIn a0) fun r7 => F_impl_circleHull_L0 (((r7.length : Nat) : Int).toNat + 1) a1 r7 a0 (c64 0) r6)

def F_impl_SinI (a0 : Iv) : Iv :=
  bindP (F_impl_circleHull a0 (c64 0)) fun r1 => r1

def F_impl_leftSide (a0 : I64) (a1 : I64) : Iv :=
  bindP (F_impl_at a1) fun r1 => (bif (a0.val == 14) then bindP (F_impl_at (w64 (2 * a1.val))) fun r2 => bindP (F_impl_SinI r2) fun r3 => bindP (F_impl_AddI r2 r3) fun r4 => r4 else bindP (F_impl_SinI r1) fun r5 => bindP (F_impl_AddI r1 r5) fun r6 => r6)

def F_impl_parameterAt_L1 : Nat → I64 → I64 → I64 → I64 → I64 → Iv
  | 0, _, _, _, _, _ => (⟨(c64 0), (c64 0)⟩ : Iv)
  | fu + 1, a0, a1, x_low, x_lowq, x_high => (bif (decide ((w64 (x_high.val - x_lowq.val)).val > 1)) then bindP (F_impl_leftSide a0 (ishr (w64 (x_lowq.val + x_high.val)) 1)) fun r13 => (bif (decide (r13.lo.val > a1.val)) then F_impl_parameterAt_L1 fu a0 a1 x_low x_lowq (ishr (w64 (x_lowq.val + x_high.val)) 1) else F_impl_parameterAt_L1 fu a0 a1 x_low (ishr (w64 (x_lowq.val + x_high.val)) 1) x_high) else (⟨x_low, x_high⟩ : Iv))

def F_impl_parameterAt_L0 : Nat → I64 → I64 → I64 → I64 → Iv
  | 0, _, _, _, _ => (⟨(c64 0), (c64 0)⟩ : Iv)
  | fu + 1, a0, a1, x_low, x_high => (bif (decide ((w64 (x_high.val - x_low.val)).val > 1)) then bindP (F_impl_leftSide a0 (ishr (w64 (x_low.val + x_high.val)) 1)) fun r9 => (bif (decide (r9.hi.val < a1.val)) then F_impl_parameterAt_L0 fu a0 a1 (ishr (w64 (x_low.val + x_high.val)) 1) x_high else F_impl_parameterAt_L0 fu a0 a1 x_low (ishr (w64 (x_low.val + x_high.val)) 1)) else bindP (F_impl_quarter) fun r11 => F_impl_parameterAt_L1 ((r11.val - x_low.val).toNat + 1) a0 a1 x_low x_low r11)

def F_impl_parameterAt_r : Nat → I64 → I64 → Iv
  | 0, _, _ => (⟨(c64 0), (c64 0)⟩ : Iv)
  | fu + 1, a0, a1 => bindP (F_impl_ValidFix a1) fun r1 => (bif (!r1) then bindP (F_impl_halfCircle) fun r3 => r3 else (bif (decide (a1.val < 0)) then bindP (F_impl_parameterAt_r fu a0 (w64 (0 - a1.val))) fun r5 => bindP (F_impl_NegI r5) fun r6 => r6 else bindP (F_impl_quarter) fun r7 => F_impl_parameterAt_L0 ((r7.val - (c64 0).val).toNat + 1) a0 a1 (c64 0) r7))
def F_impl_parameterAt (a0 : I64) (a1 : I64) : Iv := F_impl_parameterAt_r 2 a0 a1

def F_impl_EckertAt (a0 : I64) : Iv :=
  bindP (F_impl_parameterAt (c64 15) a0) fun r1 => r1

def F_laws_eqInterval (a0 : Iv) (a1 : Iv) : Bool :=
  (bif (a0.lo.val != a1.lo.val) then false else (bif (a0.hi.val != a1.hi.val) then false else true))

def F_laws_FnExactEckertAt (a0 : I64) : Bool :=
  bindP (F_spec_EckertAt a0) fun r1 => bindP (F_impl_EckertAt a0) fun r2 => bindP (F_laws_eqInterval r2 r1) fun r3 => (bif (!r3) then false else true)

def F_spec_MollweideAt (a0 : I64) : Iv :=
  bindP (F_spec_l20At (c64 14) a0) fun r1 => r1

def F_impl_MollweideAt (a0 : I64) : Iv :=
  bindP (F_impl_parameterAt (c64 14) a0) fun r1 => r1

def F_laws_FnExactMollweideAt (a0 : I64) : Bool :=
  bindP (F_spec_MollweideAt a0) fun r1 => bindP (F_impl_MollweideAt a0) fun r2 => bindP (F_laws_eqInterval r2 r1) fun r3 => (bif (!r3) then false else true)

def F_laws_toInterval (a0 : Iv) : Iv :=
  a0

def F_spec_PiI : Iv :=
  bindP (F_spec_l05Turn (c64 2)) fun r1 => r1

def F_spec_l20Right (a0 : I64) : Iv :=
  (bif (a0.val == 14) then bindP (F_spec_PiI) fun r1 => r1 else bindP (F_spec_Integer (c64 1)) fun r2 => bindP (F_spec_TurnI (c64 1)) fun r3 => bindP (F_spec_AddI r2 r3) fun r4 => r4)

def F_spec_ThetaOf (a0 : I64) (a1 : Iv) : Iv :=
  (bif (a0.val == 13) then a1 else (bif (a0.val == 14) then bindP (F_spec_l20Right a0) fun r1 => bindP (F_spec_SinI a1) fun r2 => bindP (F_spec_MulI r1 r2) fun r3 => bindP (F_spec_l20At a0 r3.lo) fun r4 => bindP (F_spec_l20At a0 r3.hi) fun r5 => bindP (F_spec_HullI r4 r5) fun r6 => r6 else (bif (a0.val == 15) then bindP (F_spec_l20Right a0) fun r7 => bindP (F_spec_SinI a1) fun r8 => bindP (F_spec_MulI r7 r8) fun r9 => bindP (F_spec_l20At a0 r9.lo) fun r10 => bindP (F_spec_l20At a0 r9.hi) fun r11 => bindP (F_spec_HullI r10 r11) fun r12 => r12 else bindP (F_spec_Whole) fun r13 => r13)))

def F_impl_isPseudo (a0 : I64) : Bool :=
  bindP (F_impl_within a0 (c64 13) (c64 15)) fun r1 => r1

def F_impl_PiI : Iv :=
  bindP (F_impl_TurnI (c64 2)) fun r1 => r1

def F_impl_leftFactor (a0 : I64) : Iv :=
  (bif (a0.val == 14) then bindP (F_impl_PiI) fun r1 => r1 else bindP (F_impl_Integer (c64 1)) fun r2 => bindP (F_impl_TurnI (c64 1)) fun r3 => bindP (F_impl_AddI r2 r3) fun r4 => r4)

def F_impl_ThetaOf (a0 : I64) (a1 : Iv) : Iv :=
  bindP (F_impl_isPseudo a0) fun r1 => (bif (!r1) then bindP (F_impl_Whole) fun r2 => r2 else (bif (a0.val == 13) then a1 else bindP (F_impl_leftFactor a0) fun r3 => bindP (F_impl_SinI a1) fun r4 => bindP (F_impl_MulI r3 r4) fun r5 => bindP (F_impl_parameterAt a0 r5.lo) fun r6 => bindP (F_impl_parameterAt a0 r5.hi) fun r7 => bindP (F_impl_HullI r6 r7) fun r8 => r8))

def F_laws_FnExactThetaOf (a0 : I64) (a1 : Iv) : Bool :=
  bindP (F_laws_toInterval a1) fun r1 => bindP (F_spec_ThetaOf a0 r1) fun r2 => bindP (F_laws_toInterval a1) fun r3 => bindP (F_impl_ThetaOf a0 r3) fun r4 => bindP (F_laws_eqInterval r4 r2) fun r5 => (bif (!r5) then false else true)

def F_laws_toProjection (a0 : Pj) : Pj :=
  a0

def F_laws_toPoint (a0 : Pt) : Pt :=
  a0

def F_spec_l11Ok (a0 : Pt) : Bool :=
  bindP (F_spec_l00In a0.lat (c64 (-900000000)) (c64 900000000)) fun r1 => (bif r1 then bindP (F_spec_l00In a0.lon (c64 (-1799999999)) (c64 1800000000)) fun r2 => r2 else false)

def F_spec_l17Standard (a0 : I64) : Bool :=
  bindP (F_spec_l00In a0 (c64 (-890000000)) (c64 890000000)) fun r1 => r1

def F_spec_l17Ok (a0 : Pj) : Bool :=
  bindP (F_spec_l11Ok (⟨a0.lat0, a0.lon0⟩ : Pt)) fun r1 => (bif (!r1) then false else bindP (F_spec_l17Standard a0.lat1) fun r2 => (bif (!r2) then false else bindP (F_spec_l17Standard a0.lat2) fun r3 => (bif (!r3) then false else (bif (a0.kind.val == 1) then (bif (a0.lat0.val == 0) then (a0.lat2.val == 0) else false) else (bif (a0.kind.val == 3) then (bif (a0.lat0.val == 0) then (a0.lat2.val == 0) else false) else (bif (a0.kind.val == 2) then (bif (a0.lat0.val == 0) then (bif (a0.lat1.val == 0) then (a0.lat2.val == 0) else false) else false) else (bif (a0.kind.val == 4) then (bif (a0.lat0.val == 0) then (bif (a0.lat1.val == 0) then (a0.lat2.val == 0) else false) else false) else (bif (a0.kind.val == 13) then (bif (a0.lat0.val == 0) then (bif (a0.lat1.val == 0) then (a0.lat2.val == 0) else false) else false) else (bif (a0.kind.val == 14) then (bif (a0.lat0.val == 0) then (bif (a0.lat1.val == 0) then (a0.lat2.val == 0) else false) else false) else (bif (a0.kind.val == 15) then (bif (a0.lat0.val == 0) then (bif (a0.lat1.val == 0) then (a0.lat2.val == 0) else false) else false) else (bif (a0.kind.val == 5) then (bif (a0.lat1.val == 0) then (a0.lat2.val == 0) else false) else (bif (a0.kind.val == 6) then (bif (a0.lat1.val == 0) then (a0.lat2.val == 0) else false) else (bif (a0.kind.val == 7) then (bif (a0.lat1.val == 0) then (a0.lat2.val == 0) else false) else (bif (a0.kind.val == 8) then (bif (a0.lat1.val == 0) then (a0.lat2.val == 0) else false) else (bif (a0.kind.val == 9) then (bif (a0.lat1.val == 0) then (a0.lat2.val == 0) else false) else (bif (a0.kind.val == 16) then (bif (a0.lat1.val == 0) then (a0.lat2.val == 0) else false) else (bif (a0.kind.val == 10) then (bif (decide ((w64 (a0.lat1.val + a0.lat2.val)).val ≥ 10000000)) then true else (decide ((w64 (a0.lat1.val + a0.lat2.val)).val ≤ (-10000000)))) else (bif (a0.kind.val == 11) then (bif (decide ((w64 (a0.lat1.val + a0.lat2.val)).val ≥ 10000000)) then true else (decide ((w64 (a0.lat1.val + a0.lat2.val)).val ≤ (-10000000)))) else (bif (a0.kind.val == 12) then (bif (decide ((w64 (a0.lat1.val + a0.lat2.val)).val ≥ 10000000)) then true else (decide ((w64 (a0.lat1.val + a0.lat2.val)).val ≤ (-10000000)))) else false)))))))))))))))))))

def F_spec_ValidProjection (a0 : Pj) : Bool :=
  bindP (F_spec_l17Ok a0) fun r1 => r1

def F_spec_l21Ok__pPj (b0 : Pj) : Bool :=
  (bif (b0.kind.val == 16) then bindP (F_spec_ValidProjection b0) fun r1 => r1 else false)

def F_spec_l11Wrap (a0 : I64) : I64 :=
  (bif (decide ((imod a0 3600000000).val > 1800000000)) then (bif (decide ((w64 ((imod a0 3600000000).val - 3600000000)).val ≤ (-1800000000))) then (w64 ((w64 ((imod a0 3600000000).val - 3600000000)).val + 3600000000)) else (w64 ((imod a0 3600000000).val - 3600000000))) else (bif (decide ((imod a0 3600000000).val ≤ (-1800000000))) then (w64 ((imod a0 3600000000).val + 3600000000)) else (imod a0 3600000000)))

def F_spec_l21Edge__pPj (b0 : Pj) (a0 : Pt) : Bool :=
  bindP (F_spec_l11Wrap (w64 (a0.lon.val - b0.lon0.val))) fun r1 => (bif (a0.lat.val == 0) then (bif (r1.val == 900000000) then true else (r1.val == (-900000000))) else false)

def F_spec_l20Kind (a0 : I64) : Bool :=
  bindP (F_spec_l00In a0 (c64 13) (c64 15)) fun r1 => r1

def F_spec_CosI (a0 : Iv) : Iv :=
  bindP (F_spec_l06Over a0 (c64 1)) fun r1 => r1

def F_spec_l20Ok__pPj (b0 : Pj) : Bool :=
  bindP (F_spec_l20Kind b0.kind) fun r1 => (bif r1 then bindP (F_spec_ValidProjection b0) fun r2 => r2 else false)

end Go.Proofs.YtmkiegnnaabmaaaGreat.Abs
