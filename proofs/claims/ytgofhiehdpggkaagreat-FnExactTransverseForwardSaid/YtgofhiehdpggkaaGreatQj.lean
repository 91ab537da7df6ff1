/- Plain laws of the functions on numbers: what the program computes is what the reference computes. -/
import Derived.Test.YtgofhiehdpggkaaGreatQi
import Derived.Test.YtgofhiehdpggkaaGreatF5
set_option linter.unusedVariables false
set_option linter.unusedSimpArgs false
namespace Go.Proofs.YtgofhiehdpggkaaGreat.Abs
open Go

theorem Int_in (w : Wd) (h1 : -9223372036854775808 ≤ w.z) (h2 : w.z ≤ 9223372036854775807) : ∃ n : I64, n.val = w.z ∧ F_spec_l02Int w = (n, true) := by
  have a1 := w.lo.lo
  have a2 := w.lo.hi
  have hz : w.z = w.hi.val * 18446744073709551616 + w.lo.val := rfl
  refine ⟨w64 w.lo.val, by rw [w64_val]; omega, ?_⟩
  unfold F_spec_l02Int F_spec_l02Of
  simp only [bindP_eq]
  by_cases hn : (w64 w.lo.val).val < 0
  · simp only [hn, decide_true, cond_true, c64_val, wu64_val]
    rw [w64_val] at hn
    have e1 : ((-1 : Int) == w.hi.val) = true := by simp; omega
    have e2 : ((w64 w.lo.val).val % 18446744073709551616 == w.lo.val) = true := by rw [w64_val]; simp; omega
    simp only [e1, e2]
    rfl
  · simp only [hn, decide_false, cond_false, c64_val, wu64_val]
    rw [w64_val] at hn
    have e1 : ((0 : Int) == w.hi.val) = true := by simp; omega
    have e2 : ((w64 w.lo.val).val % 18446744073709551616 == w.lo.val) = true := by rw [w64_val]; simp; omega
    simp only [e1, e2]
    rfl

theorem ior_comm (k : IntKind) (x y : Int) : ior k x y = ior k y x := by
  unfold ior
  refine IK.eq ?_
  show k.wrap _ = k.wrap _
  rw [BitVec.or_comm]

theorem Shift_z32 (w : Wd) : (F_spec_l02Shift w (c64 32)).z = w.z / 4294967296 := by
  have a1 := w.lo.lo
  have a2 := w.lo.hi
  unfold F_spec_l02Shift
  have e0 : ((c64 32).val == 0) = false := by decide
  have e1 : decide ((c64 32).val < 64) = true := by decide
  have e2 : (wu64 (c64 32).val).val = 32 := by decide
  have e3 : (wu64 (w64 (64 - (c64 32).val)).val).val = 32 := by decide
  simp only [e0, e1, e2, e3, cond_true, cond_false]
  have s1 : (ishr w.hi 32).val = w.hi.val / 4294967296 := by rw [ishr_val, Int.fdiv_eq_ediv_of_nonneg _ (by decide)]; rfl
  have s2 : (ishr w.lo 32).val = w.lo.val / 4294967296 := shr32 w.lo
  have s3 : (ishl .u64 (wu64 w.hi.val).val 32).val = (w.hi.val % 18446744073709551616 * 4294967296) % 18446744073709551616 := by
    show IntKind.u64.wrap ((wu64 w.hi.val).val * 2 ^ 32) = _
    rw [IntKind.wrap_u64, wu64_val]
    rfl
  have s4 : (ior .u64 (ishr w.lo 32).val (ishl .u64 (wu64 w.hi.val).val 32).val).val = (w.hi.val % 18446744073709551616 * 4294967296) % 18446744073709551616 + w.lo.val / 4294967296 := by
    rw [ior_comm, s2, s3]
    exact or_add 32 _ _ (by omega) (by omega) (by rw [show (2 : Int) ^ 32 = 4294967296 by decide]; omega) (by omega) (by rw [show (2 : Int) ^ 32 = 4294967296 by decide]; omega) (by decide)
  show (ishr w.hi 32).val * 18446744073709551616 + (ior .u64 (ishr w.lo 32).val (ishl .u64 (wu64 w.hi.val).val 32).val).val = (w.hi.val * 18446744073709551616 + w.lo.val) / 4294967296
  rw [s1, s4]
  omega

theorem Shift_z30 (w : Wd) : (F_spec_l02Shift w (c64 30)).z = w.z / 1073741824 := by
  have a1 := w.lo.lo
  have a2 := w.lo.hi
  unfold F_spec_l02Shift
  have e0 : ((c64 30).val == 0) = false := by decide
  have e1 : decide ((c64 30).val < 64) = true := by decide
  have e2 : (wu64 (c64 30).val).val = 30 := by decide
  have e3 : (wu64 (w64 (64 - (c64 30).val)).val).val = 34 := by decide
  simp only [e0, e1, e2, e3, cond_true, cond_false]
  have s1 : (ishr w.hi 30).val = w.hi.val / 1073741824 := by rw [ishr_val, Int.fdiv_eq_ediv_of_nonneg _ (by decide)]; rfl
  have s2 : (ishr w.lo 30).val = w.lo.val / 1073741824 := by rw [ishr_val, Int.fdiv_eq_ediv_of_nonneg _ (by decide)]; rfl
  have s3 : (ishl .u64 (wu64 w.hi.val).val 34).val = (w.hi.val % 18446744073709551616 * 17179869184) % 18446744073709551616 := by
    show IntKind.u64.wrap ((wu64 w.hi.val).val * 2 ^ 34) = _
    rw [IntKind.wrap_u64, wu64_val]
    rfl
  have s4 : (ior .u64 (ishr w.lo 30).val (ishl .u64 (wu64 w.hi.val).val 34).val).val = (w.hi.val % 18446744073709551616 * 17179869184) % 18446744073709551616 + w.lo.val / 1073741824 := by
    rw [ior_comm, s2, s3]
    exact or_add 34 _ _ (by omega) (by omega) (by rw [show (2 : Int) ^ 34 = 17179869184 by decide]; omega) (by omega) (by rw [show (2 : Int) ^ 34 = 17179869184 by decide]; omega) (by decide)
  show (ishr w.hi 30).val * 18446744073709551616 + (ior .u64 (ishr w.lo 30).val (ishl .u64 (wu64 w.hi.val).val 34).val).val = (w.hi.val * 18446744073709551616 + w.lo.val) / 1073741824
  rw [s1, s4]
  omega

theorem Ok3_of {a : I64} (h1 : -1152921504606846976 ≤ a.val) (h2 : a.val ≤ 1152921504606846976) : F_spec_l03Ok a = true := by
  rw [sp_Ok3]; simp [h1, h2]

theorem MulDown_val {a b : I64} (ha : F_spec_l03Ok a = true) (hb : F_spec_l03Ok b = true) (h1 : -1152921504606846976 ≤ a.val * b.val / 4294967296) (h2 : a.val * b.val / 4294967296 ≤ 1152921504606846976) :
    ∃ r : I64, F_spec_l03MulDown a b = (r, true) ∧ r.val = a.val * b.val / 4294967296 := by
  have hz : (F_spec_l02Shift (F_spec_l02Mul a b) (c64 32)).z = a.val * b.val / 4294967296 := by rw [Shift_z32, sp_Mul]
  obtain ⟨n, e1, e2⟩ := Int_in (F_spec_l02Shift (F_spec_l02Mul a b) (c64 32)) (by rw [hz]; omega) (by rw [hz]; omega)
  refine ⟨n, ?_, by rw [e1, hz]⟩
  have hn : F_spec_l03Ok n = true := Ok3_of (by rw [e1, hz]; exact h1) (by rw [e1, hz]; exact h2)
  unfold F_spec_l03MulDown F_spec_MulFloor F_spec_l03End
  have e3 : F_spec_l00In (c64 32) (c64 0) (c64 126) = true := by decide
  simp only [bindP_eq, ha, hb, e2, e3, hn, Bool.not_true, cond_false]

theorem MulUp_val {a b : I64} (ha : F_spec_l03Ok a = true) (hb : F_spec_l03Ok b = true) (h1 : -1152921504606846976 ≤ -(-(a.val * b.val) / 4294967296)) (h2 : -(-(a.val * b.val) / 4294967296) ≤ 1152921504606846976) :
    ∃ r : I64, F_spec_l03MulUp a b = (r, true) ∧ r.val = -(-(a.val * b.val) / 4294967296) := by
  have ha' := ha
  rw [sp_Ok3] at ha'
  simp only [Bool.and_eq_true, decide_eq_true_eq] at ha'
  have en : (w64 (0 - a.val)).val = -a.val := by rw [w64_val]; omega
  obtain ⟨r, e1, e2⟩ := MulDown_val (a := w64 (0 - a.val)) (b := b) (Ok3_of (by omega) (by omega)) hb (by rw [en, Int.neg_mul]; omega) (by rw [en, Int.neg_mul]; omega)
  rw [en, Int.neg_mul] at e2
  refine ⟨w64 (0 - r.val), ?_, by rw [w64_val]; omega⟩
  unfold F_spec_l03MulUp
  simp only [bindP_eq, e1, ha, Bool.not_true, cond_false]

theorem mn_spec (a b : I64) : (mn a b).val ≤ a.val ∧ (mn a b).val ≤ b.val ∧ ((mn a b).val = a.val ∨ (mn a b).val = b.val) := by
  rw [mn_val]; split <;> omega

theorem mx_spec (a b : I64) : a.val ≤ (mx a b).val ∧ b.val ≤ (mx a b).val ∧ ((mx a b).val = a.val ∨ (mx a b).val = b.val) := by
  rw [mx_val]; split <;> omega

theorem Ok3_lo {a : Iv} (h : F_spec_l04Ok a = true) : F_spec_l03Ok a.lo = true := by
  obtain ⟨h1, h2, h3⟩ := Ok4 h
  exact Ok3_of (by omega) (by omega)

theorem Ok3_hi {a : Iv} (h : F_spec_l04Ok a = true) : F_spec_l03Ok a.hi = true := by
  obtain ⟨h1, h2, h3⟩ := Ok4 h
  exact Ok3_of (by omega) (by omega)

/-- A product of intervals: its ends are within the bounds of the products of the ends, and it encloses these. -/
theorem MulI_in {x y : Iv} (hx : F_spec_l04Ok x = true) (hy : F_spec_l04Ok y = true) {L U : Int} (hL : -1152921504606846976 < L) (hU : U < 1152921504606846976)
    (p1 : L * 4294967296 ≤ x.lo.val * y.lo.val ∧ x.lo.val * y.lo.val ≤ U * 4294967296) (p2 : L * 4294967296 ≤ x.lo.val * y.hi.val ∧ x.lo.val * y.hi.val ≤ U * 4294967296)
    (p3 : L * 4294967296 ≤ x.hi.val * y.lo.val ∧ x.hi.val * y.lo.val ≤ U * 4294967296) (p4 : L * 4294967296 ≤ x.hi.val * y.hi.val ∧ x.hi.val * y.hi.val ≤ U * 4294967296) :
    ∃ z : Iv, F_spec_MulI x y = z ∧ F_spec_l04Ok z = true ∧ L ≤ z.lo.val ∧ z.hi.val ≤ U ∧ (z.lo.val * 4294967296 ≤ x.lo.val * y.lo.val ∧ x.lo.val * y.lo.val ≤ z.hi.val * 4294967296) ∧ (z.lo.val * 4294967296 ≤ x.lo.val * y.hi.val ∧ x.lo.val * y.hi.val ≤ z.hi.val * 4294967296)
      ∧ (z.lo.val * 4294967296 ≤ x.hi.val * y.lo.val ∧ x.hi.val * y.lo.val ≤ z.hi.val * 4294967296) ∧ (z.lo.val * 4294967296 ≤ x.hi.val * y.hi.val ∧ x.hi.val * y.hi.val ≤ z.hi.val * 4294967296) := by
  have k1 := Ok3_lo hx
  have k2 := Ok3_hi hx
  have k3 := Ok3_lo hy
  have k4 := Ok3_hi hy
  obtain ⟨d1, d1e, d1v⟩ := MulDown_val k1 k3 (by omega) (by omega)
  obtain ⟨d2, d2e, d2v⟩ := MulDown_val k1 k4 (by omega) (by omega)
  obtain ⟨d3, d3e, d3v⟩ := MulDown_val k2 k3 (by omega) (by omega)
  obtain ⟨d4, d4e, d4v⟩ := MulDown_val k2 k4 (by omega) (by omega)
  obtain ⟨u1, u1e, u1v⟩ := MulUp_val k1 k3 (by omega) (by omega)
  obtain ⟨u2, u2e, u2v⟩ := MulUp_val k1 k4 (by omega) (by omega)
  obtain ⟨u3, u3e, u3v⟩ := MulUp_val k2 k3 (by omega) (by omega)
  obtain ⟨u4, u4e, u4v⟩ := MulUp_val k2 k4 (by omega) (by omega)
  generalize x.lo.val * y.lo.val = q1 at *
  generalize x.lo.val * y.hi.val = q2 at *
  generalize x.hi.val * y.lo.val = q3 at *
  generalize x.hi.val * y.hi.val = q4 at *
  have m0 := mn_spec (c64 1152921504606846976) d1
  have m1 := mn_spec (mn (c64 1152921504606846976) d1) d2
  have m2 := mn_spec (mn (mn (c64 1152921504606846976) d1) d2) d3
  have m3 := mn_spec (mn (mn (mn (c64 1152921504606846976) d1) d2) d3) d4
  have n0 := mx_spec (c64 (-1152921504606846976)) u1
  have n1 := mx_spec (mx (c64 (-1152921504606846976)) u1) u2
  have n2 := mx_spec (mx (mx (c64 (-1152921504606846976)) u1) u2) u3
  have n3 := mx_spec (mx (mx (mx (c64 (-1152921504606846976)) u1) u2) u3) u4
  rw [c64_val] at m0 n0
  unfold F_spec_MulI
  simp only [bindP_eq, hx, hy, d1e, d2e, d3e, d4e, u1e, u2e, u3e, u4e, Bool.not_true, cond_false, eq_mn, eq_mx]
  generalize mn (mn (mn (mn (c64 1152921504606846976) d1) d2) d3) d4 = M at *
  generalize mx (mx (mx (mx (c64 (-1152921504606846976)) u1) u2) u3) u4 = N at *
  have hb : -1152921504606846976 < M.val ∧ M.val ≤ N.val ∧ N.val < 1152921504606846976 := by omega
  rw [Make_ok hb]
  refine ⟨_, rfl, Ok4_of hb, ?_, ?_, ?_, ?_, ?_, ?_⟩
  all_goals (try simp only)
  all_goals omega

theorem DivDown_val {a b : I64} (ha : F_spec_l03Ok a = true) (hb : F_spec_l03Ok b = true) (h0 : 0 < b.val) (h1 : -1152921504606846976 ≤ a.val * 4294967296 / b.val) (h2 : a.val * 4294967296 / b.val ≤ 1152921504606846976) :
    ∃ r : I64, F_spec_l03DivDown a b = (r, true) ∧ r.val = a.val * 4294967296 / b.val := by
  have ha' := ha
  rw [sp_Ok3] at ha'
  simp only [Bool.and_eq_true, decide_eq_true_eq] at ha'
  have hm : (F_spec_l02Mul a (c64 4294967296)).z = a.val * 4294967296 := by rw [sp_Mul, c64_val]
  obtain ⟨s1, s2, s3⟩ := sp_Div (F_spec_l02Mul a (c64 4294967296)) b h0 (by rw [hm]; omega) (by rw [hm]; omega)
  rw [hm] at s1
  have hq : (F_spec_l02Div (F_spec_l02Mul a (c64 4294967296)) b).1.z = a.val * 4294967296 / b.val := by
    generalize (F_spec_l02Div (F_spec_l02Mul a (c64 4294967296)) b).1.z = q at *
    generalize (F_spec_l02Div (F_spec_l02Mul a (c64 4294967296)) b).2.val = r at *
    rw [← s1, Int.mul_comm q, Int.add_comm, Int.add_mul_ediv_left _ _ (by omega), Int.ediv_eq_zero_of_lt s2 s3, Int.zero_add]
  obtain ⟨n, e1, e2⟩ := Int_in (F_spec_l02Div (F_spec_l02Mul a (c64 4294967296)) b).1 (by rw [hq]; omega) (by rw [hq]; omega)
  refine ⟨n, ?_, by rw [e1, hq]⟩
  have hn : F_spec_l03Ok n = true := Ok3_of (by rw [e1, hq]; exact h1) (by rw [e1, hq]; exact h2)
  unfold F_spec_l03DivDown F_spec_MulDivFloor F_spec_l03End
  have e3 : (b.val == 0) = false := by simp; omega
  have e4 : decide (b.val < 0) = false := by simp; omega
  have e5 : decide (b.val ≤ 0) = false := by simp; omega
  simp only [bindP_eq, ha, hb, e2, e3, e4, e5, hn, Bool.not_true, cond_false]

theorem DivUp_val {a b : I64} (ha : F_spec_l03Ok a = true) (hb : F_spec_l03Ok b = true) (h0 : 0 < b.val) (h1 : -1152921504606846976 ≤ -(-(a.val * 4294967296) / b.val)) (h2 : -(-(a.val * 4294967296) / b.val) ≤ 1152921504606846976) :
    ∃ r : I64, F_spec_l03DivUp a b = (r, true) ∧ r.val = -(-(a.val * 4294967296) / b.val) := by
  have ha' := ha
  rw [sp_Ok3] at ha'
  simp only [Bool.and_eq_true, decide_eq_true_eq] at ha'
  have en : (w64 (0 - a.val)).val = -a.val := by rw [w64_val]; omega
  obtain ⟨r, e1, e2⟩ := DivDown_val (a := w64 (0 - a.val)) (b := b) (Ok3_of (by omega) (by omega)) hb h0 (by rw [en, Int.neg_mul]; omega) (by rw [en, Int.neg_mul]; omega)
  rw [en, Int.neg_mul] at e2
  refine ⟨w64 (0 - r.val), ?_, by rw [w64_val]; omega⟩
  unfold F_spec_l03DivUp
  simp only [bindP_eq, e1, ha, Bool.not_true, cond_false]

theorem div_in {q b L U : Int} (hb : 0 < b) (h1 : L * b ≤ q) (h2 : q ≤ U * b) : L ≤ q / b ∧ q / b ≤ U ∧ L ≤ -(-q / b) ∧ -(-q / b) ≤ U ∧ q / b ≤ -(-q / b) ∧ q / b * b ≤ q ∧ q ≤ -(-q / b) * b := by
  have a1 : L ≤ q / b := Int.le_ediv_of_mul_le hb h1
  have a2 : -q / b * b ≤ -q := Int.ediv_mul_le _ (by omega)
  have a3 : q / b * b ≤ q := Int.ediv_mul_le _ (by omega)
  have a4 : -U ≤ -q / b := Int.le_ediv_of_mul_le hb (by rw [Int.neg_mul]; omega)
  have a5 : q / b ≤ -(-q / b) := by
    have : q / b * b ≤ -(-q / b) * b := by rw [Int.neg_mul]; omega
    exact Int.le_of_mul_le_mul_right this hb
  refine ⟨a1, ?_, by omega, by omega, a5, a3, by rw [Int.neg_mul]; omega⟩
  have : q / b * b ≤ U * b := by omega
  exact Int.le_of_mul_le_mul_right this hb

/-- A quotient by an interval of positive numbers. -/
theorem DivI_in {x y : Iv} (hx : F_spec_l04Ok x = true) (hy : F_spec_l04Ok y = true) (h0 : 0 < y.lo.val) {L U : Int} (hL : -1152921504606846976 < L) (hU : U < 1152921504606846976)
    (p1 : L * y.lo.val ≤ x.lo.val * 4294967296 ∧ x.lo.val * 4294967296 ≤ U * y.lo.val) (p2 : L * y.hi.val ≤ x.lo.val * 4294967296 ∧ x.lo.val * 4294967296 ≤ U * y.hi.val)
    (p3 : L * y.lo.val ≤ x.hi.val * 4294967296 ∧ x.hi.val * 4294967296 ≤ U * y.lo.val) (p4 : L * y.hi.val ≤ x.hi.val * 4294967296 ∧ x.hi.val * 4294967296 ≤ U * y.hi.val) :
    ∃ z : Iv, F_spec_DivI x y = z ∧ F_spec_l04Ok z = true ∧ L ≤ z.lo.val ∧ z.hi.val ≤ U := by
  have k1 := Ok3_lo hx
  have k2 := Ok3_hi hx
  have k3 := Ok3_lo hy
  have k4 := Ok3_hi hy
  have hyb := Ok4 hy
  have h0' : 0 < y.hi.val := by omega
  have i1 := div_in h0 p1.1 p1.2
  have i2 := div_in h0' p2.1 p2.2
  have i3 := div_in h0 p3.1 p3.2
  have i4 := div_in h0' p4.1 p4.2
  obtain ⟨d1, d1e, d1v⟩ := DivDown_val k1 k3 h0 (by omega) (by omega)
  obtain ⟨d2, d2e, d2v⟩ := DivDown_val k1 k4 h0' (by omega) (by omega)
  obtain ⟨d3, d3e, d3v⟩ := DivDown_val k2 k3 h0 (by omega) (by omega)
  obtain ⟨d4, d4e, d4v⟩ := DivDown_val k2 k4 h0' (by omega) (by omega)
  obtain ⟨u1, u1e, u1v⟩ := DivUp_val k1 k3 h0 (by omega) (by omega)
  obtain ⟨u2, u2e, u2v⟩ := DivUp_val k1 k4 h0' (by omega) (by omega)
  obtain ⟨u3, u3e, u3v⟩ := DivUp_val k2 k3 h0 (by omega) (by omega)
  obtain ⟨u4, u4e, u4v⟩ := DivUp_val k2 k4 h0' (by omega) (by omega)
  rw [← d1v, ← u1v] at i1
  rw [← d2v, ← u2v] at i2
  rw [← d3v, ← u3v] at i3
  rw [← d4v, ← u4v] at i4
  have m0 := mn_spec (c64 1152921504606846976) d1
  have m1 := mn_spec (mn (c64 1152921504606846976) d1) d2
  have m2 := mn_spec (mn (mn (c64 1152921504606846976) d1) d2) d3
  have m3 := mn_spec (mn (mn (mn (c64 1152921504606846976) d1) d2) d3) d4
  have n0 := mx_spec (c64 (-1152921504606846976)) u1
  have n1 := mx_spec (mx (c64 (-1152921504606846976)) u1) u2
  have n2 := mx_spec (mx (mx (c64 (-1152921504606846976)) u1) u2) u3
  have n3 := mx_spec (mx (mx (mx (c64 (-1152921504606846976)) u1) u2) u3) u4
  rw [c64_val] at m0 n0
  have hh : F_spec_l04Has y (c64 0) = false := by
    unfold F_spec_l04Has
    simp only [bindP_eq, sp_in]
    have : ¬ y.lo.val ≤ (c64 0).val := by rw [c64_val]; omega
    simp only [this, decide_false, Bool.false_and]
  unfold F_spec_DivI
  simp only [bindP_eq, hx, hy, hh, d1e, d2e, d3e, d4e, u1e, u2e, u3e, u4e, Bool.not_true, cond_false, eq_mn, eq_mx]
  generalize mn (mn (mn (mn (c64 1152921504606846976) d1) d2) d3) d4 = M at *
  generalize mx (mx (mx (mx (c64 (-1152921504606846976)) u1) u2) u3) u4 = N at *
  have hb : -1152921504606846976 < M.val ∧ M.val ≤ N.val ∧ N.val < 1152921504606846976 := by
    obtain ⟨a1, a2, a3, a4, a5, _⟩ := i1
    obtain ⟨b1, b2, b3, b4, b5, _⟩ := i2
    obtain ⟨c1, c2, c3, c4, c5, _⟩ := i3
    obtain ⟨e1, e2, e3, e4, e5, _⟩ := i4
    clear d1v d2v d3v d4v u1v u2v u3v u4v p1 p2 p3 p4
    omega
  rw [Make_ok hb]
  refine ⟨_, rfl, Ok4_of hb, ?_, ?_⟩
  all_goals (try simp only)
  all_goals (obtain ⟨a1, a2, a3, a4, a5, _⟩ := i1; obtain ⟨b1, b2, b3, b4, b5, _⟩ := i2; obtain ⟨c1, c2, c3, c4, c5, _⟩ := i3; obtain ⟨e1, e2, e3, e4, e5, _⟩ := i4; clear d1v d2v d3v d4v u1v u2v u3v u4v p1 p2 p3 p4; omega)

end Go.Proofs.YtgofhiehdpggkaaGreat.Abs
