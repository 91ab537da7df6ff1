/- Plain laws of the functions on numbers: what the program computes is what the reference computes. -/
import Derived.Test.YtfhnlkinjbakgaaGreatMsQghi
import Derived.Test.YtfhnlkinjbakgaaGreatMsF4
set_option linter.unusedVariables false
set_option linter.unusedSimpArgs false
namespace Go.Proofs.YtfhnlkinjbakgaaGreat.Abs
open Go
theorem Int_in (w : Wd) (h1 : -9223372036854775808 ≤ w.z) (h2 : w.z ≤ 9223372036854775807) : ∃ n : I64,n.val = w.z ∧ S_l02Int w = (n,true):=by
  have a1:=w.lo.lo
  have a2:=w.lo.hi
  have hz : w.z = w.hi.val * 18446744073709551616 + w.lo.val:=rfl
  refine ⟨w64 w.lo.val,by rw [w64_val]; omega,?_⟩
  unfold S_l02Int S_l02Of
  simp only [bindP_eq]
  by_cases hn : (w64 w.lo.val).val < 0
  · simp only [hn,decide_true,cond_true,c64_val,wu64_val]
    rw [w64_val] at hn
    have e1 : ((-1 : Int) == w.hi.val) = true:=by simp; omega
    have e2 : ((w64 w.lo.val).val % 18446744073709551616 == w.lo.val) = true:=by rw [w64_val]; simp; omega
    simp only [e1,e2]
    rfl
  · simp only [hn,decide_false,cond_false,c64_val,wu64_val]
    rw [w64_val] at hn
    have e1 : ((0 : Int) == w.hi.val) = true:=by simp; omega
    have e2 : ((w64 w.lo.val).val % 18446744073709551616 == w.lo.val) = true:=by rw [w64_val]; simp; omega
    simp only [e1,e2]
    rfl
theorem ior_comm (k : IntKind) (x y : Int) : ior k x y = ior k y x:=by
  unfold ior
  refine IK.eq ?_
  show k.wrap _ = k.wrap _
  rw [BitVec.or_comm]
theorem Shift_z32 (w : Wd) : (S_l02Shift w (c64 32)).z = w.z / 4294967296:=by
  have a1:=w.lo.lo
  have a2:=w.lo.hi
  unfold S_l02Shift
  have e0 : ((c64 32).val == 0) = false:=by decide
  have e1 : decide ((c64 32).val < 64) = true:=by decide
  have e2 : (wu64 (c64 32).val).val = 32:=by decide
  have e3 : (wu64 (w64 (64 - (c64 32).val)).val).val = 32:=by decide
  simp only [e0,e1,e2,e3,cond_true,cond_false]
  have s1 : (ishr w.hi 32).val = w.hi.val / 4294967296:=by rw [ishr_val,Int.fdiv_eq_ediv_of_nonneg _ (by decide)]; rfl
  have s2 : (ishr w.lo 32).val = w.lo.val / 4294967296:=shr32 w.lo
  have s3 : (ishl .u64 (wu64 w.hi.val).val 32).val = (w.hi.val % 18446744073709551616 * 4294967296) % 18446744073709551616:=by
    show IntKind.u64.wrap ((wu64 w.hi.val).val * 2 ^ 32) = _
    rw [IntKind.wrap_u64,wu64_val]
    rfl
  have s4 : (ior .u64 (ishr w.lo 32).val (ishl .u64 (wu64 w.hi.val).val 32).val).val = (w.hi.val % 18446744073709551616 * 4294967296) % 18446744073709551616 + w.lo.val / 4294967296:=by
    rw [ior_comm,s2,s3]
    exact or_add 32 _ _ (by omega) (by omega) (by rw [show (2 : Int) ^ 32 = 4294967296 by decide]; omega) (by omega) (by rw [show (2 : Int) ^ 32 = 4294967296 by decide]; omega) (by decide)
  show (ishr w.hi 32).val * 18446744073709551616 + (ior .u64 (ishr w.lo 32).val (ishl .u64 (wu64 w.hi.val).val 32).val).val = (w.hi.val * 18446744073709551616 + w.lo.val) / 4294967296
  rw [s1,s4]
  omega
theorem Shift_z30 (w : Wd) : (S_l02Shift w (c64 30)).z = w.z / 1073741824:=by
  have a1:=w.lo.lo
  have a2:=w.lo.hi
  unfold S_l02Shift
  have e0 : ((c64 30).val == 0) = false:=by decide
  have e1 : decide ((c64 30).val < 64) = true:=by decide
  have e2 : (wu64 (c64 30).val).val = 30:=by decide
  have e3 : (wu64 (w64 (64 - (c64 30).val)).val).val = 34:=by decide
  simp only [e0,e1,e2,e3,cond_true,cond_false]
  have s1 : (ishr w.hi 30).val = w.hi.val / 1073741824:=by rw [ishr_val,Int.fdiv_eq_ediv_of_nonneg _ (by decide)]; rfl
  have s2 : (ishr w.lo 30).val = w.lo.val / 1073741824:=by rw [ishr_val,Int.fdiv_eq_ediv_of_nonneg _ (by decide)]; rfl
  have s3 : (ishl .u64 (wu64 w.hi.val).val 34).val = (w.hi.val % 18446744073709551616 * 17179869184) % 18446744073709551616:=by
    show IntKind.u64.wrap ((wu64 w.hi.val).val * 2 ^ 34) = _
    rw [IntKind.wrap_u64,wu64_val]
    rfl
  have s4 : (ior .u64 (ishr w.lo 30).val (ishl .u64 (wu64 w.hi.val).val 34).val).val = (w.hi.val % 18446744073709551616 * 17179869184) % 18446744073709551616 + w.lo.val / 1073741824:=by
    rw [ior_comm,s2,s3]
    exact or_add 34 _ _ (by omega) (by omega) (by rw [show (2 : Int) ^ 34 = 17179869184 by decide]; omega) (by omega) (by rw [show (2 : Int) ^ 34 = 17179869184 by decide]; omega) (by decide)
  show (ishr w.hi 30).val * 18446744073709551616 + (ior .u64 (ishr w.lo 30).val (ishl .u64 (wu64 w.hi.val).val 34).val).val = (w.hi.val * 18446744073709551616 + w.lo.val) / 1073741824
  rw [s1,s4]
  omega
theorem Ok3_of {a : I64} (h1 : -1152921504606846976 ≤ a.val) (h2 : a.val ≤ 1152921504606846976) : S_l03Ok a = true:=by
  rw [sp_Ok3]; simp [h1,h2]
theorem MulDown_val {a b : I64} (ha : S_l03Ok a = true) (hb : S_l03Ok b = true) (h1 : -1152921504606846976 ≤ a.val * b.val / 4294967296) (h2 : a.val * b.val / 4294967296 ≤ 1152921504606846976) :
    ∃ r : I64,S_l03MulDown a b = (r,true) ∧ r.val = a.val * b.val / 4294967296:=by
  have hz : (S_l02Shift (S_l02Mul a b) (c64 32)).z = a.val * b.val / 4294967296:=by rw [Shift_z32,sp_Mul]
  obtain ⟨n,e1,e2⟩:=Int_in (S_l02Shift (S_l02Mul a b) (c64 32)) (by rw [hz]; omega) (by rw [hz]; omega)
  refine ⟨n,?_,by rw [e1,hz]⟩
  have hn : S_l03Ok n = true:=Ok3_of (by rw [e1,hz]; exact h1) (by rw [e1,hz]; exact h2)
  unfold S_l03MulDown S_MulFloor S_l03End
  have e3 : S_l00In (c64 32) (c64 0) (c64 126) = true:=by decide
  simp only [bindP_eq,ha,hb,e2,e3,hn,Bool.not_true,cond_false]
theorem MulUp_val {a b : I64} (ha : S_l03Ok a = true) (hb : S_l03Ok b = true) (h1 : -1152921504606846976 ≤ -(-(a.val * b.val) / 4294967296)) (h2 : -(-(a.val * b.val) / 4294967296) ≤ 1152921504606846976) :
    ∃ r : I64,S_l03MulUp a b = (r,true) ∧ r.val = -(-(a.val * b.val) / 4294967296):=by
  have ha':=ha
  rw [sp_Ok3] at ha'
  simp only [Bool.and_eq_true,decide_eq_true_eq] at ha'
  have en : (w64 (0 - a.val)).val = -a.val:=by rw [w64_val]; omega
  obtain ⟨r,e1,e2⟩:=MulDown_val (a:=w64 (0 - a.val)) (b:=b) (Ok3_of (by omega) (by omega)) hb (by rw [en,Int.neg_mul]; omega) (by rw [en,Int.neg_mul]; omega)
  rw [en,Int.neg_mul] at e2
  refine ⟨w64 (0 - r.val),?_,by rw [w64_val]; omega⟩
  unfold S_l03MulUp
  simp only [bindP_eq,e1,ha,Bool.not_true,cond_false]
theorem mn_spec (a b : I64) : (mn a b).val ≤ a.val ∧ (mn a b).val ≤ b.val ∧ ((mn a b).val = a.val ∨ (mn a b).val = b.val):=by
  rw [mn_val]; split <;> omega
theorem mx_spec (a b : I64) : a.val ≤ (mx a b).val ∧ b.val ≤ (mx a b).val ∧ ((mx a b).val = a.val ∨ (mx a b).val = b.val):=by
  rw [mx_val]; split <;> omega
theorem Ok3_lo {a : Iv} (h : S_l04Ok a = true) : S_l03Ok a.lo = true:=by
  obtain ⟨h1,h2,h3⟩:=Ok4 h
  exact Ok3_of (by omega) (by omega)
theorem Ok3_hi {a : Iv} (h : S_l04Ok a = true) : S_l03Ok a.hi = true:=by
  obtain ⟨h1,h2,h3⟩:=Ok4 h
  exact Ok3_of (by omega) (by omega)
theorem MulI_in {x y : Iv} (hx : S_l04Ok x = true) (hy : S_l04Ok y = true) {L U : Int} (hL : -1152921504606846976 < L) (hU : U < 1152921504606846976)
    (p1 : L * 4294967296 ≤ x.lo.val * y.lo.val ∧ x.lo.val * y.lo.val ≤ U * 4294967296) (p2 : L * 4294967296 ≤ x.lo.val * y.hi.val ∧ x.lo.val * y.hi.val ≤ U * 4294967296)
    (p3 : L * 4294967296 ≤ x.hi.val * y.lo.val ∧ x.hi.val * y.lo.val ≤ U * 4294967296) (p4 : L * 4294967296 ≤ x.hi.val * y.hi.val ∧ x.hi.val * y.hi.val ≤ U * 4294967296) :
    ∃ z : Iv,S_MulI x y = z ∧ S_l04Ok z = true ∧ L ≤ z.lo.val ∧ z.hi.val ≤ U ∧ (z.lo.val * 4294967296 ≤ x.lo.val * y.lo.val ∧ x.lo.val * y.lo.val ≤ z.hi.val * 4294967296) ∧ (z.lo.val * 4294967296 ≤ x.lo.val * y.hi.val ∧ x.lo.val * y.hi.val ≤ z.hi.val * 4294967296)
      ∧ (z.lo.val * 4294967296 ≤ x.hi.val * y.lo.val ∧ x.hi.val * y.lo.val ≤ z.hi.val * 4294967296) ∧ (z.lo.val * 4294967296 ≤ x.hi.val * y.hi.val ∧ x.hi.val * y.hi.val ≤ z.hi.val * 4294967296):=by
  have k1:=Ok3_lo hx
  have k2:=Ok3_hi hx
  have k3:=Ok3_lo hy
  have k4:=Ok3_hi hy
  obtain ⟨d1,d1e,d1v⟩:=MulDown_val k1 k3 (by omega) (by omega)
  obtain ⟨d2,d2e,d2v⟩:=MulDown_val k1 k4 (by omega) (by omega)
  obtain ⟨d3,d3e,d3v⟩:=MulDown_val k2 k3 (by omega) (by omega)
  obtain ⟨d4,d4e,d4v⟩:=MulDown_val k2 k4 (by omega) (by omega)
  obtain ⟨u1,u1e,u1v⟩:=MulUp_val k1 k3 (by omega) (by omega)
  obtain ⟨u2,u2e,u2v⟩:=MulUp_val k1 k4 (by omega) (by omega)
  obtain ⟨u3,u3e,u3v⟩:=MulUp_val k2 k3 (by omega) (by omega)
  obtain ⟨u4,u4e,u4v⟩:=MulUp_val k2 k4 (by omega) (by omega)
  generalize x.lo.val * y.lo.val = q1 at *
  generalize x.lo.val * y.hi.val = q2 at *
  generalize x.hi.val * y.lo.val = q3 at *
  generalize x.hi.val * y.hi.val = q4 at *
  have m0:=mn_spec (c64 1152921504606846976) d1
  have m1:=mn_spec (mn (c64 1152921504606846976) d1) d2
  have m2:=mn_spec (mn (mn (c64 1152921504606846976) d1) d2) d3
  have m3:=mn_spec (mn (mn (mn (c64 1152921504606846976) d1) d2) d3) d4
  have n0:=mx_spec (c64 (-1152921504606846976)) u1
  have n1:=mx_spec (mx (c64 (-1152921504606846976)) u1) u2
  have n2:=mx_spec (mx (mx (c64 (-1152921504606846976)) u1) u2) u3
  have n3:=mx_spec (mx (mx (mx (c64 (-1152921504606846976)) u1) u2) u3) u4
  rw [c64_val] at m0 n0
  unfold S_MulI
  simp only [bindP_eq,hx,hy,d1e,d2e,d3e,d4e,u1e,u2e,u3e,u4e,Bool.not_true,cond_false,eq_mn,eq_mx]
  generalize mn (mn (mn (mn (c64 1152921504606846976) d1) d2) d3) d4 = M at *
  generalize mx (mx (mx (mx (c64 (-1152921504606846976)) u1) u2) u3) u4 = N at *
  have hb : -1152921504606846976 < M.val ∧ M.val ≤ N.val ∧ N.val < 1152921504606846976:=by omega
  rw [Make_ok hb]
  refine ⟨_,rfl,Ok4_of hb,?_,?_,?_,?_,?_,?_⟩
  all_goals (try simp only)
  all_goals omega
theorem DivDown_val {a b : I64} (ha : S_l03Ok a = true) (hb : S_l03Ok b = true) (h0 : 0 < b.val) (h1 : -1152921504606846976 ≤ a.val * 4294967296 / b.val) (h2 : a.val * 4294967296 / b.val ≤ 1152921504606846976) :
    ∃ r : I64,S_l03DivDown a b = (r,true) ∧ r.val = a.val * 4294967296 / b.val:=by
  have ha':=ha
  rw [sp_Ok3] at ha'
  simp only [Bool.and_eq_true,decide_eq_true_eq] at ha'
  have hm : (S_l02Mul a (c64 4294967296)).z = a.val * 4294967296:=by rw [sp_Mul,c64_val]
  obtain ⟨s1,s2,s3⟩:=sp_Div (S_l02Mul a (c64 4294967296)) b h0 (by rw [hm]; omega) (by rw [hm]; omega)
  rw [hm] at s1
  have hq : (S_l02Div (S_l02Mul a (c64 4294967296)) b).1.z = a.val * 4294967296 / b.val:=by
    generalize (S_l02Div (S_l02Mul a (c64 4294967296)) b).1.z = q at *
    generalize (S_l02Div (S_l02Mul a (c64 4294967296)) b).2.val = r at *
    rw [← s1,Int.mul_comm q,Int.add_comm,Int.add_mul_ediv_left _ _ (by omega),Int.ediv_eq_zero_of_lt s2 s3,Int.zero_add]
  obtain ⟨n,e1,e2⟩:=Int_in (S_l02Div (S_l02Mul a (c64 4294967296)) b).1 (by rw [hq]; omega) (by rw [hq]; omega)
  refine ⟨n,?_,by rw [e1,hq]⟩
  have hn : S_l03Ok n = true:=Ok3_of (by rw [e1,hq]; exact h1) (by rw [e1,hq]; exact h2)
  unfold S_l03DivDown S_MulDivFloor S_l03End
  have e3 : (b.val == 0) = false:=by simp; omega
  have e4 : decide (b.val < 0) = false:=by simp; omega
  have e5 : decide (b.val ≤ 0) = false:=by simp; omega
  simp only [bindP_eq,ha,hb,e2,e3,e4,e5,hn,Bool.not_true,cond_false]
theorem DivUp_val {a b : I64} (ha : S_l03Ok a = true) (hb : S_l03Ok b = true) (h0 : 0 < b.val) (h1 : -1152921504606846976 ≤ -(-(a.val * 4294967296) / b.val)) (h2 : -(-(a.val * 4294967296) / b.val) ≤ 1152921504606846976) :
    ∃ r : I64,S_l03DivUp a b = (r,true) ∧ r.val = -(-(a.val * 4294967296) / b.val):=by
  have ha':=ha
  rw [sp_Ok3] at ha'
  simp only [Bool.and_eq_true,decide_eq_true_eq] at ha'
  have en : (w64 (0 - a.val)).val = -a.val:=by rw [w64_val]; omega
  obtain ⟨r,e1,e2⟩:=DivDown_val (a:=w64 (0 - a.val)) (b:=b) (Ok3_of (by omega) (by omega)) hb h0 (by rw [en,Int.neg_mul]; omega) (by rw [en,Int.neg_mul]; omega)
  rw [en,Int.neg_mul] at e2
  refine ⟨w64 (0 - r.val),?_,by rw [w64_val]; omega⟩
  unfold S_l03DivUp
  simp only [bindP_eq,e1,ha,Bool.not_true,cond_false]
theorem div_in {q b L U : Int} (hb : 0 < b) (h1 : L * b ≤ q) (h2 : q ≤ U * b) : L ≤ q / b ∧ q / b ≤ U ∧ L ≤ -(-q / b) ∧ -(-q / b) ≤ U ∧ q / b ≤ -(-q / b) ∧ q / b * b ≤ q ∧ q ≤ -(-q / b) * b:=by
  have a1 : L ≤ q / b:=Int.le_ediv_of_mul_le hb h1
  have a2 : -q / b * b ≤ -q:=Int.ediv_mul_le _ (by omega)
  have a3 : q / b * b ≤ q:=Int.ediv_mul_le _ (by omega)
  have a4 : -U ≤ -q / b:=Int.le_ediv_of_mul_le hb (by rw [Int.neg_mul]; omega)
  have a5 : q / b ≤ -(-q / b):=by
    have : q / b * b ≤ -(-q / b) * b:=by rw [Int.neg_mul]; omega
    exact Int.le_of_mul_le_mul_right this hb
  refine ⟨a1,?_,by omega,by omega,a5,a3,by rw [Int.neg_mul]; omega⟩
  have : q / b * b ≤ U * b:=by omega
  exact Int.le_of_mul_le_mul_right this hb
theorem DivI_in {x y : Iv} (hx : S_l04Ok x = true) (hy : S_l04Ok y = true) (h0 : 0 < y.lo.val) {L U : Int} (hL : -1152921504606846976 < L) (hU : U < 1152921504606846976)
    (p1 : L * y.lo.val ≤ x.lo.val * 4294967296 ∧ x.lo.val * 4294967296 ≤ U * y.lo.val) (p2 : L * y.hi.val ≤ x.lo.val * 4294967296 ∧ x.lo.val * 4294967296 ≤ U * y.hi.val)
    (p3 : L * y.lo.val ≤ x.hi.val * 4294967296 ∧ x.hi.val * 4294967296 ≤ U * y.lo.val) (p4 : L * y.hi.val ≤ x.hi.val * 4294967296 ∧ x.hi.val * 4294967296 ≤ U * y.hi.val) :
    ∃ z : Iv,S_DivI x y = z ∧ S_l04Ok z = true ∧ L ≤ z.lo.val ∧ z.hi.val ≤ U:=by
  have k1:=Ok3_lo hx
  have k2:=Ok3_hi hx
  have k3:=Ok3_lo hy
  have k4:=Ok3_hi hy
  have hyb:=Ok4 hy
  have h0' : 0 < y.hi.val:=by omega
  have i1:=div_in h0 p1.1 p1.2
  have i2:=div_in h0' p2.1 p2.2
  have i3:=div_in h0 p3.1 p3.2
  have i4:=div_in h0' p4.1 p4.2
  obtain ⟨d1,d1e,d1v⟩:=DivDown_val k1 k3 h0 (by omega) (by omega)
  obtain ⟨d2,d2e,d2v⟩:=DivDown_val k1 k4 h0' (by omega) (by omega)
  obtain ⟨d3,d3e,d3v⟩:=DivDown_val k2 k3 h0 (by omega) (by omega)
  obtain ⟨d4,d4e,d4v⟩:=DivDown_val k2 k4 h0' (by omega) (by omega)
  obtain ⟨u1,u1e,u1v⟩:=DivUp_val k1 k3 h0 (by omega) (by omega)
  obtain ⟨u2,u2e,u2v⟩:=DivUp_val k1 k4 h0' (by omega) (by omega)
  obtain ⟨u3,u3e,u3v⟩:=DivUp_val k2 k3 h0 (by omega) (by omega)
  obtain ⟨u4,u4e,u4v⟩:=DivUp_val k2 k4 h0' (by omega) (by omega)
  rw [← d1v,← u1v] at i1
  rw [← d2v,← u2v] at i2
  rw [← d3v,← u3v] at i3
  rw [← d4v,← u4v] at i4
  have m0:=mn_spec (c64 1152921504606846976) d1
  have m1:=mn_spec (mn (c64 1152921504606846976) d1) d2
  have m2:=mn_spec (mn (mn (c64 1152921504606846976) d1) d2) d3
  have m3:=mn_spec (mn (mn (mn (c64 1152921504606846976) d1) d2) d3) d4
  have n0:=mx_spec (c64 (-1152921504606846976)) u1
  have n1:=mx_spec (mx (c64 (-1152921504606846976)) u1) u2
  have n2:=mx_spec (mx (mx (c64 (-1152921504606846976)) u1) u2) u3
  have n3:=mx_spec (mx (mx (mx (c64 (-1152921504606846976)) u1) u2) u3) u4
  rw [c64_val] at m0 n0
  have hh : S_l04Has y (c64 0) = false:=by
    unfold S_l04Has
    simp only [bindP_eq,sp_in]
    have : ¬ y.lo.val ≤ (c64 0).val:=by rw [c64_val]; omega
    simp only [this,decide_false,Bool.false_and]
  unfold S_DivI
  simp only [bindP_eq,hx,hy,hh,d1e,d2e,d3e,d4e,u1e,u2e,u3e,u4e,Bool.not_true,cond_false,eq_mn,eq_mx]
  generalize mn (mn (mn (mn (c64 1152921504606846976) d1) d2) d3) d4 = M at *
  generalize mx (mx (mx (mx (c64 (-1152921504606846976)) u1) u2) u3) u4 = N at *
  have hb : -1152921504606846976 < M.val ∧ M.val ≤ N.val ∧ N.val < 1152921504606846976:=by
    obtain ⟨a1,a2,a3,a4,a5,_⟩:=i1
    obtain ⟨b1,b2,b3,b4,b5,_⟩:=i2
    obtain ⟨c1,c2,c3,c4,c5,_⟩:=i3
    obtain ⟨e1,e2,e3,e4,e5,_⟩:=i4
    clear d1v d2v d3v d4v u1v u2v u3v u4v p1 p2 p3 p4
    omega
  rw [Make_ok hb]
  refine ⟨_,rfl,Ok4_of hb,?_,?_⟩
  all_goals (try simp only)
  all_goals (obtain ⟨a1,a2,a3,a4,a5,_⟩:=i1; obtain ⟨b1,b2,b3,b4,b5,_⟩:=i2; obtain ⟨c1,c2,c3,c4,c5,_⟩:=i3; obtain ⟨e1,e2,e3,e4,e5,_⟩:=i4; clear d1v d2v d3v d4v u1v u2v u3v u4v p1 p2 p3 p4; omega)
theorem c64_v (n : Int) (h : IntKind.i64.min ≤ n ∧ n ≤ IntKind.i64.max) : (c64 n h).val = n:=by have:=c64_val n h; omega
theorem Make_bad {a b : I64} (h : ¬ (-1152921504606846976 < a.val ∧ a.val ≤ b.val ∧ b.val < 1152921504606846976)) : S_l04Make a b = S_l04Whole:=by
  unfold S_l04Make
  have : S_l04Ok ⟨a,b⟩ = false:=by
    cases hq : S_l04Ok ⟨a,b⟩ with
    | false=>rfl
    | true=>exact absurd (Ok4 hq) h
  simp only [bindP_eq,this,Bool.not_false,cond_true]
theorem eq_Integer (n : I64) : I_Integer n = S_Integer n:=by
  have h1:=n.lo
  have h2:=n.hi
  unfold I_Integer S_Integer
  simp only [bindP_eq,eq_bounded,eq_Whole,sp_in,sp_within,c64_v]
  by_cases h : n.val = 268435456 ∨ n.val = -268435456
  · have hm : S_l04Make (w64 (n.val * 4294967296)) (w64 (n.val * 4294967296)) = S_l04Whole:=Make_bad (by simp only [w64_val]; omega)
    rw [hm]
    generalize (decide (-268435456 ≤ n.val) && decide (n.val ≤ 268435456)) = p
    generalize (decide (-268435455 ≤ n.val) && decide (n.val ≤ 268435455)) = q
    cases p <;> cases q <;> rfl
  · have e : (decide (-268435456 ≤ n.val) && decide (n.val ≤ 268435456)) = (decide (-268435455 ≤ n.val) && decide (n.val ≤ 268435455)):=by
      rw [Bool.eq_iff_iff]
      simp only [Bool.and_eq_true,decide_eq_true_eq]
      omega
    rw [e]
theorem eq_QuarterOf (n : I64) : I_QuarterOf n = S_QuarterOf n:=by
  unfold I_QuarterOf S_QuarterOf I_isAngle S_l06Angle S_l06Floor
  simp only [bindP_eq,eq_in]
  cases h : S_l00In n (c64 (-1099511627776)) (c64 1099511627776) with
  | false=>rfl
  | true=>
    rw [sp_in] at h
    simp only [Bool.and_eq_true,decide_eq_true_eq,c64_v] at h
    simp only [Bool.not_true,cond_false]
    have e : (w64 (n.val + 3373259426)).val = n.val + 3373259426:=by rw [w64_val]; omega
    generalize w64 (n.val + 3373259426) = a at *
    have q1:=Int.mul_tdiv_add_tmod a.val 6746518852
    have q2 : -6746518852 < Int.tmod a.val 6746518852 ∧ Int.tmod a.val 6746518852 < 6746518852:=by
      by_cases hs : 0 ≤ a.val
      · rw [Int.tmod_eq_emod_of_nonneg hs]; omega
      · have : Int.tmod a.val 6746518852 = -((-a.val) % 6746518852):=by
          rw [← Int.tmod_eq_emod_of_nonneg (by omega),Int.neg_tmod,Int.neg_neg]
        rw [this]; omega
    have e4 : (imod a (c64 6746518852).val).val = Int.tmod a.val 6746518852:=rfl
    have e5 : Int.tdiv a.val (c64 6746518852).val = Int.tdiv a.val 6746518852:=rfl
    rw [e4,e5]
    generalize Int.tdiv a.val 6746518852 = q at *
    generalize Int.tmod a.val 6746518852 = r at *
    have e2 : (w64 ((w64 q).val * 6746518852)).val = q * 6746518852:=by simp only [w64_val]; omega
    have e3 : decide ((w64 ((w64 q).val * 6746518852)).val > a.val) = decide (r < 0):=by
      rw [Bool.eq_iff_iff]
      simp only [decide_eq_true_eq,e2]
      omega
    rw [e3]
theorem Turn_val (a : I64) (h0 : 0 < a.val) (h1 : a.val ≤ 4096) : ∃ r : I64,S_MulFloor a (c64 7244019458077122842) (c64 30) = (r,true) ∧ r.val = a.val * 7244019458077122842 / 1073741824:=by
  have hz : (S_l02Shift (S_l02Mul a (c64 7244019458077122842)) (c64 30)).z = a.val * 7244019458077122842 / 1073741824:=by rw [Shift_z30,sp_Mul,c64_val]
  obtain ⟨n,e1,e2⟩:=Int_in (S_l02Shift (S_l02Mul a (c64 7244019458077122842)) (c64 30)) (by rw [hz]; omega) (by rw [hz]; omega)
  refine ⟨n,?_,by rw [e1,hz]⟩
  unfold S_MulFloor
  have e3 : S_l00In (c64 30) (c64 0) (c64 126) = true:=by decide
  simp only [bindP_eq,e2,e3,Bool.not_true,cond_false]
theorem eq_TurnI (a : I64) : I_TurnI a = S_TurnI a:=by
  unfold I_TurnI S_TurnI S_l05Turn I_TurnI_r S_l05Turn_r S_Whole
  simp only [bindP_eq,eq_in,eq_Whole,eq_MulFloor,eq_NegI]
  cases h : S_l00In a (c64 (-4096)) (c64 4096) with
  | false=>rfl
  | true=>
    have h':=h
    rw [sp_in] at h'
    simp only [Bool.and_eq_true,decide_eq_true_eq,c64_v] at h'
    simp only [Bool.not_true,cond_false]
    by_cases hn : a.val < 0
    · have en : (w64 (0 - a.val)).val = -a.val:=by rw [w64_val]; omega
      have e0 : (a.val == 0) = false:=by simp; omega
      simp only [hn,decide_true,cond_true,e0,cond_false]
      unfold I_TurnI_r S_l05Turn_r
      have h2 : S_l00In (w64 (0 - a.val)) (c64 (-4096)) (c64 4096) = true:=by
        rw [sp_in]
        simp only [Bool.and_eq_true,decide_eq_true_eq,c64_v,en]
        omega
      have e1 : decide ((w64 (0 - a.val)).val < 0) = false:=by rw [en]; exact decide_eq_false (by omega)
      have e2 : ((w64 (0 - a.val)).val == 0) = false:=by rw [en]; simp; omega
      obtain ⟨r,r1,r2⟩:=Turn_val (w64 (0 - a.val)) (by omega) (by omega)
      rw [en] at r2
      have hr : 0 ≤ r.val ∧ r.val ≤ 30000000000000:=by omega
      clear r2
      simp only [bindP_eq,eq_in,h2,e1,e2,Bool.not_true,cond_false,eq_MulFloor,r1]
      unfold S_NegI
      have ho : S_l04Ok ⟨r,w64 (r.val + 1)⟩ = true:=Ok4_of (by simp only [w64_val]; omega)
      simp only [bindP_eq,ho,Bool.not_true,cond_false]
      rw [Make_ok (by simp only [w64_val]; omega)]
    · simp only [hn,decide_false,cond_false]
theorem eq_InsideI (a b : Iv) : I_InsideI a b = S_InsideI a b:=by
  unfold I_InsideI S_InsideI I_IsWhole
  simp only [bindP_eq,eq_Valid]
  cases S_l04Ok a <;> cases S_l04Ok b <;> rfl
theorem eq_MeetI (a b : Iv) : I_MeetI a b = S_MeetI a b:=by
  unfold I_MeetI S_MeetI I_IsWhole
  simp only [bindP_eq,eq_Valid,eq_Whole,eq_mn,eq_mx]
theorem eq_OverlapI (a b : Iv) : I_OverlapI a b = S_OverlapI a b:=by
  unfold I_OverlapI S_OverlapI
  rw [eq_MeetI]
theorem eq_HullI (a b : Iv) : I_HullI a b = S_HullI a b:=by
  unfold I_HullI S_HullI
  simp only [bindP_eq,eq_areBounded,eq_Whole,eq_mn,eq_mx]
  cases ha : S_l04Ok a with
  | false=>rfl
  | true=>
    cases hb : S_l04Ok b with
    | false=>rfl
    | true=>
      obtain ⟨a1,a2,a3⟩:=Ok4 ha
      obtain ⟨b1,b2,b3⟩:=Ok4 hb
      have m:=mn_spec a.lo b.lo
      have n:=mx_spec a.hi b.hi
      simp only [Bool.and_self,Bool.not_true,cond_false]
      rw [Make_ok (by omega)]
theorem bindP_e {α β : Type} (x : α) (φ : α → β) : bindP x φ = φ x:=Eq.trans rfl rfl
theorem eq_IsWhole (a : Iv) : I_IsWhole a = !S_l04Ok a:=Eq.trans rfl rfl
theorem cond_t {α : Type} (x y : α) : cond true x y = x:=Eq.trans rfl rfl
theorem cond_f {α : Type} (x y : α) : cond false x y = y:=Eq.trans rfl rfl
theorem eq_AbsI {a : Iv} (h : S_l04Ok a = true) : I_AbsI a = ⟨(S_l04Ends a).1,(S_l04Ends a).2⟩:=by
  have e1 : I_AbsI a = bif S_l00In (c64 0) a.lo a.hi then ⟨c64 0,mx (mx a.lo (w64 (0 - a.lo.val))) (mx a.hi (w64 (0 - a.hi.val)))⟩ else ⟨mn (mx a.lo (w64 (0 - a.lo.val))) (mx a.hi (w64 (0 - a.hi.val))),mx (mx a.lo (w64 (0 - a.lo.val))) (mx a.hi (w64 (0 - a.hi.val)))⟩:=by
    unfold I_AbsI I_HasI I_abs
    simp only [bindP_e,eq_IsWhole,h,Bool.not_true,cond_f,eq_in]
  have e2 : S_l04Ends a = bif S_l00In (c64 0) a.lo a.hi then (c64 0,mx (mx a.lo (w64 (0 - a.lo.val))) (mx a.hi (w64 (0 - a.hi.val)))) else (mn (mx a.lo (w64 (0 - a.lo.val))) (mx a.hi (w64 (0 - a.hi.val))),mx (mx a.lo (w64 (0 - a.lo.val))) (mx a.hi (w64 (0 - a.hi.val)))):=by
    unfold S_l04Ends S_l04Has
    simp only [bindP_e,eq_mn,eq_mx]
  rw [e1,e2]
  generalize mn (mx a.lo (w64 (0 - a.lo.val))) (mx a.hi (w64 (0 - a.hi.val))) = p
  generalize mx (mx a.lo (w64 (0 - a.lo.val))) (mx a.hi (w64 (0 - a.hi.val))) = q
  cases S_l00In (c64 0) a.lo a.hi
  · rw [cond_f,cond_f]
  · rw [cond_t,cond_t]
theorem eq_SqrI (a : Iv) : I_SqrI a = S_SqrI a:=by
  unfold I_SqrI S_SqrI
  simp only [bindP_e,eq_IsWhole]
  cases ha : S_l04Ok a with
  | false=>simp only [Bool.not_false,cond_t]; exact eq_Whole
  | true=>
    simp only [Bool.not_true,cond_f,eq_AbsI ha,eq_MulDown,eq_MulUp]
    generalize S_l04Ends a = e
    generalize S_l03MulDown e.1 e.1 = p
    generalize S_l03MulUp e.2 e.2 = q
    exact make_pair p q
theorem bindP_congr {α β : Type} {x y : α} {φ ψ : α → β} (h : x = y) (h2 : ∀ r,φ r = ψ r) : bindP x φ = bindP y ψ:=by
  subst h
  exact h2 x
theorem eq_series2 (y : Iv) : I_series y (c64 2) = S_l06Series y (c64 0):=by
  unfold I_series S_l06Series
  repeat (refine bindP_congr (by first | exact eq_DivI _ _ | exact eq_MulI _ _ | exact eq_SubI _ _ | exact (eq_Integer _).trans (congrArg _ (IK.eq (by decide)))) fun r=>?_)
  rfl
theorem eq_series1 (y : Iv) : I_series y (c64 1) = S_l06Series y (c64 (-1)):=by
  unfold I_series S_l06Series
  repeat (refine bindP_congr (by first | exact eq_DivI _ _ | exact eq_MulI _ _ | exact eq_SubI _ _ | exact (eq_Integer _).trans (congrArg _ (IK.eq (by decide)))) fun r=>?_)
  rfl
theorem eq_SinSeries (x : Iv) : I_SinSeries x = S_SinSeries x:=by
  unfold I_SinSeries S_SinSeries S_Whole
  simp only [bindP_eq,eq_InsideI,eq_Whole,eq_SqrI,eq_series2,eq_MulI,eq_AddI]
  rfl
theorem eq_CosSeries (x : Iv) : I_CosSeries x = S_CosSeries x:=by
  unfold I_CosSeries S_CosSeries S_Whole
  simp only [bindP_eq,eq_InsideI,eq_Whole,eq_SqrI,eq_series1,eq_MulI,eq_AddI]
  rfl
theorem Integer_val (c : I64) (h0 : -268435455 ≤ c.val) (h1 : c.val ≤ 268435455) : ∃ z : Iv,S_Integer c = z ∧ S_l04Ok z = true ∧ z.lo.val = c.val * 4294967296 ∧ z.hi.val = c.val * 4294967296:=by
  have h2 : S_l00In c (c64 (-268435455)) (c64 268435455) = true:=by
    rw [sp_in]
    simp only [Bool.and_eq_true,decide_eq_true_eq,c64_v]
    omega
  have e : (w64 (c.val * 4294967296)).val = c.val * 4294967296:=by rw [w64_val]; omega
  have hb : -1152921504606846976 < (w64 (c.val * 4294967296)).val ∧ (w64 (c.val * 4294967296)).val ≤ (w64 (c.val * 4294967296)).val ∧ (w64 (c.val * 4294967296)).val < 1152921504606846976:=by omega
  refine ⟨⟨w64 (c.val * 4294967296),w64 (c.val * 4294967296)⟩,?_,Ok4_of hb,e,e⟩
  unfold S_Integer
  simp only [bindP_eq,h2,Bool.not_true,cond_false]
  rw [Make_ok hb]
theorem factor_in (y s : Iv) (c : I64) (hc : 2 ≤ c.val) (hc2 : c.val ≤ 100000) (hy : S_l04Ok y = true) (hy0 : 0 ≤ y.lo.val) (hy1 : y.hi.val ≤ 4294967296) (hs : S_l04Ok s = true) (hs0 : 0 ≤ s.lo.val) (hs1 : s.hi.val ≤ 4294967296) :
    ∃ z : Iv,S_SubI (S_Integer (c64 1)) (S_MulI (S_DivI y (S_Integer c)) s) = z ∧ S_l04Ok z = true ∧ 0 ≤ z.lo.val ∧ z.hi.val ≤ 4294967296:=by
  obtain ⟨i1,e1,o1,l1,u1⟩:=Integer_val (c64 1) (by decide) (by decide)
  obtain ⟨ic,ec,oc,lc,uc⟩:=Integer_val c (by omega) (by omega)
  have yb:=Ok4 hy
  have sb:=Ok4 hs
  rw [e1,ec]
  obtain ⟨d,ed,od,d0,d1⟩:=DivI_in hy oc (by omega) (L:=0) (U:=2147483648) (by decide) (by decide) (by omega) (by omega) (by omega) (by omega)
  rw [ed]
  have db:=Ok4 od
  have key : ∀ p q : Int,0 ≤ p → p ≤ 2147483648 → 0 ≤ q → q ≤ 4294967296 → 0 * 4294967296 ≤ p * q ∧ p * q ≤ 2147483648 * 4294967296:=fun p q h1 h2 h3 h4=>
    ⟨by rw [Int.zero_mul]; exact Int.mul_nonneg h1 h3,Int.mul_le_mul h2 h4 h3 (by decide)⟩
  obtain ⟨m,em,om,m0,m1,_⟩:=MulI_in od hs (L:=0) (U:=2147483648) (by decide) (by decide) (key _ _ (by omega) (by omega) (by omega) (by omega)) (key _ _ (by omega) (by omega) (by omega) (by omega)) (key _ _ (by omega) (by omega) (by omega) (by omega)) (key _ _ (by omega) (by omega) (by omega) (by omega))
  rw [em]
  have mb:=Ok4 om
  rw [c64_val] at l1 u1
  have hb : -1152921504606846976 < (w64 (i1.lo.val - m.hi.val)).val ∧ (w64 (i1.lo.val - m.hi.val)).val ≤ (w64 (i1.hi.val - m.lo.val)).val ∧ (w64 (i1.hi.val - m.lo.val)).val < 1152921504606846976:=by simp only [w64_val]; omega
  refine ⟨⟨w64 (i1.lo.val - m.hi.val),w64 (i1.hi.val - m.lo.val)⟩,?_,Ok4_of hb,by show 0 ≤ (w64 _).val; rw [w64_val]; omega,by show (w64 _).val ≤ _; rw [w64_val]; omega⟩
  unfold S_SubI
  simp only [bindP_eq,o1,om,Bool.not_true,cond_false]
  rw [Make_ok hb]
def Unit01 (z : Iv) : Prop:=S_l04Ok z = true ∧ 0 ≤ z.lo.val ∧ z.hi.val ≤ 4294967296
theorem factor_unit {y s : Iv} (hy : Unit01 y) (hs : Unit01 s) {c : I64} (hc : 2 ≤ c.val ∧ c.val ≤ 100000) : Unit01 (S_SubI (S_Integer (c64 1)) (S_MulI (S_DivI y (S_Integer c)) s)):=by
  obtain ⟨z,e,h1,h2,h3⟩:=factor_in y s c hc.1 hc.2 hy.1 hy.2.1 hy.2.2 hs.1 hs.2.1 hs.2.2
  rw [e]
  exact ⟨h1,h2,h3⟩
theorem one_unit : Unit01 (S_Integer (c64 1)):=by
  obtain ⟨z,e,h1,h2,h3⟩:=Integer_val (c64 1) (by decide) (by decide)
  rw [c64_val] at h2 h3
  rw [e]
  exact ⟨h1,by omega,by omega⟩
theorem series_unit0 {y : Iv} (hy : Unit01 y) : Unit01 (S_l06Series y (c64 0)):=by
  unfold S_l06Series
  simp only [bindP_eq]
  refine factor_unit hy (factor_unit hy (factor_unit hy (factor_unit hy (factor_unit hy (factor_unit hy (factor_unit hy (factor_unit hy one_unit ?_) ?_) ?_) ?_) ?_) ?_) ?_) ?_ <;> decide
theorem series_unit1 {y : Iv} (hy : Unit01 y) : Unit01 (S_l06Series y (c64 (-1))):=by
  unfold S_l06Series
  simp only [bindP_eq]
  refine factor_unit hy (factor_unit hy (factor_unit hy (factor_unit hy (factor_unit hy (factor_unit hy (factor_unit hy (factor_unit hy one_unit ?_) ?_) ?_) ?_) ?_) ?_) ?_) ?_ <;> decide
theorem inside_ring {x : Iv} (h : S_InsideI x S_l06Ring = true) : S_l04Ok x = true ∧ -4294967296 ≤ x.lo.val ∧ x.hi.val ≤ 4294967296:=by
  have hr : S_l04Ok S_l06Ring = true:=by decide
  unfold S_InsideI at h
  simp only [bindP_eq,hr,Bool.not_true,cond_false] at h
  cases hx : S_l04Ok x with
  | false=>rw [hx] at h; cases h
  | true=>
    rw [hx] at h
    simp only [cond_true] at h
    have e1 : S_l06Ring.lo.val = -4294967296:=rfl
    have e2 : S_l06Ring.hi.val = 4294967296:=rfl
    rw [e1,e2] at h
    by_cases q : -4294967296 ≤ x.lo.val
    · simp only [q,decide_true,cond_true,decide_eq_true_eq] at h
      exact ⟨rfl,q,h⟩
    · simp only [q,decide_false,cond_false] at h
      cases h
theorem sqr_unit {x : Iv} (h : S_l04Ok x = true) (h0 : -4294967296 ≤ x.lo.val) (h1 : x.hi.val ≤ 4294967296) : Unit01 (S_SqrI x):=by
  have xb:=Ok4 h
  have key : ∀ p q : I64,0 ≤ p.val → p.val ≤ q.val → q.val ≤ 4294967296 → Unit01 (bif (!(S_l03MulDown p p).2) then S_l04Whole else bif (!(S_l03MulUp q q).2) then S_l04Whole else S_l04Make (S_l03MulDown p p).1 (S_l03MulUp q q).1):=fun p q a1 a2 a3=>by
    have s0 : 0 ≤ p.val * p.val:=Int.mul_nonneg a1 a1
    have s1 : p.val * p.val ≤ q.val * q.val:=Int.mul_le_mul a2 a2 a1 (by omega)
    have s2 : q.val * q.val ≤ 4294967296 * 4294967296:=Int.mul_le_mul a3 a3 (by omega) (by decide)
    obtain ⟨d,de,dv⟩:=MulDown_val (a:=p) (b:=p) (Ok3_of (by omega) (by omega)) (Ok3_of (by omega) (by omega)) (by omega) (by omega)
    obtain ⟨u,ue,uv⟩:=MulUp_val (a:=q) (b:=q) (Ok3_of (by omega) (by omega)) (Ok3_of (by omega) (by omega)) (by omega) (by omega)
    rw [de,ue]
    simp only [Bool.not_true,cond_false]
    have hb : -1152921504606846976 < d.val ∧ d.val ≤ u.val ∧ u.val < 1152921504606846976:=by omega
    rw [Make_ok hb]
    exact ⟨Ok4_of hb,by show 0 ≤ d.val; omega,by show u.val ≤ 4294967296; omega⟩
  unfold S_SqrI S_l04Ends S_l04Has
  simp only [bindP_eq,h,Bool.not_true,cond_false,eq_mn,eq_mx,sp_in,c64_v]
  have e1 : (w64 (0 - x.lo.val)).val = -x.lo.val:=by rw [w64_val]; omega
  have e2 : (w64 (0 - x.hi.val)).val = -x.hi.val:=by rw [w64_val]; omega
  have m1:=mx_spec x.lo (w64 (0 - x.lo.val))
  have m2:=mx_spec x.hi (w64 (0 - x.hi.val))
  rw [e1] at m1
  rw [e2] at m2
  generalize mx x.lo (w64 (0 - x.lo.val)) = p at *
  generalize mx x.hi (w64 (0 - x.hi.val)) = q at *
  have n1:=mx_spec p q
  have n2:=mn_spec p q
  cases (decide (x.lo.val ≤ 0) && decide (0 ≤ x.hi.val)) with
  | true=>
    simp only [cond_true]
    exact key (c64 0) (mx p q) (by rw [c64_val]; omega) (by rw [c64_val]; omega) (by omega)
  | false=>
    simp only [cond_false]
    exact key (mn p q) (mx p q) (by omega) (by omega) (by omega)
def Near (x : Iv) : Prop:=S_l04Ok x = true → x.lo.val ≤ 4294967296 ∧ -4294967296 ≤ x.hi.val
theorem meet_near {x : Iv} (h : Near x) : (S_MeetI x S_l06Ring).2 = true:=by
  have hr : S_l04Ok S_l06Ring = true:=by decide
  unfold S_MeetI
  simp only [bindP_eq,hr,eq_mn,eq_mx,Bool.not_true,cond_false]
  cases hx : S_l04Ok x with
  | false=>rfl
  | true=>
    obtain ⟨h1,h2⟩:=h hx
    have xb:=Ok4 hx
    have m:=mx_spec x.lo S_l06Ring.lo
    have n:=mn_spec x.hi S_l06Ring.hi
    have e1 : S_l06Ring.lo.val = -4294967296:=rfl
    have e2 : S_l06Ring.hi.val = 4294967296:=rfl
    rw [e1] at m
    rw [e2] at n
    have : decide ((mx x.lo S_l06Ring.lo).val > (mn x.hi S_l06Ring.hi).val) = false:=decide_eq_false (by omega)
    simp only [this,Bool.not_true,cond_false]
theorem near_whole : Near S_l04Whole:=fun h=>absurd h (by decide)
theorem near_neg {x : Iv} (h : Near x) : Near (S_NegI x):=by
  unfold S_NegI
  simp only [bindP_eq]
  cases hx : S_l04Ok x with
  | false=>exact near_whole
  | true=>
    obtain ⟨h1,h2⟩:=h hx
    have xb:=Ok4 hx
    simp only [Bool.not_true,cond_false]
    rw [Make_ok (by simp only [w64_val]; omega)]
    intro _
    simp only [w64_val]
    omega
theorem near_tiny {x : Iv} (h : S_l04Ok x = true) (h0 : -4294967296 ≤ x.lo.val) (h1 : x.hi.val ≤ 4294967296) : Near (S_AddI x S_l06Tiny):=by
  have ht : S_l04Ok S_l06Tiny = true:=by decide
  have e1 : S_l06Tiny.lo.val = -1:=rfl
  have e2 : S_l06Tiny.hi.val = 1:=rfl
  have xb:=Ok4 h
  unfold S_AddI
  simp only [bindP_eq,h,ht,e1,e2,Bool.not_true,cond_false]
  rw [Make_ok (by simp only [w64_val]; omega)]
  intro _
  simp only [w64_val]
  omega
theorem near_sin (x : Iv) : Near (S_SinSeries x):=by
  unfold S_SinSeries S_Whole
  simp only [bindP_eq]
  cases hi : S_InsideI x S_l06Ring with
  | false=>exact near_whole
  | true=>
    obtain ⟨h1,h2,h3⟩:=inside_ring hi
    have xb:=Ok4 h1
    have su:=series_unit0 (sqr_unit h1 h2 h3)
    have sb:=Ok4 su.1
    have key : ∀ p q : Int,-4294967296 ≤ p → p ≤ 4294967296 → 0 ≤ q → q ≤ 4294967296 → -4294967296 * 4294967296 ≤ p * q ∧ p * q ≤ 4294967296 * 4294967296:=fun p q a1 a2 a3 a4=>by
      have b1 : p * q ≤ 4294967296 * q:=Int.mul_le_mul_of_nonneg_right a2 a3
      have b2 : -4294967296 * q ≤ p * q:=Int.mul_le_mul_of_nonneg_right a1 a3
      omega
    obtain ⟨m,em,om,m0,m1,_⟩:=MulI_in h1 su.1 (L:=-4294967296) (U:=4294967296) (by decide) (by decide) (key _ _ (by omega) (by omega) su.2.1 (by have:=su.2.2; omega)) (key _ _ (by omega) (by omega) (by have:=su.2.1; omega) su.2.2) (key _ _ (by omega) (by omega) su.2.1 (by have:=su.2.2; omega)) (key _ _ (by omega) (by omega) (by have:=su.2.1; omega) su.2.2)
    simp only [Bool.not_true,cond_false]
    rw [em]
    exact near_tiny om m0 m1
theorem near_cos (x : Iv) : Near (S_CosSeries x):=by
  unfold S_CosSeries S_Whole
  simp only [bindP_eq]
  cases hi : S_InsideI x S_l06Ring with
  | false=>exact near_whole
  | true=>
    obtain ⟨h1,h2,h3⟩:=inside_ring hi
    have su:=series_unit1 (sqr_unit h1 h2 h3)
    simp only [Bool.not_true,cond_false]
    exact near_tiny su.1 (by have:=su.2.1; omega) su.2.2
theorem eq_inRing {x : Iv} (h : Near x) : I_inRing x = S_l06Meet x:=by
  unfold I_inRing S_l06Meet
  simp only [bindP_eq,eq_MeetI]
  have e : I_ring = S_l06Ring:=rfl
  rw [e,meet_near h]
  rfl
theorem eq_circleValue (n k : I64) : I_circleValue n k = S_l06At n k:=by
  unfold I_circleValue S_l06At I_isAngle S_l06Angle
  have e : I_ring = S_l06Ring:=rfl
  have e2 : ∀ m,I_at m = S_l05At m:=fun _=>rfl
  simp only [bindP_eq,eq_in,eq_QuarterOf,eq_TurnI,e,e2,eq_SubI,eq_SinSeries,eq_CosSeries,eq_NegI,eq_inRing (near_sin _),eq_inRing (near_cos _),eq_inRing (near_neg (near_sin _)),eq_inRing (near_neg (near_cos _))]
def addTurn (t k : I64) (y : Iv) : Iv:=bif ((iand .i64 (w64 (k.val + t.val)).val 3).val == 1) then S_HullI y (S_Integer (c64 1)) else (bif ((iand .i64 (w64 (k.val + t.val)).val 3).val == 3) then S_HullI y (S_Integer (c64 (-1))) else y)
theorem hull_fold (t : I64) (L : List I64) (a0 : Iv) (hL : L.length ≤ 4000) : ∀ (fu : Nat) (i : I64) (y : Iv),0 ≤ i.val → ((L.length : Int) - i.val).toNat < fu → I_circleHull_L0 fu t L a0 i y = (L.drop i.val.toNat).foldl (fun y k=>addTurn t k y) y:=by
  intro fu
  induction fu with
  | zero=>intro i y _ h; exact absurd h (Nat.not_lt_zero _)
  | succ fu ih=>
    intro i y hi hf
    unfold I_circleHull_L0
    by_cases h : i.val < (L.length : Int)
    · have h' : i.val.toNat < L.length:=by omega
      have ei : (w64 (i.val + 1)).val = i.val + 1:=by rw [w64_val]; omega
      have hk : L.drop i.val.toNat = listAt L i :: L.drop (i.val.toNat + 1):=by
        rw [List.drop_eq_getElem_cons h']
        unfold listAt
        simp [List.getD,List.getElem?_eq_getElem h']
      have hn : (w64 (i.val + 1)).val.toNat = i.val.toNat + 1:=by rw [ei]; omega
      have ih':=fun y=>ih (w64 (i.val + 1)) y (by omega) (by omega)
      rw [hn] at ih'
      rw [hk,List.foldl_cons]
      simp only [h,decide_true,cond_t,bindP_e,eq_Integer,eq_HullI,ih']
      unfold addTurn
      generalize listAt L i = k
      cases ((iand .i64 (w64 (k.val + t.val)).val 3).val == 1)
      · rw [cond_f,cond_f]
        cases ((iand .i64 (w64 (k.val + t.val)).val 3).val == 3)
        · rw [cond_f,cond_f]
        · rw [cond_t,cond_t]
      · rw [cond_t,cond_t]
    · have : L.drop i.val.toNat = []:=List.drop_eq_nil_of_le (by omega)
      rw [this]
      simp only [h,decide_false,cond_f,List.foldl_nil]
theorem turns_acc (a0 : Iv) : ∀ (fu : Nat) (k : I64) (acc : List I64),I_turnsIn_L0 fu a0 k acc = acc ++ I_turnsIn_L0 fu a0 k []:=by
  intro fu
  induction fu with
  | zero=>intro k acc; unfold I_turnsIn_L0; simp
  | succ fu ih=>
    intro k acc
    unfold I_turnsIn_L0
    simp only [bindP_e]
    cases decide (k.val ≤ (w64 ((I_QuarterOf a0.hi).val + 1)).val)
    · rw [cond_f,cond_f]; simp
    · rw [cond_t,cond_t]
      cases I_OverlapI (I_TurnI k) a0
      · rw [cond_f,cond_f]; exact ih _ _
      · rw [cond_t,cond_t,ih _ (acc ++ [k]),ih _ ([] ++ [k])]; simp
theorem over_fold (t : I64) (a0 : Iv) : ∀ (fu : Nat) (k : I64) (y : Iv),-1100 ≤ k.val → (2000 - k.val).toNat < fu → (I_turnsIn_L0 fu a0 k []).foldl (fun y k=>addTurn t k y) y = S_l06Over_L0 fu t a0 k y:=by
  intro fu
  induction fu with
  | zero=>intro k y _ h; exact absurd h (Nat.not_lt_zero _)
  | succ fu ih=>
    intro k y hk hf
    have qb:=spec_quarter_bounds a0.hi
    unfold I_turnsIn_L0 S_l06Over_L0
    simp only [bindP_e,eq_QuarterOf,eq_TurnI,eq_OverlapI]
    generalize S_QuarterOf a0.hi = q at *
    by_cases h : k.val ≤ (w64 (q.val + 1)).val
    · have h':=h
      rw [w64_val] at h'
      have ek : (w64 (k.val + 1)).val = k.val + 1:=by rw [w64_val]; omega
      have ih':=fun y=>ih (w64 (k.val + 1)) y (by omega) (by omega)
      simp only [h,decide_true,cond_t]
      cases S_OverlapI (S_TurnI k) a0
      · simp only [cond_f,Bool.not_false,cond_t]
        exact ih' y
      · simp only [cond_t,Bool.not_true,cond_f]
        rw [turns_acc,List.nil_append,List.foldl_append,List.foldl_cons,List.foldl_nil,ih']
        unfold addTurn
        cases ((iand .i64 (w64 (k.val + t.val)).val 3).val == 1)
        · rw [cond_f,cond_f]
          cases ((iand .i64 (w64 (k.val + t.val)).val 3).val == 3)
          · rw [cond_f,cond_f]
          · rw [cond_t,cond_t]
        · rw [cond_t,cond_t]
    · simp only [h,decide_false,cond_f,List.foldl_nil]
theorem eq_areAngles (a : Iv) : I_areAngles a = S_l06Fits a:=by
  unfold I_areAngles S_l06Fits I_isAngle S_l06Angle S_ValidInterval
  simp only [bindP_e,eq_in,eq_Valid]
theorem turns_len (a0 : Iv) : ∀ (fu : Nat) (k : I64),(I_turnsIn_L0 fu a0 k []).length ≤ fu:=by
  intro fu
  induction fu with
  | zero=>intro k; unfold I_turnsIn_L0; exact Nat.le_refl _
  | succ fu ih=>
    intro k
    unfold I_turnsIn_L0
    simp only [bindP_e]
    have h1:=ih (w64 (k.val + 1))
    cases decide (k.val ≤ (w64 ((I_QuarterOf a0.hi).val + 1)).val)
    · rw [cond_f]; simp
    · rw [cond_t]
      cases I_OverlapI (I_TurnI k) a0
      · rw [cond_f]; omega
      · rw [cond_t,turns_acc]
        simp only [List.nil_append,List.length_append,List.length_cons,List.length_nil]
        omega
theorem eq_circleHull (a : Iv) (t : I64) : I_circleHull a t = S_l06Over a t:=by
  have qb:=spec_quarter_bounds a.lo
  unfold I_circleHull S_l06Over I_turnsIn
  simp only [bindP_e,eq_areAngles,eq_circleValue,eq_HullI,eq_QuarterOf]
  cases S_l06Fits a
  · simp only [Bool.not_false,cond_t]; exact Eq.trans rfl rfl
  · simp only [Bool.not_true,cond_f]
    generalize S_QuarterOf a.lo = q at *
    have ek : (w64 (q.val - 1)).val = q.val - 1:=by rw [w64_val]; omega
    have hl:=turns_len a ((2000 - (w64 (q.val - 1)).val).toNat + 1) (w64 (q.val - 1))
    rw [hull_fold t _ a (by omega) _ _ _ (by rw [c64_v]; omega) (by rw [c64_v]; omega)]
    have e0 : (c64 0).val.toNat = 0:=by rw [c64_v]; rfl
    rw [e0,List.drop_zero]
    exact over_fold t a _ _ _ (by omega) (by omega)
theorem eq_SinI (a : Iv) : I_SinI a = S_SinI a:=by
  unfold I_SinI S_SinI
  simp only [bindP_e,eq_circleHull]
theorem quarter_hi : I_quarter = (S_l05Turn (c64 1)).hi:=by
  unfold I_quarter
  rw [bindP_e,eq_TurnI]
  rfl
theorem eq_halfCircle : I_halfCircle = S_l07Quarter:=by
  unfold I_halfCircle S_l07Quarter
  have e : I_TurnI (c64 1) = S_l05Turn (c64 1):=by rw [eq_TurnI]; rfl
  simp only [bindP_e,e]
end Go.Proofs.YtfhnlkinjbakgaaGreat.Abs
