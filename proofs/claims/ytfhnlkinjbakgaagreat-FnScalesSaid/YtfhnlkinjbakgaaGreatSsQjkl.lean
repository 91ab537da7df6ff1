/- Plain laws of the functions on numbers: what the program computes is what the reference computes. -/
import Derived.Test.YtfhnlkinjbakgaaGreatSsQghi
import Derived.Test.YtfhnlkinjbakgaaGreatSsFx
set_option linter.unusedVariables false
set_option linter.unusedSimpArgs false
namespace Go.Proofs.YtfhnlkinjbakgaaGreat.Abs
open Go
theorem Yn (w : Wd) (h1 : -9223372036854775808 ≤ w.z) (h2 : w.z ≤ 9223372036854775807) : ∃ n : Aq,n.val = w.z ∧ Ke w = (n,true):=by
  have a1:=w.lo.lo
  have a2:=w.lo.hi
  have hz : w.z = w.hi.val * 18446744073709551616 + w.lo.val:=rfl
  refine ⟨An w.lo.val,by rw [Ad]; omega,?_⟩
  unfold Ke I5
  simp only [Bp]
  by_cases hn : (An w.lo.val).val < 0
  · simp only [hn,decide_true,cond_true,Aj,At]
    rw [Ad] at hn
    have e1 : ((-1 : Int) == w.hi.val) = true:=by simp; omega
    have e2 : ((An w.lo.val).val % 18446744073709551616 == w.lo.val) = true:=by rw [Ad]; simp; omega
    simp only [e1,e2]
    rfl
  · simp only [hn,decide_false,cond_false,Aj,At]
    rw [Ad] at hn
    have e1 : ((0 : Int) == w.hi.val) = true:=by simp; omega
    have e2 : ((An w.lo.val).val % 18446744073709551616 == w.lo.val) = true:=by rw [Ad]; simp; omega
    simp only [e1,e2]
    rfl
theorem jX (k : IntKind) (x y : Int) : Qg k x y = Qg k y x:=by
  unfold Qg
  refine IK.eq ?_
  show k.wrap _ = k.wrap _
  rw [BitVec.or_comm]
theorem Zg (w : Wd) : (D9 w (Ah 32)).z = w.z / 4294967296:=by
  have a1:=w.lo.lo
  have a2:=w.lo.hi
  unfold D9
  have e0 : ((Ah 32).val == 0) = false:=by decide
  have e1 : decide ((Ah 32).val < 64) = true:=by decide
  have e2 : (Ak (Ah 32).val).val = 32:=by decide
  have e3 : (Ak (An (64 - (Ah 32).val)).val).val = 32:=by decide
  simp only [e0,e1,e2,e3,cond_true,cond_false]
  have s1 : (Ck w.hi 32).val = w.hi.val / 4294967296:=by rw [F2,Int.fdiv_eq_ediv_of_nonneg _ (by decide)]; rfl
  have s2 : (Ck w.lo 32).val = w.lo.val / 4294967296:=xQ w.lo
  have s3 : (Ci .u64 (Ak w.hi.val).val 32).val = (w.hi.val % 18446744073709551616 * 4294967296) % 18446744073709551616:=by
    show IntKind.u64.wrap ((Ak w.hi.val).val * 2 ^ 32) = _
    rw [IntKind.wrap_u64,At]
    rfl
  have s4 : (Qg .u64 (Ck w.lo 32).val (Ci .u64 (Ak w.hi.val).val 32).val).val = (w.hi.val % 18446744073709551616 * 4294967296) % 18446744073709551616 + w.lo.val / 4294967296:=by
    rw [jX,s2,s3]
    exact Xy 32 _ _ (by omega) (by omega) (by rw [show (2 : Int) ^ 32 = 4294967296 by decide]; omega) (by omega) (by rw [show (2 : Int) ^ 32 = 4294967296 by decide]; omega) (by decide)
  show (Ck w.hi 32).val * 18446744073709551616 + (Qg .u64 (Ck w.lo 32).val (Ci .u64 (Ak w.hi.val).val 32).val).val = (w.hi.val * 18446744073709551616 + w.lo.val) / 4294967296
  rw [s1,s4]
  omega
theorem Abt (w : Wd) : (D9 w (Ah 30)).z = w.z / 1073741824:=by
  have a1:=w.lo.lo
  have a2:=w.lo.hi
  unfold D9
  have e0 : ((Ah 30).val == 0) = false:=by decide
  have e1 : decide ((Ah 30).val < 64) = true:=by decide
  have e2 : (Ak (Ah 30).val).val = 30:=by decide
  have e3 : (Ak (An (64 - (Ah 30).val)).val).val = 34:=by decide
  simp only [e0,e1,e2,e3,cond_true,cond_false]
  have s1 : (Ck w.hi 30).val = w.hi.val / 1073741824:=by rw [F2,Int.fdiv_eq_ediv_of_nonneg _ (by decide)]; rfl
  have s2 : (Ck w.lo 30).val = w.lo.val / 1073741824:=by rw [F2,Int.fdiv_eq_ediv_of_nonneg _ (by decide)]; rfl
  have s3 : (Ci .u64 (Ak w.hi.val).val 34).val = (w.hi.val % 18446744073709551616 * 17179869184) % 18446744073709551616:=by
    show IntKind.u64.wrap ((Ak w.hi.val).val * 2 ^ 34) = _
    rw [IntKind.wrap_u64,At]
    rfl
  have s4 : (Qg .u64 (Ck w.lo 30).val (Ci .u64 (Ak w.hi.val).val 34).val).val = (w.hi.val % 18446744073709551616 * 17179869184) % 18446744073709551616 + w.lo.val / 1073741824:=by
    rw [jX,s2,s3]
    exact Xy 34 _ _ (by omega) (by omega) (by rw [show (2 : Int) ^ 34 = 17179869184 by decide]; omega) (by omega) (by rw [show (2 : Int) ^ 34 = 17179869184 by decide]; omega) (by decide)
  show (Ck w.hi 30).val * 18446744073709551616 + (Qg .u64 (Ck w.lo 30).val (Ci .u64 (Ak w.hi.val).val 34).val).val = (w.hi.val * 18446744073709551616 + w.lo.val) / 1073741824
  rw [s1,s4]
  omega
theorem Nt {a : Aq} (h1 : -1152921504606846976 ≤ a.val) (h2 : a.val ≤ 1152921504606846976) : B7 a = true:=by
  rw [V7]; simp [h1,h2]
theorem Pc {a b : Aq} (ha : B7 a = true) (hb : B7 b = true) (h1 : -1152921504606846976 ≤ a.val * b.val / 4294967296) (h2 : a.val * b.val / 4294967296 ≤ 1152921504606846976) :
    ∃ r : Aq,Bb a b = (r,true) ∧ r.val = a.val * b.val / 4294967296:=by
  have hz : (D9 (A3 a b) (Ah 32)).z = a.val * b.val / 4294967296:=by rw [Zg,Jh]
  obtain ⟨n,e1,e2⟩:=Yn (D9 (A3 a b) (Ah 32)) (by rw [hz]; omega) (by rw [hz]; omega)
  refine ⟨n,?_,by rw [e1,hz]⟩
  have hn : B7 n = true:=Nt (by rw [e1,hz]; exact h1) (by rw [e1,hz]; exact h2)
  unfold Bb Ei Fu
  have e3 : Bz (Ah 32) (Ah 0) (Ah 126) = true:=by decide
  simp only [Bp,ha,hb,e2,e3,hn,Bool.not_true,cond_false]
theorem Vv {a b : Aq} (ha : B7 a = true) (hb : B7 b = true) (h1 : -1152921504606846976 ≤ -(-(a.val * b.val) / 4294967296)) (h2 : -(-(a.val * b.val) / 4294967296) ≤ 1152921504606846976) :
    ∃ r : Aq,Ca a b = (r,true) ∧ r.val = -(-(a.val * b.val) / 4294967296):=by
  have ha':=ha
  rw [V7] at ha'
  simp only [Bool.and_eq_true,decide_eq_true_eq] at ha'
  have en : (An (0 - a.val)).val = -a.val:=by rw [Ad]; omega
  obtain ⟨r,e1,e2⟩:=Pc (a:=An (0 - a.val)) (b:=b) (Nt (by omega) (by omega)) hb (by rw [en,Int.neg_mul]; omega) (by rw [en,Int.neg_mul]; omega)
  rw [en,Int.neg_mul] at e2
  refine ⟨An (0 - r.val),?_,by rw [Ad]; omega⟩
  unfold Ca
  simp only [Bp,e1,ha,Bool.not_true,cond_false]
theorem Od (a b : Aq) : (mn a b).val ≤ a.val ∧ (mn a b).val ≤ b.val ∧ ((mn a b).val = a.val ∨ (mn a b).val = b.val):=by
  rw [p7]; split <;> omega
theorem I3 (a b : Aq) : a.val ≤ (mx a b).val ∧ b.val ≤ (mx a b).val ∧ ((mx a b).val = a.val ∨ (mx a b).val = b.val):=by
  rw [oY]; split <;> omega
theorem q8 {a : Iv} (h : Am a = true) : B7 a.lo = true:=by
  obtain ⟨h1,h2,h3⟩:=Xi h
  exact Nt (by omega) (by omega)
theorem q9 {a : Iv} (h : Am a = true) : B7 a.hi = true:=by
  obtain ⟨h1,h2,h3⟩:=Xi h
  exact Nt (by omega) (by omega)
theorem gU {x y : Iv} (hx : Am x = true) (hy : Am y = true) {L U : Int} (hL : -1152921504606846976 < L) (hU : U < 1152921504606846976)
    (p1 : L * 4294967296 ≤ x.lo.val * y.lo.val ∧ x.lo.val * y.lo.val ≤ U * 4294967296) (p2 : L * 4294967296 ≤ x.lo.val * y.hi.val ∧ x.lo.val * y.hi.val ≤ U * 4294967296)
    (p3 : L * 4294967296 ≤ x.hi.val * y.lo.val ∧ x.hi.val * y.lo.val ≤ U * 4294967296) (p4 : L * 4294967296 ≤ x.hi.val * y.hi.val ∧ x.hi.val * y.hi.val ≤ U * 4294967296) :
    ∃ z : Iv,Ay x y = z ∧ Am z = true ∧ L ≤ z.lo.val ∧ z.hi.val ≤ U ∧ (z.lo.val * 4294967296 ≤ x.lo.val * y.lo.val ∧ x.lo.val * y.lo.val ≤ z.hi.val * 4294967296) ∧ (z.lo.val * 4294967296 ≤ x.lo.val * y.hi.val ∧ x.lo.val * y.hi.val ≤ z.hi.val * 4294967296)
      ∧ (z.lo.val * 4294967296 ≤ x.hi.val * y.lo.val ∧ x.hi.val * y.lo.val ≤ z.hi.val * 4294967296) ∧ (z.lo.val * 4294967296 ≤ x.hi.val * y.hi.val ∧ x.hi.val * y.hi.val ≤ z.hi.val * 4294967296):=by
  have k1:=q8 hx
  have k2:=q9 hx
  have k3:=q8 hy
  have k4:=q9 hy
  obtain ⟨d1,d1e,d1v⟩:=Pc k1 k3 (by omega) (by omega)
  obtain ⟨d2,d2e,d2v⟩:=Pc k1 k4 (by omega) (by omega)
  obtain ⟨d3,d3e,d3v⟩:=Pc k2 k3 (by omega) (by omega)
  obtain ⟨d4,d4e,d4v⟩:=Pc k2 k4 (by omega) (by omega)
  obtain ⟨u1,u1e,u1v⟩:=Vv k1 k3 (by omega) (by omega)
  obtain ⟨u2,u2e,u2v⟩:=Vv k1 k4 (by omega) (by omega)
  obtain ⟨u3,u3e,u3v⟩:=Vv k2 k3 (by omega) (by omega)
  obtain ⟨u4,u4e,u4v⟩:=Vv k2 k4 (by omega) (by omega)
  generalize x.lo.val * y.lo.val = q1 at *
  generalize x.lo.val * y.hi.val = q2 at *
  generalize x.hi.val * y.lo.val = q3 at *
  generalize x.hi.val * y.hi.val = q4 at *
  have m0:=Od (Ah 1152921504606846976) d1
  have m1:=Od (mn (Ah 1152921504606846976) d1) d2
  have m2:=Od (mn (mn (Ah 1152921504606846976) d1) d2) d3
  have m3:=Od (mn (mn (mn (Ah 1152921504606846976) d1) d2) d3) d4
  have n0:=I3 (Ah (-1152921504606846976)) u1
  have n1:=I3 (mx (Ah (-1152921504606846976)) u1) u2
  have n2:=I3 (mx (mx (Ah (-1152921504606846976)) u1) u2) u3
  have n3:=I3 (mx (mx (mx (Ah (-1152921504606846976)) u1) u2) u3) u4
  rw [Aj] at m0 n0
  unfold Ay
  simp only [Bp,hx,hy,d1e,d2e,d3e,d4e,u1e,u2e,u3e,u4e,Bool.not_true,cond_false,Z8,Z7]
  generalize mn (mn (mn (mn (Ah 1152921504606846976) d1) d2) d3) d4 = M at *
  generalize mx (mx (mx (mx (Ah (-1152921504606846976)) u1) u2) u3) u4 = N at *
  have hb : -1152921504606846976 < M.val ∧ M.val ≤ N.val ∧ N.val < 1152921504606846976:=by omega
  rw [Fc hb]
  refine ⟨_,rfl,I7 hb,?_,?_,?_,?_,?_,?_⟩
  all_goals (try simp only)
  all_goals omega
theorem Rz {a b : Aq} (ha : B7 a = true) (hb : B7 b = true) (h0 : 0 < b.val) (h1 : -1152921504606846976 ≤ a.val * 4294967296 / b.val) (h2 : a.val * 4294967296 / b.val ≤ 1152921504606846976) :
    ∃ r : Aq,Bl a b = (r,true) ∧ r.val = a.val * 4294967296 / b.val:=by
  have ha':=ha
  rw [V7] at ha'
  simp only [Bool.and_eq_true,decide_eq_true_eq] at ha'
  have hm : (A3 a (Ah 4294967296)).z = a.val * 4294967296:=by rw [Jh,Aj]
  obtain ⟨s1,s2,s3⟩:=nS (A3 a (Ah 4294967296)) b h0 (by rw [hm]; omega) (by rw [hm]; omega)
  rw [hm] at s1
  have hq : (Ha (A3 a (Ah 4294967296)) b).1.z = a.val * 4294967296 / b.val:=by
    generalize (Ha (A3 a (Ah 4294967296)) b).1.z = q at *
    generalize (Ha (A3 a (Ah 4294967296)) b).2.val = r at *
    rw [← s1,Int.mul_comm q,Int.add_comm,Int.add_mul_ediv_left _ _ (by omega),Int.ediv_eq_zero_of_lt s2 s3,Int.zero_add]
  obtain ⟨n,e1,e2⟩:=Yn (Ha (A3 a (Ah 4294967296)) b).1 (by rw [hq]; omega) (by rw [hq]; omega)
  refine ⟨n,?_,by rw [e1,hq]⟩
  have hn : B7 n = true:=Nt (by rw [e1,hq]; exact h1) (by rw [e1,hq]; exact h2)
  unfold Bl Ds Fu
  have e3 : (b.val == 0) = false:=by simp; omega
  have e4 : decide (b.val < 0) = false:=by simp; omega
  have e5 : decide (b.val ≤ 0) = false:=by simp; omega
  simp only [Bp,ha,hb,e2,e3,e4,e5,hn,Bool.not_true,cond_false]
theorem Zm {a b : Aq} (ha : B7 a = true) (hb : B7 b = true) (h0 : 0 < b.val) (h1 : -1152921504606846976 ≤ -(-(a.val * 4294967296) / b.val)) (h2 : -(-(a.val * 4294967296) / b.val) ≤ 1152921504606846976) :
    ∃ r : Aq,Cj a b = (r,true) ∧ r.val = -(-(a.val * 4294967296) / b.val):=by
  have ha':=ha
  rw [V7] at ha'
  simp only [Bool.and_eq_true,decide_eq_true_eq] at ha'
  have en : (An (0 - a.val)).val = -a.val:=by rw [Ad]; omega
  obtain ⟨r,e1,e2⟩:=Rz (a:=An (0 - a.val)) (b:=b) (Nt (by omega) (by omega)) hb h0 (by rw [en,Int.neg_mul]; omega) (by rw [en,Int.neg_mul]; omega)
  rw [en,Int.neg_mul] at e2
  refine ⟨An (0 - r.val),?_,by rw [Ad]; omega⟩
  unfold Cj
  simp only [Bp,e1,ha,Bool.not_true,cond_false]
theorem kT {q b L U : Int} (hb : 0 < b) (h1 : L * b ≤ q) (h2 : q ≤ U * b) : L ≤ q / b ∧ q / b ≤ U ∧ L ≤ -(-q / b) ∧ -(-q / b) ≤ U ∧ q / b ≤ -(-q / b) ∧ q / b * b ≤ q ∧ q ≤ -(-q / b) * b:=by
  have a1 : L ≤ q / b:=Int.le_ediv_of_mul_le hb h1
  have a2 : -q / b * b ≤ -q:=Int.ediv_mul_le _ (by omega)
  have a3 : q / b * b ≤ q:=Int.ediv_mul_le _ (by omega)
  have a4 : -U ≤ -q / b:=Int.le_ediv_of_mul_le hb (by rw [Int.neg_mul]; omega)
  have a5 : q / b ≤ -(-q / b):=by
    have : q / b * b ≤ -(-q / b) * b:=by rw [Int.neg_mul]; omega
    exact Int.le_of_mul_le_mul_right this hb
  refine ⟨a1,?_,by omega,by omega,a5,a3,by rw [Int.neg_mul]; omega⟩
  have : q / b * b ≤ U * b:=by omega
  exact Int.le_of_mul_le_mul_right this hb
theorem qA {x y : Iv} (hx : Am x = true) (hy : Am y = true) (h0 : 0 < y.lo.val) {L U : Int} (hL : -1152921504606846976 < L) (hU : U < 1152921504606846976)
    (p1 : L * y.lo.val ≤ x.lo.val * 4294967296 ∧ x.lo.val * 4294967296 ≤ U * y.lo.val) (p2 : L * y.hi.val ≤ x.lo.val * 4294967296 ∧ x.lo.val * 4294967296 ≤ U * y.hi.val)
    (p3 : L * y.lo.val ≤ x.hi.val * 4294967296 ∧ x.hi.val * 4294967296 ≤ U * y.lo.val) (p4 : L * y.hi.val ≤ x.hi.val * 4294967296 ∧ x.hi.val * 4294967296 ≤ U * y.hi.val) :
    ∃ z : Iv,A4 x y = z ∧ Am z = true ∧ L ≤ z.lo.val ∧ z.hi.val ≤ U:=by
  have k1:=q8 hx
  have k2:=q9 hx
  have k3:=q8 hy
  have k4:=q9 hy
  have hyb:=Xi hy
  have h0' : 0 < y.hi.val:=by omega
  have i1:=kT h0 p1.1 p1.2
  have i2:=kT h0' p2.1 p2.2
  have i3:=kT h0 p3.1 p3.2
  have i4:=kT h0' p4.1 p4.2
  obtain ⟨d1,d1e,d1v⟩:=Rz k1 k3 h0 (by omega) (by omega)
  obtain ⟨d2,d2e,d2v⟩:=Rz k1 k4 h0' (by omega) (by omega)
  obtain ⟨d3,d3e,d3v⟩:=Rz k2 k3 h0 (by omega) (by omega)
  obtain ⟨d4,d4e,d4v⟩:=Rz k2 k4 h0' (by omega) (by omega)
  obtain ⟨u1,u1e,u1v⟩:=Zm k1 k3 h0 (by omega) (by omega)
  obtain ⟨u2,u2e,u2v⟩:=Zm k1 k4 h0' (by omega) (by omega)
  obtain ⟨u3,u3e,u3v⟩:=Zm k2 k3 h0 (by omega) (by omega)
  obtain ⟨u4,u4e,u4v⟩:=Zm k2 k4 h0' (by omega) (by omega)
  rw [← d1v,← u1v] at i1
  rw [← d2v,← u2v] at i2
  rw [← d3v,← u3v] at i3
  rw [← d4v,← u4v] at i4
  have m0:=Od (Ah 1152921504606846976) d1
  have m1:=Od (mn (Ah 1152921504606846976) d1) d2
  have m2:=Od (mn (mn (Ah 1152921504606846976) d1) d2) d3
  have m3:=Od (mn (mn (mn (Ah 1152921504606846976) d1) d2) d3) d4
  have n0:=I3 (Ah (-1152921504606846976)) u1
  have n1:=I3 (mx (Ah (-1152921504606846976)) u1) u2
  have n2:=I3 (mx (mx (Ah (-1152921504606846976)) u1) u2) u3
  have n3:=I3 (mx (mx (mx (Ah (-1152921504606846976)) u1) u2) u3) u4
  rw [Aj] at m0 n0
  have hh : I1 y (Ah 0) = false:=by
    unfold I1
    simp only [Bp,Gk]
    have : ¬ y.lo.val ≤ (Ah 0).val:=by rw [Aj]; omega
    simp only [this,decide_false,Bool.false_and]
  unfold A4
  simp only [Bp,hx,hy,hh,d1e,d2e,d3e,d4e,u1e,u2e,u3e,u4e,Bool.not_true,cond_false,Z8,Z7]
  generalize mn (mn (mn (mn (Ah 1152921504606846976) d1) d2) d3) d4 = M at *
  generalize mx (mx (mx (mx (Ah (-1152921504606846976)) u1) u2) u3) u4 = N at *
  have hb : -1152921504606846976 < M.val ∧ M.val ≤ N.val ∧ N.val < 1152921504606846976:=by
    obtain ⟨a1,a2,a3,a4,a5,_⟩:=i1
    obtain ⟨b1,b2,b3,b4,b5,_⟩:=i2
    obtain ⟨c1,c2,c3,c4,c5,_⟩:=i3
    obtain ⟨e1,e2,e3,e4,e5,_⟩:=i4
    clear d1v d2v d3v d4v u1v u2v u3v u4v p1 p2 p3 p4
    omega
  rw [Fc hb]
  refine ⟨_,rfl,I7 hb,?_,?_⟩
  all_goals (try simp only)
  all_goals (obtain ⟨a1,a2,a3,a4,a5,_⟩:=i1; obtain ⟨b1,b2,b3,b4,b5,_⟩:=i2; obtain ⟨c1,c2,c3,c4,c5,_⟩:=i3; obtain ⟨e1,e2,e3,e4,e5,_⟩:=i4; clear d1v d2v d3v d4v u1v u2v u3v u4v p1 p2 p3 p4; omega)
theorem A8 (n : Int) (h : IntKind.i64.min ≤ n ∧ n ≤ IntKind.i64.max) : (Ah n h).val = n:=by have:=Aj n h; omega
theorem Ts {a b : Aq} (h : ¬ (-1152921504606846976 < a.val ∧ a.val ≤ b.val ∧ b.val < 1152921504606846976)) : C0 a b = Aw:=by
  unfold C0
  have : Am ⟨a,b⟩ = false:=by
    cases hq : Am ⟨a,b⟩ with
    | false=>rfl
    | true=>exact absurd (Xi hq) h
  simp only [Bp,this,Bool.not_false,cond_true]
theorem F3 (n : Aq) : A0 n = Ao n:=by
  have h1:=n.lo
  have h2:=n.hi
  unfold A0 Ao
  simp only [Bp,Kj,Dv,Gk,U5,A8]
  by_cases h : n.val = 268435456 ∨ n.val = -268435456
  · have hm : C0 (An (n.val * 4294967296)) (An (n.val * 4294967296)) = Aw:=Ts (by simp only [Ad]; omega)
    rw [hm]
    generalize (decide (-268435456 ≤ n.val) && decide (n.val ≤ 268435456)) = p
    generalize (decide (-268435455 ≤ n.val) && decide (n.val ≤ 268435455)) = q
    cases p <;> cases q <;> rfl
  · have e : (decide (-268435456 ≤ n.val) && decide (n.val ≤ 268435456)) = (decide (-268435455 ≤ n.val) && decide (n.val ≤ 268435455)):=by
      rw [Bool.eq_iff_iff]
      simp only [Bool.and_eq_true,decide_eq_true_eq]
      omega
    rw [e]
theorem P0 (n : Aq) : En n = Cl n:=by
  unfold En Cl Lz F5 Wz
  simp only [Bp,O5]
  cases h : Bz n (Ah (-1099511627776)) (Ah 1099511627776) with
  | false=>rfl
  | true=>
    rw [Gk] at h
    simp only [Bool.and_eq_true,decide_eq_true_eq,A8] at h
    simp only [Bool.not_true,cond_false]
    have e : (An (n.val + 3373259426)).val = n.val + 3373259426:=by rw [Ad]; omega
    generalize An (n.val + 3373259426) = a at *
    have q1:=Int.mul_tdiv_add_tmod a.val 6746518852
    have q2 : -6746518852 < Int.tmod a.val 6746518852 ∧ Int.tmod a.val 6746518852 < 6746518852:=by
      by_cases hs : 0 ≤ a.val
      · rw [Int.tmod_eq_emod_of_nonneg hs]; omega
      · have : Int.tmod a.val 6746518852 = -((-a.val) % 6746518852):=by
          rw [← Int.tmod_eq_emod_of_nonneg (by omega),Int.neg_tmod,Int.neg_neg]
        rw [this]; omega
    have e4 : (Jl a (Ah 6746518852).val).val = Int.tmod a.val 6746518852:=rfl
    have e5 : Int.tdiv a.val (Ah 6746518852).val = Int.tdiv a.val 6746518852:=rfl
    rw [e4,e5]
    generalize Int.tdiv a.val 6746518852 = q at *
    generalize Int.tmod a.val 6746518852 = r at *
    have e2 : (An ((An q).val * 6746518852)).val = q * 6746518852:=by simp only [Ad]; omega
    have e3 : decide ((An ((An q).val * 6746518852)).val > a.val) = decide (r < 0):=by
      rw [Bool.eq_iff_iff]
      simp only [decide_eq_true_eq,e2]
      omega
    rw [e3]
theorem kZ (a : Aq) (h0 : 0 < a.val) (h1 : a.val ≤ 4096) : ∃ r : Aq,Ei a (Ah 7244019458077122842) (Ah 30) = (r,true) ∧ r.val = a.val * 7244019458077122842 / 1073741824:=by
  have hz : (D9 (A3 a (Ah 7244019458077122842)) (Ah 30)).z = a.val * 7244019458077122842 / 1073741824:=by rw [Abt,Jh,Aj]
  obtain ⟨n,e1,e2⟩:=Yn (D9 (A3 a (Ah 7244019458077122842)) (Ah 30)) (by rw [hz]; omega) (by rw [hz]; omega)
  refine ⟨n,?_,by rw [e1,hz]⟩
  unfold Ei
  have e3 : Bz (Ah 30) (Ah 0) (Ah 126) = true:=by decide
  simp only [Bp,e2,e3,Bool.not_true,cond_false]
theorem Th (a : Aq) : H7 a = C5 a:=by
  unfold H7 C5 G9 Sr Kd Cr
  simp only [Bp,O5,Dv,Ui,Uh]
  cases h : Bz a (Ah (-4096)) (Ah 4096) with
  | false=>rfl
  | true=>
    have h':=h
    rw [Gk] at h'
    simp only [Bool.and_eq_true,decide_eq_true_eq,A8] at h'
    simp only [Bool.not_true,cond_false]
    by_cases hn : a.val < 0
    · have en : (An (0 - a.val)).val = -a.val:=by rw [Ad]; omega
      have e0 : (a.val == 0) = false:=by simp; omega
      simp only [hn,decide_true,cond_true,e0,cond_false]
      unfold Sr Kd
      have h2 : Bz (An (0 - a.val)) (Ah (-4096)) (Ah 4096) = true:=by
        rw [Gk]
        simp only [Bool.and_eq_true,decide_eq_true_eq,A8,en]
        omega
      have e1 : decide ((An (0 - a.val)).val < 0) = false:=by rw [en]; exact decide_eq_false (by omega)
      have e2 : ((An (0 - a.val)).val == 0) = false:=by rw [en]; simp; omega
      obtain ⟨r,r1,r2⟩:=kZ (An (0 - a.val)) (by omega) (by omega)
      rw [en] at r2
      have hr : 0 ≤ r.val ∧ r.val ≤ 30000000000000:=by omega
      clear r2
      simp only [Bp,O5,h2,e1,e2,Bool.not_true,cond_false,Ui,r1]
      unfold Kl
      have ho : Am ⟨r,An (r.val + 1)⟩ = true:=I7 (by simp only [Ad]; omega)
      simp only [Bp,ho,Bool.not_true,cond_false]
      rw [Fc (by simp only [Ad]; omega)]
    · simp only [hn,decide_false,cond_false]
theorem b8 (a b : Iv) : Q3 a b = Jc a b:=by
  unfold Q3 Jc Dk
  simp only [Bp,N5]
  cases Am a <;> cases Am b <;> rfl
theorem d9 (a b : Iv) : Uq a b = Io a b:=by
  unfold Uq Io Dk
  simp only [Bp,N5,Dv,Z8,Z7]
theorem fQ (a b : Iv) : Lk a b = Bx a b:=by
  unfold Lk Bx
  rw [d9]
theorem Rh (a b : Iv) : Fd a b = Cm a b:=by
  unfold Fd Cm
  simp only [Bp,Hd,Dv,Z8,Z7]
  cases ha : Am a with
  | false=>rfl
  | true=>
    cases hb : Am b with
    | false=>rfl
    | true=>
      obtain ⟨a1,a2,a3⟩:=Xi ha
      obtain ⟨b1,b2,b3⟩:=Xi hb
      have m:=Od a.lo b.lo
      have n:=I3 a.hi b.hi
      simp only [Bool.and_self,Bool.not_true,cond_false]
      rw [Fc (by omega)]
theorem Ag {α β : Type} (x : α) (φ : α → β) : Aa x φ = φ x:=Eq.trans rfl rfl
theorem Hw (a : Iv) : Dk a = !Am a:=Eq.trans rfl rfl
theorem Ai {α : Type} (x y : α) : cond true x y = x:=Eq.trans rfl rfl
theorem Ae {α : Type} (x y : α) : cond false x y = y:=Eq.trans rfl rfl
theorem pQ {a : Iv} (h : Am a = true) : R6 a = ⟨(B9 a).1,(B9 a).2⟩:=by
  have e1 : R6 a = bif Bz (Ah 0) a.lo a.hi then ⟨Ah 0,mx (mx a.lo (An (0 - a.lo.val))) (mx a.hi (An (0 - a.hi.val)))⟩ else ⟨mn (mx a.lo (An (0 - a.lo.val))) (mx a.hi (An (0 - a.hi.val))),mx (mx a.lo (An (0 - a.lo.val))) (mx a.hi (An (0 - a.hi.val)))⟩:=by
    unfold R6 U4 C3
    simp only [Ag,Hw,h,Bool.not_true,Ae,O5]
  have e2 : B9 a = bif Bz (Ah 0) a.lo a.hi then (Ah 0,mx (mx a.lo (An (0 - a.lo.val))) (mx a.hi (An (0 - a.hi.val)))) else (mn (mx a.lo (An (0 - a.lo.val))) (mx a.hi (An (0 - a.hi.val))),mx (mx a.lo (An (0 - a.lo.val))) (mx a.hi (An (0 - a.hi.val)))):=by
    unfold B9 I1
    simp only [Ag,Z8,Z7]
  rw [e1,e2]
  generalize mn (mx a.lo (An (0 - a.lo.val))) (mx a.hi (An (0 - a.hi.val))) = p
  generalize mx (mx a.lo (An (0 - a.lo.val))) (mx a.hi (An (0 - a.hi.val))) = q
  cases Bz (Ah 0) a.lo a.hi
  · rw [Ae,Ae]
  · rw [Ai,Ai]
theorem Sd (a : Iv) : Ow a = I6 a:=by
  unfold Ow I6
  simp only [Ag,Hw]
  cases ha : Am a with
  | false=>simp only [Bool.not_false,Ai]; exact Dv
  | true=>
    simp only [Bool.not_true,Ae,pQ ha,aZ,tG]
    generalize B9 a = e
    generalize Bb e.1 e.1 = p
    generalize Ca e.2 e.2 = q
    exact mW p q
theorem fT {α β : Type} {x y : α} {φ ψ : α → β} (h : x = y) (h2 : ∀ r,φ r = ψ r) : Aa x φ = Aa y ψ:=by
  subst h
  exact h2 x
theorem wH (y : Iv) : Rp y (Ah 2) = Gl y (Ah 0):=by
  unfold Rp Gl
  repeat (refine fT (by first | exact Im _ _ | exact Il _ _ | exact Le _ _ | exact (F3 _).trans (congrArg _ (IK.eq (by decide)))) fun r=>?_)
  rfl
theorem wI (y : Iv) : Rp y (Ah 1) = Gl y (Ah (-1)):=by
  unfold Rp Gl
  repeat (refine fT (by first | exact Im _ _ | exact Il _ _ | exact Le _ _ | exact (F3 _).trans (congrArg _ (IK.eq (by decide)))) fun r=>?_)
  rfl
theorem pM (x : Iv) : Pk x = K4 x:=by
  unfold Pk K4 Cr
  simp only [Bp,b8,Dv,Sd,wH,Il,I4]
  rfl
theorem pN (x : Iv) : Pl x = K5 x:=by
  unfold Pl K5 Cr
  simp only [Bp,b8,Dv,Sd,wI,Il,I4]
  rfl
theorem I9 (c : Aq) (h0 : -268435455 ≤ c.val) (h1 : c.val ≤ 268435455) : ∃ z : Iv,Ao c = z ∧ Am z = true ∧ z.lo.val = c.val * 4294967296 ∧ z.hi.val = c.val * 4294967296:=by
  have h2 : Bz c (Ah (-268435455)) (Ah 268435455) = true:=by
    rw [Gk]
    simp only [Bool.and_eq_true,decide_eq_true_eq,A8]
    omega
  have e : (An (c.val * 4294967296)).val = c.val * 4294967296:=by rw [Ad]; omega
  have hb : -1152921504606846976 < (An (c.val * 4294967296)).val ∧ (An (c.val * 4294967296)).val ≤ (An (c.val * 4294967296)).val ∧ (An (c.val * 4294967296)).val < 1152921504606846976:=by omega
  refine ⟨⟨An (c.val * 4294967296),An (c.val * 4294967296)⟩,?_,I7 hb,e,e⟩
  unfold Ao
  simp only [Bp,h2,Bool.not_true,cond_false]
  rw [Fc hb]
theorem Aa1 (y s : Iv) (c : Aq) (hc : 2 ≤ c.val) (hc2 : c.val ≤ 100000) (hy : Am y = true) (hy0 : 0 ≤ y.lo.val) (hy1 : y.hi.val ≤ 4294967296) (hs : Am s = true) (hs0 : 0 ≤ s.lo.val) (hs1 : s.hi.val ≤ 4294967296) :
    ∃ z : Iv,Cw (Ao (Ah 1)) (Ay (A4 y (Ao c)) s) = z ∧ Am z = true ∧ 0 ≤ z.lo.val ∧ z.hi.val ≤ 4294967296:=by
  obtain ⟨i1,e1,o1,l1,u1⟩:=I9 (Ah 1) (by decide) (by decide)
  obtain ⟨ic,ec,oc,lc,uc⟩:=I9 c (by omega) (by omega)
  have yb:=Xi hy
  have sb:=Xi hs
  rw [e1,ec]
  obtain ⟨d,ed,od,d0,d1⟩:=qA hy oc (by omega) (L:=0) (U:=2147483648) (by decide) (by decide) (by omega) (by omega) (by omega) (by omega)
  rw [ed]
  have db:=Xi od
  have key : ∀ p q : Int,0 ≤ p → p ≤ 2147483648 → 0 ≤ q → q ≤ 4294967296 → 0 * 4294967296 ≤ p * q ∧ p * q ≤ 2147483648 * 4294967296:=fun p q h1 h2 h3 h4=>
    ⟨by rw [Int.zero_mul]; exact Int.mul_nonneg h1 h3,Int.mul_le_mul h2 h4 h3 (by decide)⟩
  obtain ⟨m,em,om,m0,m1,_⟩:=gU od hs (L:=0) (U:=2147483648) (by decide) (by decide) (key _ _ (by omega) (by omega) (by omega) (by omega)) (key _ _ (by omega) (by omega) (by omega) (by omega)) (key _ _ (by omega) (by omega) (by omega) (by omega)) (key _ _ (by omega) (by omega) (by omega) (by omega))
  rw [em]
  have mb:=Xi om
  rw [Aj] at l1 u1
  have hb : -1152921504606846976 < (An (i1.lo.val - m.hi.val)).val ∧ (An (i1.lo.val - m.hi.val)).val ≤ (An (i1.hi.val - m.lo.val)).val ∧ (An (i1.hi.val - m.lo.val)).val < 1152921504606846976:=by simp only [Ad]; omega
  refine ⟨⟨An (i1.lo.val - m.hi.val),An (i1.hi.val - m.lo.val)⟩,?_,I7 hb,by show 0 ≤ (An _).val; rw [Ad]; omega,by show (An _).val ≤ _; rw [Ad]; omega⟩
  unfold Cw
  simp only [Bp,o1,om,Bool.not_true,cond_false]
  rw [Fc hb]
def U2 (z : Iv) : Prop:=Am z = true ∧ 0 ≤ z.lo.val ∧ z.hi.val ≤ 4294967296
theorem Fl {y s : Iv} (hy : U2 y) (hs : U2 s) {c : Aq} (hc : 2 ≤ c.val ∧ c.val ≤ 100000) : U2 (Cw (Ao (Ah 1)) (Ay (A4 y (Ao c)) s)):=by
  obtain ⟨z,e,h1,h2,h3⟩:=Aa1 y s c hc.1 hc.2 hy.1 hy.2.1 hy.2.2 hs.1 hs.2.1 hs.2.2
  rw [e]
  exact ⟨h1,h2,h3⟩
theorem rR : U2 (Ao (Ah 1)):=by
  obtain ⟨z,e,h1,h2,h3⟩:=I9 (Ah 1) (by decide) (by decide)
  rw [Aj] at h2 h3
  rw [e]
  exact ⟨h1,by omega,by omega⟩
theorem nY {y : Iv} (hy : U2 y) : U2 (Gl y (Ah 0)):=by
  unfold Gl
  simp only [Bp]
  refine Fl hy (Fl hy (Fl hy (Fl hy (Fl hy (Fl hy (Fl hy (Fl hy rR ?_) ?_) ?_) ?_) ?_) ?_) ?_) ?_ <;> decide
theorem nX {y : Iv} (hy : U2 y) : U2 (Gl y (Ah (-1))):=by
  unfold Gl
  simp only [Bp]
  refine Fl hy (Fl hy (Fl hy (Fl hy (Fl hy (Fl hy (Fl hy (Fl hy rR ?_) ?_) ?_) ?_) ?_) ?_) ?_) ?_ <;> decide
theorem Ug {x : Iv} (h : Jc x Co = true) : Am x = true ∧ -4294967296 ≤ x.lo.val ∧ x.hi.val ≤ 4294967296:=by
  have hr : Am Co = true:=by decide
  unfold Jc at h
  simp only [Bp,hr,Bool.not_true,cond_false] at h
  cases hx : Am x with
  | false=>rw [hx] at h; cases h
  | true=>
    rw [hx] at h
    simp only [cond_true] at h
    have e1 : Co.lo.val = -4294967296:=rfl
    have e2 : Co.hi.val = 4294967296:=rfl
    rw [e1,e2] at h
    by_cases q : -4294967296 ≤ x.lo.val
    · simp only [q,decide_true,cond_true,decide_eq_true_eq] at h
      exact ⟨rfl,q,h⟩
    · simp only [q,decide_false,cond_false] at h
      cases h
theorem qR {x : Iv} (h : Am x = true) (h0 : -4294967296 ≤ x.lo.val) (h1 : x.hi.val ≤ 4294967296) : U2 (I6 x):=by
  have xb:=Xi h
  have key : ∀ p q : Aq,0 ≤ p.val → p.val ≤ q.val → q.val ≤ 4294967296 → U2 (bif (!(Bb p p).2) then Aw else bif (!(Ca q q).2) then Aw else C0 (Bb p p).1 (Ca q q).1):=fun p q a1 a2 a3=>by
    have s0 : 0 ≤ p.val * p.val:=Int.mul_nonneg a1 a1
    have s1 : p.val * p.val ≤ q.val * q.val:=Int.mul_le_mul a2 a2 a1 (by omega)
    have s2 : q.val * q.val ≤ 4294967296 * 4294967296:=Int.mul_le_mul a3 a3 (by omega) (by decide)
    obtain ⟨d,de,dv⟩:=Pc (a:=p) (b:=p) (Nt (by omega) (by omega)) (Nt (by omega) (by omega)) (by omega) (by omega)
    obtain ⟨u,ue,uv⟩:=Vv (a:=q) (b:=q) (Nt (by omega) (by omega)) (Nt (by omega) (by omega)) (by omega) (by omega)
    rw [de,ue]
    simp only [Bool.not_true,cond_false]
    have hb : -1152921504606846976 < d.val ∧ d.val ≤ u.val ∧ u.val < 1152921504606846976:=by omega
    rw [Fc hb]
    exact ⟨I7 hb,by show 0 ≤ d.val; omega,by show u.val ≤ 4294967296; omega⟩
  unfold I6 B9 I1
  simp only [Bp,h,Bool.not_true,cond_false,Z8,Z7,Gk,A8]
  have e1 : (An (0 - x.lo.val)).val = -x.lo.val:=by rw [Ad]; omega
  have e2 : (An (0 - x.hi.val)).val = -x.hi.val:=by rw [Ad]; omega
  have m1:=I3 x.lo (An (0 - x.lo.val))
  have m2:=I3 x.hi (An (0 - x.hi.val))
  rw [e1] at m1
  rw [e2] at m2
  generalize mx x.lo (An (0 - x.lo.val)) = p at *
  generalize mx x.hi (An (0 - x.hi.val)) = q at *
  have n1:=I3 p q
  have n2:=Od p q
  cases (decide (x.lo.val ≤ 0) && decide (0 ≤ x.hi.val)) with
  | true=>
    simp only [cond_true]
    exact key (Ah 0) (mx p q) (by rw [Aj]; omega) (by rw [Aj]; omega) (by omega)
  | false=>
    simp only [cond_false]
    exact key (mn p q) (mx p q) (by omega) (by omega) (by omega)
def uG (x : Iv) : Prop:=Am x = true → x.lo.val ≤ 4294967296 ∧ -4294967296 ≤ x.hi.val
theorem Aas {x : Iv} (h : uG x) : (Io x Co).2 = true:=by
  have hr : Am Co = true:=by decide
  unfold Io
  simp only [Bp,hr,Z8,Z7,Bool.not_true,cond_false]
  cases hx : Am x with
  | false=>rfl
  | true=>
    obtain ⟨h1,h2⟩:=h hx
    have xb:=Xi hx
    have m:=I3 x.lo Co.lo
    have n:=Od x.hi Co.hi
    have e1 : Co.lo.val = -4294967296:=rfl
    have e2 : Co.hi.val = 4294967296:=rfl
    rw [e1] at m
    rw [e2] at n
    have : decide ((mx x.lo Co.lo).val > (mn x.hi Co.hi).val) = false:=decide_eq_false (by omega)
    simp only [this,Bool.not_true,cond_false]
theorem aQ : uG Aw:=fun h=>absurd h (by decide)
theorem sE {x : Iv} (h : uG x) : uG (Kl x):=by
  unfold Kl
  simp only [Bp]
  cases hx : Am x with
  | false=>exact aQ
  | true=>
    obtain ⟨h1,h2⟩:=h hx
    have xb:=Xi hx
    simp only [Bool.not_true,cond_false]
    rw [Fc (by simp only [Ad]; omega)]
    intro _
    simp only [Ad]
    omega
theorem mU {x : Iv} (h : Am x = true) (h0 : -4294967296 ≤ x.lo.val) (h1 : x.hi.val ≤ 4294967296) : uG (Bj x M4):=by
  have ht : Am M4 = true:=by decide
  have e1 : M4.lo.val = -1:=rfl
  have e2 : M4.hi.val = 1:=rfl
  have xb:=Xi h
  unfold Bj
  simp only [Bp,h,ht,e1,e2,Bool.not_true,cond_false]
  rw [Fc (by simp only [Ad]; omega)]
  intro _
  simp only [Ad]
  omega
theorem sD (x : Iv) : uG (K4 x):=by
  unfold K4 Cr
  simp only [Bp]
  cases hi : Jc x Co with
  | false=>exact aQ
  | true=>
    obtain ⟨h1,h2,h3⟩:=Ug hi
    have xb:=Xi h1
    have su:=nY (qR h1 h2 h3)
    have sb:=Xi su.1
    have key : ∀ p q : Int,-4294967296 ≤ p → p ≤ 4294967296 → 0 ≤ q → q ≤ 4294967296 → -4294967296 * 4294967296 ≤ p * q ∧ p * q ≤ 4294967296 * 4294967296:=fun p q a1 a2 a3 a4=>by
      have b1 : p * q ≤ 4294967296 * q:=Int.mul_le_mul_of_nonneg_right a2 a3
      have b2 : -4294967296 * q ≤ p * q:=Int.mul_le_mul_of_nonneg_right a1 a3
      omega
    obtain ⟨m,em,om,m0,m1,_⟩:=gU h1 su.1 (L:=-4294967296) (U:=4294967296) (by decide) (by decide) (key _ _ (by omega) (by omega) su.2.1 (by have:=su.2.2; omega)) (key _ _ (by omega) (by omega) (by have:=su.2.1; omega) su.2.2) (key _ _ (by omega) (by omega) su.2.1 (by have:=su.2.2; omega)) (key _ _ (by omega) (by omega) (by have:=su.2.1; omega) su.2.2)
    simp only [Bool.not_true,cond_false]
    rw [em]
    exact mU om m0 m1
theorem sF (x : Iv) : uG (K5 x):=by
  unfold K5 Cr
  simp only [Bp]
  cases hi : Jc x Co with
  | false=>exact aQ
  | true=>
    obtain ⟨h1,h2,h3⟩:=Ug hi
    have su:=nX (qR h1 h2 h3)
    simp only [Bool.not_true,cond_false]
    exact mU su.1 (by have:=su.2.1; omega) su.2.2
theorem Zc {x : Iv} (h : uG x) : Rs x = O6 x:=by
  unfold Rs O6
  simp only [Bp,d9]
  have e : Tw = Co:=rfl
  rw [e,Aas h]
  rfl
theorem Tf (n k : Aq) : Jb n k = Q9 n k:=by
  unfold Jb Q9 Lz F5
  have e : Tw = Co:=rfl
  have e2 : ∀ m,Ov m = Bm m:=fun _=>rfl
  simp only [Bp,O5,P0,Th,e,e2,Le,pM,pN,Uh,Zc (sD _),Zc (sF _),Zc (sE (sD _)),Zc (sE (sF _))]
def gR (t k : Aq) (y : Iv) : Iv:=bif ((Eo .i64 (An (k.val + t.val)).val 3).val == 1) then Cm y (Ao (Ah 1)) else (bif ((Eo .i64 (An (k.val + t.val)).val 3).val == 3) then Cm y (Ao (Ah (-1))) else y)
theorem Aaw (t : Aq) (L : List Aq) (a0 : Iv) (hL : L.length ≤ 4000) : ∀ (fu : Nat) (i : Aq) (y : Iv),0 ≤ i.val → ((L.length : Int) - i.val).toNat < fu → Fg fu t L a0 i y = (L.drop i.val.toNat).foldl (fun y k=>gR t k y) y:=by
  intro fu
  induction fu with
  | zero=>intro i y _ h; exact absurd h (Nat.not_lt_zero _)
  | succ fu ih=>
    intro i y hi hf
    unfold Fg
    by_cases h : i.val < (L.length : Int)
    · have h' : i.val.toNat < L.length:=by omega
      have ei : (An (i.val + 1)).val = i.val + 1:=by rw [Ad]; omega
      have hk : L.drop i.val.toNat = Lb L i :: L.drop (i.val.toNat + 1):=by
        rw [List.drop_eq_getElem_cons h']
        unfold Lb
        simp [List.getD,List.getElem?_eq_getElem h']
      have hn : (An (i.val + 1)).val.toNat = i.val.toNat + 1:=by rw [ei]; omega
      have ih':=fun y=>ih (An (i.val + 1)) y (by omega) (by omega)
      rw [hn] at ih'
      rw [hk,List.foldl_cons]
      simp only [h,decide_true,Ai,Ag,F3,Rh,ih']
      unfold gR
      generalize Lb L i = k
      cases ((Eo .i64 (An (k.val + t.val)).val 3).val == 1)
      · rw [Ae,Ae]
        cases ((Eo .i64 (An (k.val + t.val)).val 3).val == 3)
        · rw [Ae,Ae]
        · rw [Ai,Ai]
      · rw [Ai,Ai]
    · have : L.drop i.val.toNat = []:=List.drop_eq_nil_of_le (by omega)
      rw [this]
      simp only [h,decide_false,Ae,List.foldl_nil]
theorem dR (a0 : Iv) : ∀ (fu : Nat) (k : Aq) (acc : List Aq),Eb fu a0 k acc = acc ++ Eb fu a0 k []:=by
  intro fu
  induction fu with
  | zero=>intro k acc; unfold Eb; simp
  | succ fu ih=>
    intro k acc
    unfold Eb
    simp only [Ag]
    cases decide (k.val ≤ (An ((En a0.hi).val + 1)).val)
    · rw [Ae,Ae]; simp
    · rw [Ai,Ai]
      cases Lk (H7 k) a0
      · rw [Ae,Ae]; exact ih _ _
      · rw [Ai,Ai,ih _ (acc ++ [k]),ih _ ([] ++ [k])]; simp
theorem Aab (t : Aq) (a0 : Iv) : ∀ (fu : Nat) (k : Aq) (y : Iv),-1100 ≤ k.val → (2000 - k.val).toNat < fu → (Eb fu a0 k []).foldl (fun y k=>gR t k y) y = Ft fu t a0 k y:=by
  intro fu
  induction fu with
  | zero=>intro k y _ h; exact absurd h (Nat.not_lt_zero _)
  | succ fu ih=>
    intro k y hk hf
    have qb:=Ef a0.hi
    unfold Eb Ft
    simp only [Ag,P0,Th,fQ]
    generalize Cl a0.hi = q at *
    by_cases h : k.val ≤ (An (q.val + 1)).val
    · have h':=h
      rw [Ad] at h'
      have ek : (An (k.val + 1)).val = k.val + 1:=by rw [Ad]; omega
      have ih':=fun y=>ih (An (k.val + 1)) y (by omega) (by omega)
      simp only [h,decide_true,Ai]
      cases Bx (C5 k) a0
      · simp only [Ae,Bool.not_false,Ai]
        exact ih' y
      · simp only [Ai,Bool.not_true,Ae]
        rw [dR,List.nil_append,List.foldl_append,List.foldl_cons,List.foldl_nil,ih']
        unfold gR
        cases ((Eo .i64 (An (k.val + t.val)).val 3).val == 1)
        · rw [Ae,Ae]
          cases ((Eo .i64 (An (k.val + t.val)).val 3).val == 3)
          · rw [Ae,Ae]
          · rw [Ai,Ai]
        · rw [Ai,Ai]
    · simp only [h,decide_false,Ae,List.foldl_nil]
theorem d6 (a : Iv) : Pf a = Lx a:=by
  unfold Pf Lx Lz F5 Of
  simp only [Ag,O5,N5]
theorem m7 (a0 : Iv) : ∀ (fu : Nat) (k : Aq),(Eb fu a0 k []).length ≤ fu:=by
  intro fu
  induction fu with
  | zero=>intro k; unfold Eb; exact Nat.le_refl _
  | succ fu ih=>
    intro k
    unfold Eb
    simp only [Ag]
    have h1:=ih (An (k.val + 1))
    cases decide (k.val ≤ (An ((En a0.hi).val + 1)).val)
    · rw [Ae]; simp
    · rw [Ai]
      cases Lk (H7 k) a0
      · rw [Ae]; omega
      · rw [Ai,dR]
        simp only [List.nil_append,List.length_append,List.length_cons,List.length_nil]
        omega
theorem Z9 (a : Iv) (t : Aq) : M9 a t = Sp a t:=by
  have qb:=Ef a.lo
  unfold M9 Sp Pe
  simp only [Ag,d6,Tf,Rh,P0]
  cases Lx a
  · simp only [Bool.not_false,Ai]; exact Eq.trans rfl rfl
  · simp only [Bool.not_true,Ae]
    generalize Cl a.lo = q at *
    have ek : (An (q.val - 1)).val = q.val - 1:=by rw [Ad]; omega
    have hl:=m7 a ((2000 - (An (q.val - 1)).val).toNat + 1) (An (q.val - 1))
    rw [Aaw t _ a (by omega) _ _ _ (by rw [A8]; omega) (by rw [A8]; omega)]
    have e0 : (Ah 0).val.toNat = 0:=by rw [A8]; rfl
    rw [e0,List.drop_zero]
    exact Aab t a _ _ _ (by omega) (by omega)
theorem Wr (a : Iv) : Lj a = Lh a:=by
  unfold Lj Lh
  simp only [Ag,Z9]
theorem U1 : Li = Kc:=by
  unfold Li Kc
  have e : H7 (Ah 1) = G9 (Ah 1):=by rw [Th]; rfl
  simp only [Ag,e]
end Go.Proofs.YtfhnlkinjbakgaaGreat.Abs
