/- The program's functions are these; part 2 (written by w.py). -/
import Derived.Test.YtclbkeejhnmeoaaGreatK1
import Derived.Test.YtclbkeejhnmeoaaGreatF6
set_option linter.unusedVariables false
set_option linter.unusedSimpArgs false
namespace Go.Proofs.YtclbkeejhnmeoaaGreat.Abs
open Go Go.RowKit

theorem ok_impl_WideMul (a0 : I64) (a1 : I64) : Fun Tryz.prog 306 [] #[vI a0, vI a1] (vWd (F_impl_WideMul a0 a1)) [] := by
  refine Fun.ofH 400 E_ok mixed Tryz.func306 (by kernel_rfl) (by kernel_rfl) ?_
  unfold F_impl_WideMul
  refine Run.q (e := vT_U_U) (gv := vWd) (ok_bits_Mul64 _ _) fun r1 _ => ?_
  refine Run.y (gv := vWd) (fun _ => ?_) (fun _ => ?_)
  · refine Run.y (gv := vWd) (fun _ => ?_) (fun _ => ?_)
    · exact Run.x 0
    · exact Run.x 0
  · refine Run.y (gv := vWd) (fun _ => ?_) (fun _ => ?_)
    · exact Run.x 0
    · exact Run.x 0

def ren : Shelf.Ren := ⟨fun n => if n = 129 then 396 else if n = 134 then 395 else 0, fun n => if n = 3 then 3 else if n = 4 then 4 else if n = 5 then 5 else if n = 9 then 9 else if n = 46 then 161 else if n = 53 then 162 else 0, fun n => n⟩
theorem lays134 : Lays.n134 Tryz.prog ren := { mixed := mixed, f129 := by kernel_rfl, f134 := by kernel_rfl, t3 := by kernel_rfl, a3 := fun w => by kernel_rfl, z3 := fun w => by kernel_rfl, v3 := fun w => by kernel_rfl, t4 := by kernel_rfl, a4 := fun w => by kernel_rfl, z4 := fun w => by kernel_rfl, v4 := fun w => by kernel_rfl, t5 := by kernel_rfl, a5 := fun w => by kernel_rfl, z5 := fun w => by kernel_rfl, v5 := fun w => by kernel_rfl, t9 := by kernel_rfl, a9 := fun w => by kernel_rfl, z9 := fun w => by kernel_rfl, v9 := fun w => by kernel_rfl, t46 := by kernel_rfl, a46 := fun w => by kernel_rfl, z46 := fun w => by kernel_rfl, v46 := fun w => by kernel_rfl, t53 := by kernel_rfl, a53 := fun w => by kernel_rfl, z53 := fun w => by kernel_rfl, v53 := fun w => by kernel_rfl }
theorem ok_bits_LeadingZeros64 (a0 : U64) : Fun Tryz.prog 395 [] #[vU a0] (vI (F_bits_LeadingZeros64 a0)) [] := by
  refine Fun.ofCalls Tryz.func395 (by kernel_rfl) (by kernel_rfl) (by kernel_rfl) (by kernel_rfl) fun w => ?_
  refine (Any.bits_LeadingZeros64 lays134 a0.val w a0.lo a0.hi).mono ?_
  rintro e w' ⟨rfl, rfl⟩
  have h := Lib.bitLen_le a0.val.toNat 64 (by have q0 := U64.lo a0; have q1 := U64.hi a0; omega) (by have q0 := U64.lo a0; have q1 := U64.hi a0; omega)
  have e : vI (F_bits_LeadingZeros64 a0) = .int .i64 (64 - (Lib.bitLen a0.val.toNat : Int)) := by
    show Value.int .i64 (w64 (64 - (Lib.bitLen a0.val.toNat : Int))).val = _
    rw [w64_val]
    congr 1
    omega
  exact ⟨by rw [e], rfl⟩

theorem ok_bits_Div64_L1 : ∀ (fu : Nat) (x_y : U64) (x_s : U64) (x_yn1 : U64) (x_yn0 : U64) (x_un0 : U64) (x_q1 : U64) (x_un21 : U64) (x_rhat : U64) (x_q0 : U64) (q0 : x_rhat.val < 4294967296) (q1 : 1 ≤ x_yn1.val ∧ x_yn1.val ≤ 4294967295) (hm : (4294967296 - x_rhat.val).toNat < fu) (t : Array Value) (ht : maskA t [0, 1, 3, 4, 5, 11, 12, 13, 19, 20, 21, 22, 23, 24, 25, 26, 27, 28, 29, 30, 31, 32, 33, 34, 35, 36, 37, 38, 39, 40, 41, 42, 43, 44, 45, 46, 47, 48, 49, 50, 51, 52, 53, 54, 55, 56, 57, 58, 59, 60, 61, 62, 63, 64, 65, 66, 67, 68, 69, 70, 71, 72, 73, 74, 75, 76, 77, 78, 79, 80, 81, 82, 83, 84, 85, 86, 87, 88, 89, 90, 91, 92, 93, 94, 95, 96, 97, 98, 99, 100, 101, 102, 103, 104, 105, 106, 107, 108, 109, 110, 111, 112, 113, 114, 115, 116, 117, 118, 119, 120, 121, 122, 123, 124, 125, 126, 127, 128, 129, 130, 131, 132, 133, 134] = #[undef, undef, .int .u64 x_y.val, undef, undef, undef, .int .u64 0, .int .u64 0, .int .u64 x_s.val, .int .u64 x_yn1.val, .int .u64 x_yn0.val, undef, undef, undef, .int .u64 x_un0.val, .int .u64 x_q1.val, .int .u64 x_rhat.val, .int .u64 x_un21.val, .int .u64 x_q0.val, undef, undef, undef, undef, undef, undef, undef, undef, undef, undef, undef, undef, undef, undef, undef, undef, undef, undef, undef, undef, undef, undef, undef, undef, undef, undef, undef, undef, undef, undef, undef, undef, undef, undef, undef, undef, undef, undef, undef, undef, undef, undef, undef, undef, undef, undef, undef, undef, undef, undef, undef, undef, undef, undef, undef, undef, undef, undef, undef, undef, undef, undef, undef, undef, undef, undef, undef, undef, undef, undef, undef, undef, undef, undef, undef, undef, undef, undef, undef, undef, undef, undef, undef, undef, undef, undef, undef, undef, undef, undef, undef, undef, undef, undef, undef, undef, undef, undef, undef, undef, undef, undef, undef, undef, undef, undef, undef, undef, undef, undef, undef, undef, undef, undef, undef, undef]), Cfg Tryz.prog 393 (loopAt Tryz.f393 1) t [] (RvH [] (vT_U_U (F_bits_Div64_L1 fu x_y x_s x_yn1 x_yn0 x_un0 x_q1 x_un21 x_rhat x_q0))) := by
  intro fu
  induction fu with
  | zero => intro x_y x_s x_yn1 x_yn0 x_un0 x_q1 x_un21 x_rhat x_q0 q0 q1 hm; exact absurd hm (Nat.not_lt_zero _)
  | succ fu ih =>
    intro x_y x_s x_yn1 x_yn0 x_un0 x_q1 x_un21 x_rhat x_q0 q0 q1 hm t ht
    refine Cfg.round E_ok mixed Tryz.func393 ht fun g => ?_
    unfold F_bits_Div64_L1
    refine Run.y (gv := vT_U_U) (fun h5 => ?_) (fun h5 => ?_)
    · refine Run.z [true, true, true, true, true, true, true, true, true] ?_
      refine Run.y (gv := vT_U_U) (fun h6 => ?_) (fun h6 => ?_)
      · refine Run.k (c := (decide (0 ≤ x_s.val))) (by kernel_rfl) (by first | (have n2 := norm_yn a2 (by have := a0.lo; omega); rw [← hr2] at n2; exact decide_eq_true (by omega)) | (have p1 := q1.1; exact decide_eq_true (by omega)) | exact decide_eq_true (U64.lo _) | exact decide_eq_true (by have := U64.lo a0; omega)) ?_
        exact Run.x 0
      · exact Run.l (by kernel_rfl) (by kernel_rfl) (by kernel_rfl) (by kernel_rfl) (ih x_y x_s x_yn1 x_yn0 x_un0 x_q1 x_un21 (wu64 (x_rhat.val + x_yn1.val)) (wu64 (x_q0.val - 1)) (by first | exact q1 | (have p1 := q1.1; have p2 := q1.2; have p3 := x_rhat.lo; simp only [wu64_val, decide_eq_true_eq, decide_eq_false_iff_not] at *; omega)) (by first | exact q1 | (have p1 := q1.1; have p2 := q1.2; have p3 := x_rhat.lo; simp only [wu64_val, decide_eq_true_eq, decide_eq_false_iff_not] at *; omega)) (by first | exact q1 | (have p1 := q1.1; have p2 := q1.2; have p3 := x_rhat.lo; simp only [wu64_val, decide_eq_true_eq, decide_eq_false_iff_not] at *; omega)))
    · refine Run.z [false, false, false, false, false, false, false, false] ?_
      refine Run.y (gv := vT_U_U) (fun h7 => ?_) (fun h7 => ?_)
      · refine Run.y (gv := vT_U_U) (fun h8 => ?_) (fun h8 => ?_)
        · refine Run.k (c := (decide (0 ≤ x_s.val))) (by kernel_rfl) (by first | (have n2 := norm_yn a2 (by have := a0.lo; omega); rw [← hr2] at n2; exact decide_eq_true (by omega)) | (have p1 := q1.1; exact decide_eq_true (by omega)) | exact decide_eq_true (U64.lo _) | exact decide_eq_true (by have := U64.lo a0; omega)) ?_
          exact Run.x 0
        · exact Run.l (by kernel_rfl) (by kernel_rfl) (by kernel_rfl) (by kernel_rfl) (ih x_y x_s x_yn1 x_yn0 x_un0 x_q1 x_un21 (wu64 (x_rhat.val + x_yn1.val)) (wu64 (x_q0.val - 1)) (by first | exact q1 | (have p1 := q1.1; have p2 := q1.2; have p3 := x_rhat.lo; simp only [wu64_val, decide_eq_true_eq, decide_eq_false_iff_not] at *; omega)) (by first | exact q1 | (have p1 := q1.1; have p2 := q1.2; have p3 := x_rhat.lo; simp only [wu64_val, decide_eq_true_eq, decide_eq_false_iff_not] at *; omega)) (by first | exact q1 | (have p1 := q1.1; have p2 := q1.2; have p3 := x_rhat.lo; simp only [wu64_val, decide_eq_true_eq, decide_eq_false_iff_not] at *; omega)))
      · refine Run.k (c := (decide (0 ≤ x_s.val))) (by kernel_rfl) (by first | (have n2 := norm_yn a2 (by have := a0.lo; omega); rw [← hr2] at n2; exact decide_eq_true (by omega)) | (have p1 := q1.1; exact decide_eq_true (by omega)) | exact decide_eq_true (U64.lo _) | exact decide_eq_true (by have := U64.lo a0; omega)) ?_
        exact Run.x 0

theorem ok_bits_Div64_L0 : ∀ (fu : Nat) (x_y : U64) (x_s : U64) (x_yn1 : U64) (x_yn0 : U64) (x_un32 : U64) (x_un1 : U64) (x_un0 : U64) (x_q1 : U64) (x_rhat : U64) (q0 : x_rhat.val < 4294967296) (q1 : 1 ≤ x_yn1.val ∧ x_yn1.val ≤ 4294967295) (hm : (4294967296 - x_rhat.val).toNat < fu) (t : Array Value) (ht : maskA t [0, 1, 3, 4, 5, 12, 17, 18, 19, 20, 21, 22, 23, 24, 25, 26, 27, 28, 29, 30, 31, 32, 33, 34, 35, 36, 37, 38, 39, 40, 41, 42, 43, 44, 45, 46, 47, 48, 49, 50, 51, 52, 53, 54, 55, 56, 57, 58, 59, 60, 61, 62, 63, 64, 65, 66, 67, 68, 69, 70, 71, 72, 73, 74, 75, 76, 77, 78, 79, 80, 81, 82, 83, 84, 85, 86, 87, 88, 89, 90, 91, 92, 93, 94, 95, 96, 97, 98, 99, 100, 101, 102, 103, 104, 105, 106, 107, 108, 109, 110, 111, 112, 113, 114, 115, 116, 117, 118, 119, 120, 121, 122, 123, 124, 125, 126, 127, 128, 129, 130, 131, 132, 133, 134] = #[undef, undef, .int .u64 x_y.val, undef, undef, undef, .int .u64 0, .int .u64 0, .int .u64 x_s.val, .int .u64 x_yn1.val, .int .u64 x_yn0.val, .int .u64 x_un32.val, undef, .int .u64 x_un1.val, .int .u64 x_un0.val, .int .u64 x_q1.val, .int .u64 x_rhat.val, undef, undef, undef, undef, undef, undef, undef, undef, undef, undef, undef, undef, undef, undef, undef, undef, undef, undef, undef, undef, undef, undef, undef, undef, undef, undef, undef, undef, undef, undef, undef, undef, undef, undef, undef, undef, undef, undef, undef, undef, undef, undef, undef, undef, undef, undef, undef, undef, undef, undef, undef, undef, undef, undef, undef, undef, undef, undef, undef, undef, undef, undef, undef, undef, undef, undef, undef, undef, undef, undef, undef, undef, undef, undef, undef, undef, undef, undef, undef, undef, undef, undef, undef, undef, undef, undef, undef, undef, undef, undef, undef, undef, undef, undef, undef, undef, undef, undef, undef, undef, undef, undef, undef, undef, undef, undef, undef, undef, undef, undef, undef, undef, undef, undef, undef, undef, undef, undef]), Cfg Tryz.prog 393 (loopAt Tryz.f393 0) t [] (RvH [] (vT_U_U (F_bits_Div64_L0 fu x_y x_s x_yn1 x_yn0 x_un32 x_un1 x_un0 x_q1 x_rhat))) := by
  intro fu
  induction fu with
  | zero => intro x_y x_s x_yn1 x_yn0 x_un32 x_un1 x_un0 x_q1 x_rhat q0 q1 hm; exact absurd hm (Nat.not_lt_zero _)
  | succ fu ih =>
    intro x_y x_s x_yn1 x_yn0 x_un32 x_un1 x_un0 x_q1 x_rhat q0 q1 hm t ht
    refine Cfg.round E_ok mixed Tryz.func393 ht fun g => ?_
    unfold F_bits_Div64_L0
    refine Run.y (gv := vT_U_U) (fun h3 => ?_) (fun h3 => ?_)
    · refine Run.z [true, true, true, true, true, true, true, true, true] ?_
      refine Run.y (gv := vT_U_U) (fun h4 => ?_) (fun h4 => ?_)
      · refine Run.k (c := (decide (x_yn1.val ≠ 0))) (by kernel_rfl) (by first | (have n2 := norm_yn a2 (by have := a0.lo; omega); rw [← hr2] at n2; exact decide_eq_true (by omega)) | (have p1 := q1.1; exact decide_eq_true (by omega)) | exact decide_eq_true (U64.lo _) | exact decide_eq_true (by have := U64.lo a0; omega)) ?_
        exact Run.l (by kernel_rfl) (by kernel_rfl) (by kernel_rfl) (by kernel_rfl) (ok_bits_Div64_L1 ((4294967296 - (wu64 ((wu64 ((wu64 ((wu64 (x_un32.val * 4294967296)).val + x_un1.val)).val - (wu64 ((wu64 (x_q1.val - 1)).val * x_y.val)).val)).val - (wu64 ((wu64 (Int.tdiv (wu64 ((wu64 ((wu64 (x_un32.val * 4294967296)).val + x_un1.val)).val - (wu64 ((wu64 (x_q1.val - 1)).val * x_y.val)).val)).val x_yn1.val)).val * x_yn1.val)).val)).val).toNat + 1) x_y x_s x_yn1 x_yn0 x_un0 (wu64 (x_q1.val - 1)) (wu64 ((wu64 ((wu64 (x_un32.val * 4294967296)).val + x_un1.val)).val - (wu64 ((wu64 (x_q1.val - 1)).val * x_y.val)).val)) (wu64 ((wu64 ((wu64 ((wu64 (x_un32.val * 4294967296)).val + x_un1.val)).val - (wu64 ((wu64 (x_q1.val - 1)).val * x_y.val)).val)).val - (wu64 ((wu64 (Int.tdiv (wu64 ((wu64 ((wu64 (x_un32.val * 4294967296)).val + x_un1.val)).val - (wu64 ((wu64 (x_q1.val - 1)).val * x_y.val)).val)).val x_yn1.val)).val * x_yn1.val)).val)) (wu64 (Int.tdiv (wu64 ((wu64 ((wu64 (x_un32.val * 4294967296)).val + x_un1.val)).val - (wu64 ((wu64 (x_q1.val - 1)).val * x_y.val)).val)).val x_yn1.val)) (by first | exact rem_lt _ _ q1.1 q1.2 | exact q1 | exact Nat.lt_succ_self _) (by first | exact rem_lt _ _ q1.1 q1.2 | exact q1 | exact Nat.lt_succ_self _) (by first | exact rem_lt _ _ q1.1 q1.2 | exact q1 | exact Nat.lt_succ_self _))
      · exact Run.l (by kernel_rfl) (by kernel_rfl) (by kernel_rfl) (by kernel_rfl) (ih x_y x_s x_yn1 x_yn0 x_un32 x_un1 x_un0 (wu64 (x_q1.val - 1)) (wu64 (x_rhat.val + x_yn1.val)) (by first | exact q1 | (have p1 := q1.1; have p2 := q1.2; have p3 := x_rhat.lo; simp only [wu64_val, decide_eq_true_eq, decide_eq_false_iff_not] at *; omega)) (by first | exact q1 | (have p1 := q1.1; have p2 := q1.2; have p3 := x_rhat.lo; simp only [wu64_val, decide_eq_true_eq, decide_eq_false_iff_not] at *; omega)) (by first | exact q1 | (have p1 := q1.1; have p2 := q1.2; have p3 := x_rhat.lo; simp only [wu64_val, decide_eq_true_eq, decide_eq_false_iff_not] at *; omega)))
    · refine Run.z [false, false, false, false, false, false, false, false] ?_
      refine Run.y (gv := vT_U_U) (fun h9 => ?_) (fun h9 => ?_)
      · refine Run.y (gv := vT_U_U) (fun h10 => ?_) (fun h10 => ?_)
        · refine Run.k (c := (decide (x_yn1.val ≠ 0))) (by kernel_rfl) (by first | (have n2 := norm_yn a2 (by have := a0.lo; omega); rw [← hr2] at n2; exact decide_eq_true (by omega)) | (have p1 := q1.1; exact decide_eq_true (by omega)) | exact decide_eq_true (U64.lo _) | exact decide_eq_true (by have := U64.lo a0; omega)) ?_
          exact Run.l (by kernel_rfl) (by kernel_rfl) (by kernel_rfl) (by kernel_rfl) (ok_bits_Div64_L1 ((4294967296 - (wu64 ((wu64 ((wu64 ((wu64 (x_un32.val * 4294967296)).val + x_un1.val)).val - (wu64 ((wu64 (x_q1.val - 1)).val * x_y.val)).val)).val - (wu64 ((wu64 (Int.tdiv (wu64 ((wu64 ((wu64 (x_un32.val * 4294967296)).val + x_un1.val)).val - (wu64 ((wu64 (x_q1.val - 1)).val * x_y.val)).val)).val x_yn1.val)).val * x_yn1.val)).val)).val).toNat + 1) x_y x_s x_yn1 x_yn0 x_un0 (wu64 (x_q1.val - 1)) (wu64 ((wu64 ((wu64 (x_un32.val * 4294967296)).val + x_un1.val)).val - (wu64 ((wu64 (x_q1.val - 1)).val * x_y.val)).val)) (wu64 ((wu64 ((wu64 ((wu64 (x_un32.val * 4294967296)).val + x_un1.val)).val - (wu64 ((wu64 (x_q1.val - 1)).val * x_y.val)).val)).val - (wu64 ((wu64 (Int.tdiv (wu64 ((wu64 ((wu64 (x_un32.val * 4294967296)).val + x_un1.val)).val - (wu64 ((wu64 (x_q1.val - 1)).val * x_y.val)).val)).val x_yn1.val)).val * x_yn1.val)).val)) (wu64 (Int.tdiv (wu64 ((wu64 ((wu64 (x_un32.val * 4294967296)).val + x_un1.val)).val - (wu64 ((wu64 (x_q1.val - 1)).val * x_y.val)).val)).val x_yn1.val)) (by first | exact rem_lt _ _ q1.1 q1.2 | exact q1 | exact Nat.lt_succ_self _) (by first | exact rem_lt _ _ q1.1 q1.2 | exact q1 | exact Nat.lt_succ_self _) (by first | exact rem_lt _ _ q1.1 q1.2 | exact q1 | exact Nat.lt_succ_self _))
        · exact Run.l (by kernel_rfl) (by kernel_rfl) (by kernel_rfl) (by kernel_rfl) (ih x_y x_s x_yn1 x_yn0 x_un32 x_un1 x_un0 (wu64 (x_q1.val - 1)) (wu64 (x_rhat.val + x_yn1.val)) (by first | exact q1 | (have p1 := q1.1; have p2 := q1.2; have p3 := x_rhat.lo; simp only [wu64_val, decide_eq_true_eq, decide_eq_false_iff_not] at *; omega)) (by first | exact q1 | (have p1 := q1.1; have p2 := q1.2; have p3 := x_rhat.lo; simp only [wu64_val, decide_eq_true_eq, decide_eq_false_iff_not] at *; omega)) (by first | exact q1 | (have p1 := q1.1; have p2 := q1.2; have p3 := x_rhat.lo; simp only [wu64_val, decide_eq_true_eq, decide_eq_false_iff_not] at *; omega)))
      · refine Run.k (c := (decide (x_yn1.val ≠ 0))) (by kernel_rfl) (by first | (have n2 := norm_yn a2 (by have := a0.lo; omega); rw [← hr2] at n2; exact decide_eq_true (by omega)) | (have p1 := q1.1; exact decide_eq_true (by omega)) | exact decide_eq_true (U64.lo _) | exact decide_eq_true (by have := U64.lo a0; omega)) ?_
        exact Run.l (by kernel_rfl) (by kernel_rfl) (by kernel_rfl) (by kernel_rfl) (ok_bits_Div64_L1 ((4294967296 - (wu64 ((wu64 ((wu64 ((wu64 (x_un32.val * 4294967296)).val + x_un1.val)).val - (wu64 (x_q1.val * x_y.val)).val)).val - (wu64 ((wu64 (Int.tdiv (wu64 ((wu64 ((wu64 (x_un32.val * 4294967296)).val + x_un1.val)).val - (wu64 (x_q1.val * x_y.val)).val)).val x_yn1.val)).val * x_yn1.val)).val)).val).toNat + 1) x_y x_s x_yn1 x_yn0 x_un0 x_q1 (wu64 ((wu64 ((wu64 (x_un32.val * 4294967296)).val + x_un1.val)).val - (wu64 (x_q1.val * x_y.val)).val)) (wu64 ((wu64 ((wu64 ((wu64 (x_un32.val * 4294967296)).val + x_un1.val)).val - (wu64 (x_q1.val * x_y.val)).val)).val - (wu64 ((wu64 (Int.tdiv (wu64 ((wu64 ((wu64 (x_un32.val * 4294967296)).val + x_un1.val)).val - (wu64 (x_q1.val * x_y.val)).val)).val x_yn1.val)).val * x_yn1.val)).val)) (wu64 (Int.tdiv (wu64 ((wu64 ((wu64 (x_un32.val * 4294967296)).val + x_un1.val)).val - (wu64 (x_q1.val * x_y.val)).val)).val x_yn1.val)) (by first | exact rem_lt _ _ q1.1 q1.2 | exact q1 | exact Nat.lt_succ_self _) (by first | exact rem_lt _ _ q1.1 q1.2 | exact q1 | exact Nat.lt_succ_self _) (by first | exact rem_lt _ _ q1.1 q1.2 | exact q1 | exact Nat.lt_succ_self _))

theorem ok_bits_Div64 (a0 : U64) (a1 : U64) (a2 : U64) (p0 : a0.val < a2.val) : Fun Tryz.prog 393 [] #[vU a0, vU a1, vU a2] (vT_U_U (F_bits_Div64 a0 a1 a2)) [] := by
  refine Fun.ofH 400 E_ok mixed Tryz.func393 (by kernel_rfl) (by kernel_rfl) ?_
  unfold F_bits_Div64
  refine Run.kn (c := (a2.val == 0)) (by kernel_rfl) (by have q := a0.lo; simp; omega) ?_
  refine Run.kn (c := (decide (a2.val ≤ a0.val))) (by kernel_rfl) (by simp; omega) ?_
  refine Run.y (gv := vT_U_U) (fun h1 => ?_) (fun h1 => ?_)
  · refine Run.k (c := (decide (a2.val ≠ 0))) (by kernel_rfl) (by first | (have n2 := norm_yn a2 (by have := a0.lo; omega); rw [← hr2] at n2; exact decide_eq_true (by omega)) | (have p1 := q1.1; exact decide_eq_true (by omega)) | exact decide_eq_true (U64.lo _) | exact decide_eq_true (by have := U64.lo a0; omega)) ?_
    refine Run.k (c := (decide (a2.val ≠ 0))) (by kernel_rfl) (by first | (have n2 := norm_yn a2 (by have := a0.lo; omega); rw [← hr2] at n2; exact decide_eq_true (by omega)) | (have p1 := q1.1; exact decide_eq_true (by omega)) | exact decide_eq_true (U64.lo _) | exact decide_eq_true (by have := U64.lo a0; omega)) ?_
    exact Run.x 0
  · refine Run.q (e := vI) (gv := vT_U_U) (ok_bits_LeadingZeros64 _) fun r2 hr2 => ?_
    refine Run.k (c := (decide (0 ≤ (wu64 r2.val).val))) (by kernel_rfl) (by first | (have n2 := norm_yn a2 (by have := a0.lo; omega); rw [← hr2] at n2; exact decide_eq_true (by omega)) | (have p1 := q1.1; exact decide_eq_true (by omega)) | exact decide_eq_true (U64.lo _) | exact decide_eq_true (by have := U64.lo a0; omega)) ?_
    refine Run.z [true] ?_
    refine Run.k (c := (decide (0 ≤ (wu64 r2.val).val))) (by kernel_rfl) (by first | (have n2 := norm_yn a2 (by have := a0.lo; omega); rw [← hr2] at n2; exact decide_eq_true (by omega)) | (have p1 := q1.1; exact decide_eq_true (by omega)) | exact decide_eq_true (U64.lo _) | exact decide_eq_true (by have := U64.lo a0; omega)) ?_
    refine Run.k (c := (decide (0 ≤ (wu64 (64 - (wu64 r2.val).val)).val))) (by kernel_rfl) (by first | (have n2 := norm_yn a2 (by have := a0.lo; omega); rw [← hr2] at n2; exact decide_eq_true (by omega)) | (have p1 := q1.1; exact decide_eq_true (by omega)) | exact decide_eq_true (U64.lo _) | exact decide_eq_true (by have := U64.lo a0; omega)) ?_
    refine Run.k (c := (decide (0 ≤ (wu64 r2.val).val))) (by kernel_rfl) (by first | (have n2 := norm_yn a2 (by have := a0.lo; omega); rw [← hr2] at n2; exact decide_eq_true (by omega)) | (have p1 := q1.1; exact decide_eq_true (by omega)) | exact decide_eq_true (U64.lo _) | exact decide_eq_true (by have := U64.lo a0; omega)) ?_
    refine Run.z [true] ?_
    refine Run.k (c := (decide ((ishr (ishl .u64 a2.val (wu64 r2.val).val) 32).val ≠ 0))) (by kernel_rfl) (by first | (have n2 := norm_yn a2 (by have := a0.lo; omega); rw [← hr2] at n2; exact decide_eq_true (by omega)) | (have p1 := q1.1; exact decide_eq_true (by omega)) | exact decide_eq_true (U64.lo _) | exact decide_eq_true (by have := U64.lo a0; omega)) ?_
    exact Run.l (by kernel_rfl) (by kernel_rfl) (by kernel_rfl) (by kernel_rfl) (ok_bits_Div64_L0 ((4294967296 - (wu64 ((ior .u64 (ishl .u64 a0.val (wu64 r2.val).val).val (ishr a1 (wu64 (64 - (wu64 r2.val).val)).val).val).val - (wu64 ((wu64 (Int.tdiv (ior .u64 (ishl .u64 a0.val (wu64 r2.val).val).val (ishr a1 (wu64 (64 - (wu64 r2.val).val)).val).val).val (ishr (ishl .u64 a2.val (wu64 r2.val).val) 32).val)).val * (ishr (ishl .u64 a2.val (wu64 r2.val).val) 32).val)).val)).val).toNat + 1) (ishl .u64 a2.val (wu64 r2.val).val) (wu64 r2.val) (ishr (ishl .u64 a2.val (wu64 r2.val).val) 32) (iand .u64 (ishl .u64 a2.val (wu64 r2.val).val).val 4294967295) (ior .u64 (ishl .u64 a0.val (wu64 r2.val).val).val (ishr a1 (wu64 (64 - (wu64 r2.val).val)).val).val) (ishr (ishl .u64 a1.val (wu64 r2.val).val) 32) (iand .u64 (ishl .u64 a1.val (wu64 r2.val).val).val 4294967295) (wu64 (Int.tdiv (ior .u64 (ishl .u64 a0.val (wu64 r2.val).val).val (ishr a1 (wu64 (64 - (wu64 r2.val).val)).val).val).val (ishr (ishl .u64 a2.val (wu64 r2.val).val) 32).val)) (wu64 ((ior .u64 (ishl .u64 a0.val (wu64 r2.val).val).val (ishr a1 (wu64 (64 - (wu64 r2.val).val)).val).val).val - (wu64 ((wu64 (Int.tdiv (ior .u64 (ishl .u64 a0.val (wu64 r2.val).val).val (ishr a1 (wu64 (64 - (wu64 r2.val).val)).val).val).val (ishr (ishl .u64 a2.val (wu64 r2.val).val) 32).val)).val * (ishr (ishl .u64 a2.val (wu64 r2.val).val) 32).val)).val)) (by have n2 := norm_yn a2 (by have := a0.lo; omega); rw [← hr2] at n2; first | exact rem_lt _ _ n2.1 n2.2 | exact n2 | exact Nat.lt_succ_self _) (by have n2 := norm_yn a2 (by have := a0.lo; omega); rw [← hr2] at n2; first | exact rem_lt _ _ n2.1 n2.2 | exact n2 | exact Nat.lt_succ_self _) (by have n2 := norm_yn a2 (by have := a0.lo; omega); rw [← hr2] at n2; first | exact rem_lt _ _ n2.1 n2.2 | exact n2 | exact Nat.lt_succ_self _))

theorem ok_impl_divided (a0 : U64) (a1 : U64) (a2 : U64) (p0 : a2.val ≠ 0) : Fun Tryz.prog 380 [] #[vU a0, vU a1, vU a2] (vT_U_U_U (F_impl_divided a0 a1 a2)) [] := by
  refine Fun.ofH 400 E_ok mixed Tryz.func380 (by kernel_rfl) (by kernel_rfl) ?_
  unfold F_impl_divided
  refine Run.k (c := (decide (a2.val ≠ 0))) (by kernel_rfl) (by first | exact decide_eq_true p0 | exact imod_lt _ _ p0) ?_
  refine Run.k (c := (decide (a2.val ≠ 0))) (by kernel_rfl) (by first | exact decide_eq_true p0 | exact imod_lt _ _ p0) ?_
  refine Run.q (e := vT_U_U) (gv := vT_U_U_U) (ok_bits_Div64 _ _ _ (by first | exact decide_eq_true p0 | exact imod_lt _ _ p0)) fun r1 hr1 => ?_
  exact Run.x 0

theorem ok_impl_Wide_negative (a0 : Wd) : Fun Tryz.prog 381 [] #[vWd a0] (vWd (F_impl_Wide_negative a0)) [] := by
  refine Fun.ofH 400 E_ok mixed Tryz.func381 (by kernel_rfl) (by kernel_rfl) ?_
  unfold F_impl_Wide_negative
  refine Run.k (c := (decide (0 ≤ (0 : Int)) && (decide (0 ≤ (a0.lo.val : Int)) && (decide ((a0.lo.val : Int) ≤ 18446744073709551615) && (decide (0 ≤ (0 : Int)) && decide ((0 : Int) ≤ 1)))))) (by kernel_rfl) (by simp only [Bool.and_eq_true, decide_eq_true_eq]; exact ⟨U64.lo (cu64 0), U64.lo a0.lo, U64.hi a0.lo, U64.lo (cu64 0), (by decide)⟩) ?_
  refine Run.k (c := (decide (0 ≤ (0 : Int)) && (decide (0 ≤ ((wu64 a0.hi.val).val : Int)) && (decide (((wu64 a0.hi.val).val : Int) ≤ 18446744073709551615) && (decide (0 ≤ ((sbb_hi (cu64 0) a0.lo (cu64 0)).val : Int)) && decide (((sbb_hi (cu64 0) a0.lo (cu64 0)).val : Int) ≤ 1)))))) (by kernel_rfl) (by simp only [Bool.and_eq_true, decide_eq_true_eq]; exact ⟨U64.lo (cu64 0), U64.lo (wu64 a0.hi.val), U64.hi (wu64 a0.hi.val), U64.lo (sbb_hi (cu64 0) a0.lo (cu64 0)), (sbb_hi_le _ _ _)⟩) ?_
  exact Run.x 0

theorem ok_impl_WideDiv (a0 : Wd) (a1 : I64) : Fun Tryz.prog 329 [] #[vWd a0, vI a1] (vT_Wd_I_B (F_impl_WideDiv a0 a1)) [] := by
  refine Fun.ofH 400 E_ok mixed Tryz.func329 (by kernel_rfl) (by kernel_rfl) ?_
  unfold F_impl_WideDiv
  refine Run.y (gv := vT_Wd_I_B) (fun h1 => ?_) (fun h1 => ?_)
  · exact Run.x 0
  · refine Run.y (gv := vT_Wd_I_B) (fun h2 => ?_) (fun h2 => ?_)
    · refine Run.q (e := vT_U_U_U) (gv := vT_Wd_I_B) (ok_impl_divided _ _ _ (by have q := a1.hi; simp only [wu64_val, decide_eq_true_eq, decide_eq_false_iff_not] at *; omega)) fun r3 hr3 => ?_
      exact Run.x 0
    · refine Run.q (e := vWd) (gv := vT_Wd_I_B) (ok_impl_Wide_negative _) fun r4 hr4 => ?_
      refine Run.q (e := vT_U_U_U) (gv := vT_Wd_I_B) (ok_impl_divided _ _ _ (by have q := a1.hi; simp only [wu64_val, decide_eq_true_eq, decide_eq_false_iff_not] at *; omega)) fun r5 hr5 => ?_
      refine Run.y (gv := vT_Wd_I_B) (fun h6 => ?_) (fun h6 => ?_)
      · refine Run.q (e := vWd) (gv := vT_Wd_I_B) (ok_impl_Wide_negative _) fun r7 hr7 => ?_
        exact Run.x 0
      · refine Run.k (c := (decide (0 ≤ (r5.2.1.val : Int)) && (decide (0 ≤ (1 : Int)) && (decide (0 ≤ (0 : Int)) && decide ((0 : Int) ≤ 1))))) (by kernel_rfl) (by simp only [Bool.and_eq_true, decide_eq_true_eq]; exact ⟨U64.lo r5.2.1, U64.lo (cu64 1), U64.lo (cu64 0), (by decide)⟩) ?_
        refine Run.q (e := vWd) (gv := vT_Wd_I_B) (ok_impl_Wide_negative _) fun r8 hr8 => ?_
        exact Run.x 0

theorem ok_impl_WideOf (a0 : I64) : Fun Tryz.prog 383 [] #[vI a0] (vWd (F_impl_WideOf a0)) [] := by
  refine Fun.ofH 400 E_ok mixed Tryz.func383 (by kernel_rfl) (by kernel_rfl) ?_
  unfold F_impl_WideOf
  refine Run.z [true] ?_
  exact Run.x 0

theorem ok_impl_WideInt (a0 : Wd) : Fun Tryz.prog 330 [] #[vWd a0] (vT_I_B (F_impl_WideInt a0)) [] := by
  refine Fun.ofH 400 E_ok mixed Tryz.func330 (by kernel_rfl) (by kernel_rfl) ?_
  unfold F_impl_WideInt
  refine Run.q (e := vWd) (gv := vT_I_B) (ok_impl_WideOf _) fun r1 _ => ?_
  refine Run.y (gv := vT_I_B) (fun _ => ?_) (fun _ => ?_)
  · exact Run.x 0
  · exact Run.x 0

theorem ok_impl_MulDivFloor (a0 : I64) (a1 : I64) (a2 : I64) : Fun Tryz.prog 254 [] #[vI a0, vI a1, vI a2] (vT_I_B (F_impl_MulDivFloor a0 a1 a2)) [] := by
  refine Fun.ofH 400 E_ok mixed Tryz.func254 (by kernel_rfl) (by kernel_rfl) ?_
  unfold F_impl_MulDivFloor
  refine Run.q (e := vWd) (gv := vT_I_B) (ok_impl_WideMul _ _) fun r1 _ => ?_
  refine Run.q (e := vT_Wd_I_B) (gv := vT_I_B) (ok_impl_WideDiv _ _) fun r2 _ => ?_
  refine Run.y (gv := vT_I_B) (fun _ => ?_) (fun _ => ?_)
  · exact Run.x 0
  · refine Run.q (e := vT_I_B) (gv := vT_I_B) (ok_impl_WideInt _) fun r3 _ => ?_
    exact Run.x 0

theorem ok_impl_RadiansOf_r : ∀ (fu : Nat) (a0 : I64) (hm : min (0 - a0.val).toNat 1 < fu), Fun Tryz.prog 128 [] #[vI a0] (vIv (F_impl_RadiansOf_r fu a0)) [] := by
  intro fu
  induction fu with
  | zero => intro a0 hm; exact absurd hm (Nat.not_lt_zero _)
  | succ fu ih =>
    intro a0 hm
    refine Fun.ofH 400 E_ok mixed Tryz.func128 (by kernel_rfl) (by kernel_rfl) ?_
    unfold F_impl_RadiansOf_r
    refine Run.q (e := vB) (gv := vIv) (ok_impl_within _ _ _) fun r1 hr1 => ?_
    refine Run.y (gv := vIv) (fun h2 => ?_) (fun h2 => ?_)
    · refine Run.q (e := vIv) (gv := vIv) (ok_impl_Whole) fun r3 hr3 => ?_
      exact Run.x 0
    · refine Run.y (gv := vIv) (fun h4 => ?_) (fun h4 => ?_)
      · refine Run.q (e := vIv) (gv := vIv) (ih (w64 (0 - a0.val)) (by rw [hr1] at h2; simp [F_impl_within, c64_val] at h2; simp only [w64_val, decide_eq_true_eq, decide_eq_false_iff_not] at *; omega)) fun r5 hr5 => ?_
        refine Run.q (e := vIv) (gv := vIv) (ok_impl_NegI _) fun r6 hr6 => ?_
        exact Run.x 0
      · refine Run.y (gv := vIv) (fun h7 => ?_) (fun h7 => ?_)
        · exact Run.x 0
        · refine Run.q (e := vT_I_B) (gv := vIv) (ok_impl_MulDivFloor _ _ _) fun r8 hr8 => ?_
          refine Run.q (e := vT_I_B) (gv := vIv) (ok_impl_MulDivFloor _ _ _) fun r9 hr9 => ?_
          exact Run.x 0
theorem ok_impl_RadiansOf (a0 : I64) : Fun Tryz.prog 128 [] #[vI a0] (vIv (F_impl_RadiansOf a0)) [] := ok_impl_RadiansOf_r 2 a0 (by omega)

theorem ok_impl_LatOf (a0 : Pt) : Fun Tryz.prog 53 [] #[vPt a0] (vIv (F_impl_LatOf a0)) [] := by
  refine Fun.ofH 400 E_ok mixed Tryz.func53 (by kernel_rfl) (by kernel_rfl) ?_
  unfold F_impl_LatOf
  refine Run.q (e := vB) (gv := vIv) (ok_impl_ValidPoint _) fun r1 _ => ?_
  refine Run.y (gv := vIv) (fun _ => ?_) (fun _ => ?_)
  · refine Run.q (e := vIv) (gv := vIv) (ok_impl_Whole) fun r2 _ => ?_
    exact Run.x 0
  · refine Run.q (e := vIv) (gv := vIv) (ok_impl_RadiansOf _) fun r3 _ => ?_
    exact Run.x 0

theorem ok_impl_LonFrom (a0 : Pj) (a1 : Pt) : Fun Tryz.prog 55 [] #[vPj a0, vPt a1] (vIv (F_impl_LonFrom a0 a1)) [] := by
  refine Fun.ofH 400 E_ok mixed Tryz.func55 (by kernel_rfl) (by kernel_rfl) ?_
  unfold F_impl_LonFrom
  refine Run.q (e := vB) (gv := vIv) (ok_impl_ValidProjection _) fun r1 _ => ?_
  refine Run.y (gv := vIv) (fun _ => ?_) (fun _ => ?_)
  · refine Run.z [true, true, true, true] ?_
    refine Run.q (e := vIv) (gv := vIv) (ok_impl_Whole) fun r2 _ => ?_
    exact Run.x 0
  · refine Run.z [false] ?_
    refine Run.q (e := vB) (gv := vIv) (ok_impl_ValidPoint _) fun r3 _ => ?_
    refine Run.z [false, false] ?_
    refine Run.y (gv := vIv) (fun _ => ?_) (fun _ => ?_)
    · refine Run.q (e := vIv) (gv := vIv) (ok_impl_Whole) fun r4 _ => ?_
      exact Run.x 0
    · refine Run.q (e := vI) (gv := vIv) (ok_impl_WrapLon _) fun r5 _ => ?_
      refine Run.q (e := vIv) (gv := vIv) (ok_impl_RadiansOf _) fun r6 _ => ?_
      exact Run.x 0

theorem ok_impl_isAngle (a0 : I64) : Fun Tryz.prog 355 [] #[vI a0] (vB (F_impl_isAngle a0)) [] := by
  refine Fun.ofH 400 E_ok mixed Tryz.func355 (by kernel_rfl) (by kernel_rfl) ?_
  unfold F_impl_isAngle
  refine Run.q (e := vB) (gv := vB) (ok_impl_within _ _ _) fun r1 _ => ?_
  exact Run.x 0

theorem ok_impl_areAngles (a0 : Iv) : Fun Tryz.prog 276 [] #[vIv a0] (vB (F_impl_areAngles a0)) [] := by
  refine Fun.ofH 400 E_ok mixed Tryz.func276 (by kernel_rfl) (by kernel_rfl) ?_
  unfold F_impl_areAngles
  refine Run.q (e := vB) (gv := vB) (ok_impl_ValidInterval _) fun r1 _ => ?_
  refine Run.y (gv := vB) (fun _ => ?_) (fun _ => ?_)
  · refine Run.z [true, true] ?_
    refine Run.q (e := vB) (gv := vB) (ok_impl_isAngle _) fun r2 _ => ?_
    refine Run.z [true] ?_
    refine Run.y (gv := vB) (fun _ => ?_) (fun _ => ?_)
    · refine Run.z [true, true] ?_
      refine Run.q (e := vB) (gv := vB) (ok_impl_isAngle _) fun r3 _ => ?_
      refine Run.z [true] ?_
      exact Run.x 0
    · refine Run.z [false, false, false] ?_
      exact Run.x 0
  · refine Run.z [false, false, false, false, false, false, false] ?_
    exact Run.x 0

theorem ok_impl_ring : Fun Tryz.prog 224 [] #[] (vIv (F_impl_ring)) [] := by
  refine Fun.ofH 400 E_ok mixed Tryz.func224 (by kernel_rfl) (by kernel_rfl) ?_
  unfold F_impl_ring
  exact Run.x 0

theorem ok_impl_QuarterOf (a0 : I64) : Fun Tryz.prog 356 [] #[vI a0] (vI (F_impl_QuarterOf a0)) [] := by
  refine Fun.ofH 400 E_ok mixed Tryz.func356 (by kernel_rfl) (by kernel_rfl) ?_
  unfold F_impl_QuarterOf
  refine Run.q (e := vB) (gv := vI) (ok_impl_isAngle _) fun r1 _ => ?_
  refine Run.y (gv := vI) (fun _ => ?_) (fun _ => ?_)
  · exact Run.x 0
  · refine Run.z [true] ?_
    refine Run.y (gv := vI) (fun _ => ?_) (fun _ => ?_)
    · exact Run.x 0
    · exact Run.x 0

theorem ok_impl_at (a0 : I64) : Fun Tryz.prog 253 [] #[vI a0] (vIv (F_impl_at a0)) [] := by
  refine Fun.ofH 400 E_ok mixed Tryz.func253 (by kernel_rfl) (by kernel_rfl) ?_
  unfold F_impl_at
  exact Run.x 0

theorem ok_impl_WideShift (a0 : Wd) (a1 : I64) : Fun Tryz.prog 354 [] #[vWd a0, vI a1] (vWd (F_impl_WideShift a0 a1)) [] := by
  refine Fun.ofH 400 E_ok mixed Tryz.func354 (by kernel_rfl) (by kernel_rfl) ?_
  unfold F_impl_WideShift
  refine Run.q (e := vB) (gv := vWd) (ok_impl_within _ _ _) fun r1 hr1 => ?_
  refine Run.y (gv := vWd) (fun h2 => ?_) (fun h2 => ?_)
  · exact Run.x 0
  · refine Run.y (gv := vWd) (fun h3 => ?_) (fun h3 => ?_)
    · refine Run.z [true] ?_
      refine Run.k (c := (decide (0 ≤ (w64 (a1.val - 64)).val))) (by kernel_rfl) (by have q := a1.hi; rw [hr1] at h2; simp [F_impl_within, c64_val] at h2; simp only [w64_val, decide_eq_true_eq, decide_eq_false_iff_not] at *; omega) ?_
      exact Run.x 0
    · refine Run.k (c := (decide (0 ≤ a1.val))) (by kernel_rfl) (by have q := a1.hi; rw [hr1] at h2; simp [F_impl_within, c64_val] at h2; simp only [w64_val, decide_eq_true_eq, decide_eq_false_iff_not] at *; omega) ?_
      refine Run.k (c := (decide (0 ≤ a1.val))) (by kernel_rfl) (by have q := a1.hi; rw [hr1] at h2; simp [F_impl_within, c64_val] at h2; simp only [w64_val, decide_eq_true_eq, decide_eq_false_iff_not] at *; omega) ?_
      refine Run.k (c := (decide (0 ≤ (w64 (64 - a1.val)).val))) (by kernel_rfl) (by have q := a1.hi; rw [hr1] at h2; simp [F_impl_within, c64_val] at h2; simp only [w64_val, decide_eq_true_eq, decide_eq_false_iff_not] at *; omega) ?_
      exact Run.x 0

theorem ok_impl_MulFloor (a0 : I64) (a1 : I64) (a2 : I64) : Fun Tryz.prog 275 [] #[vI a0, vI a1, vI a2] (vT_I_B (F_impl_MulFloor a0 a1 a2)) [] := by
  refine Fun.ofH 400 E_ok mixed Tryz.func275 (by kernel_rfl) (by kernel_rfl) ?_
  unfold F_impl_MulFloor
  refine Run.q (e := vB) (gv := vT_I_B) (ok_impl_within _ _ _) fun r1 _ => ?_
  refine Run.y (gv := vT_I_B) (fun _ => ?_) (fun _ => ?_)
  · exact Run.x 0
  · refine Run.q (e := vWd) (gv := vT_I_B) (ok_impl_WideMul _ _) fun r2 _ => ?_
    refine Run.q (e := vWd) (gv := vT_I_B) (ok_impl_WideShift _ _) fun r3 _ => ?_
    refine Run.q (e := vT_I_B) (gv := vT_I_B) (ok_impl_WideInt _) fun r4 _ => ?_
    exact Run.x 0

theorem ok_impl_TurnI_r : ∀ (fu : Nat) (a0 : I64) (hm : min (0 - a0.val).toNat 1 < fu), Fun Tryz.prog 230 [] #[vI a0] (vIv (F_impl_TurnI_r fu a0)) [] := by
  intro fu
  induction fu with
  | zero => intro a0 hm; exact absurd hm (Nat.not_lt_zero _)
  | succ fu ih =>
    intro a0 hm
    refine Fun.ofH 400 E_ok mixed Tryz.func230 (by kernel_rfl) (by kernel_rfl) ?_
    unfold F_impl_TurnI_r
    refine Run.q (e := vB) (gv := vIv) (ok_impl_within _ _ _) fun r1 hr1 => ?_
    refine Run.y (gv := vIv) (fun h2 => ?_) (fun h2 => ?_)
    · refine Run.q (e := vIv) (gv := vIv) (ok_impl_Whole) fun r3 hr3 => ?_
      exact Run.x 0
    · refine Run.y (gv := vIv) (fun h4 => ?_) (fun h4 => ?_)
      · refine Run.q (e := vIv) (gv := vIv) (ih (w64 (0 - a0.val)) (by rw [hr1] at h2; simp [F_impl_within, c64_val] at h2; simp only [w64_val, decide_eq_true_eq, decide_eq_false_iff_not] at *; omega)) fun r5 hr5 => ?_
        refine Run.q (e := vIv) (gv := vIv) (ok_impl_NegI _) fun r6 hr6 => ?_
        exact Run.x 0
      · refine Run.y (gv := vIv) (fun h7 => ?_) (fun h7 => ?_)
        · exact Run.x 0
        · refine Run.q (e := vT_I_B) (gv := vIv) (ok_impl_MulFloor _ _ _) fun r8 hr8 => ?_
          exact Run.x 0
theorem ok_impl_TurnI (a0 : I64) : Fun Tryz.prog 230 [] #[vI a0] (vIv (F_impl_TurnI a0)) [] := ok_impl_TurnI_r 2 a0 (by omega)

theorem ok_impl_areBounded (a0 : Iv) (a1 : Iv) : Fun Tryz.prog 151 [] #[vIv a0, vIv a1] (vB (F_impl_areBounded a0 a1)) [] := by
  refine Fun.ofH 400 E_ok mixed Tryz.func151 (by kernel_rfl) (by kernel_rfl) ?_
  unfold F_impl_areBounded
  refine Run.q (e := vB) (gv := vB) (ok_impl_ValidInterval _) fun r1 _ => ?_
  refine Run.y (gv := vB) (fun _ => ?_) (fun _ => ?_)
  · refine Run.z [true] ?_
    refine Run.q (e := vB) (gv := vB) (ok_impl_ValidInterval _) fun r2 _ => ?_
    refine Run.z [true] ?_
    exact Run.x 0
  · refine Run.z [false, false] ?_
    exact Run.x 0

theorem ok_impl_bounded (a0 : I64) (a1 : I64) (a2 : Bool) : Fun Tryz.prog 218 [] #[vI a0, vI a1, vB a2] (vIv (F_impl_bounded a0 a1 a2)) [] := by
  refine Fun.ofH 400 E_ok mixed Tryz.func218 (by kernel_rfl) (by kernel_rfl) ?_
  unfold F_impl_bounded
  refine Run.y (gv := vIv) (fun _ => ?_) (fun _ => ?_)
  · refine Run.z [true] ?_
    refine Run.q (e := vB) (gv := vIv) (ok_impl_ValidInterval _) fun r1 _ => ?_
    refine Run.z [true] ?_
    refine Run.y (gv := vIv) (fun _ => ?_) (fun _ => ?_)
    · exact Run.x 0
    · refine Run.q (e := vIv) (gv := vIv) (ok_impl_Whole) fun r2 _ => ?_
      exact Run.x 0
  · refine Run.z [false, false, false] ?_
    refine Run.q (e := vIv) (gv := vIv) (ok_impl_Whole) fun r3 _ => ?_
    exact Run.x 0

theorem ok_impl_AddI (a0 : Iv) (a1 : Iv) : Fun Tryz.prog 103 [] #[vIv a0, vIv a1] (vIv (F_impl_AddI a0 a1)) [] := by
  refine Fun.ofH 400 E_ok mixed Tryz.func103 (by kernel_rfl) (by kernel_rfl) ?_
  unfold F_impl_AddI
  refine Run.q (e := vB) (gv := vIv) (ok_impl_areBounded _ _) fun r1 _ => ?_
  refine Run.y (gv := vIv) (fun _ => ?_) (fun _ => ?_)
  · refine Run.q (e := vIv) (gv := vIv) (ok_impl_Whole) fun r2 _ => ?_
    exact Run.x 0
  · refine Run.q (e := vIv) (gv := vIv) (ok_impl_bounded _ _ _) fun r3 _ => ?_
    exact Run.x 0

theorem ok_impl_SubI (a0 : Iv) (a1 : Iv) : Fun Tryz.prog 58 [] #[vIv a0, vIv a1] (vIv (F_impl_SubI a0 a1)) [] := by
  refine Fun.ofH 400 E_ok mixed Tryz.func58 (by kernel_rfl) (by kernel_rfl) ?_
  unfold F_impl_SubI
  refine Run.q (e := vIv) (gv := vIv) (ok_impl_NegI _) fun r1 _ => ?_
  refine Run.q (e := vIv) (gv := vIv) (ok_impl_AddI _ _) fun r2 _ => ?_
  exact Run.x 0

theorem ok_impl_InsideI (a0 : Iv) (a1 : Iv) : Fun Tryz.prog 387 [] #[vIv a0, vIv a1] (vB (F_impl_InsideI a0 a1)) [] := by
  refine Fun.ofH 400 E_ok mixed Tryz.func387 (by kernel_rfl) (by kernel_rfl) ?_
  unfold F_impl_InsideI
  refine Run.q (e := vB) (gv := vB) (ok_impl_IsWhole _) fun r1 _ => ?_
  refine Run.y (gv := vB) (fun _ => ?_) (fun _ => ?_)
  · refine Run.z [true, true, true] ?_
    refine Run.q (e := vB) (gv := vB) (ok_impl_IsWhole _) fun r2 _ => ?_
    exact Run.x 0
  · refine Run.z [false] ?_
    refine Run.q (e := vB) (gv := vB) (ok_impl_IsWhole _) fun r3 _ => ?_
    refine Run.z [false] ?_
    refine Run.y (gv := vB) (fun _ => ?_) (fun _ => ?_)
    · refine Run.q (e := vB) (gv := vB) (ok_impl_IsWhole _) fun r4 _ => ?_
      exact Run.x 0
    · refine Run.y (gv := vB) (fun _ => ?_) (fun _ => ?_)
      · refine Run.z [true, true, true, true, true] ?_
        exact Run.x 0
      · refine Run.z [false, false, false, false, false] ?_
        exact Run.x 0

theorem ok_impl_HasI (a0 : Iv) (a1 : I64) : Fun Tryz.prog 220 [] #[vIv a0, vI a1] (vB (F_impl_HasI a0 a1)) [] := by
  refine Fun.ofH 400 E_ok mixed Tryz.func220 (by kernel_rfl) (by kernel_rfl) ?_
  unfold F_impl_HasI
  refine Run.q (e := vB) (gv := vB) (ok_impl_IsWhole _) fun r1 _ => ?_
  refine Run.y (gv := vB) (fun _ => ?_) (fun _ => ?_)
  · refine Run.z [true, true, true, true, true, true] ?_
    exact Run.x 0
  · refine Run.z [false, false, false, false, false] ?_
    refine Run.q (e := vB) (gv := vB) (ok_impl_within _ _ _) fun r2 _ => ?_
    refine Run.z [false] ?_
    exact Run.x 0

theorem ok_impl_AbsI (a0 : Iv) : Fun Tryz.prog 219 [] #[vIv a0] (vIv (F_impl_AbsI a0)) [] := by
  refine Fun.ofH 400 E_ok mixed Tryz.func219 (by kernel_rfl) (by kernel_rfl) ?_
  unfold F_impl_AbsI
  refine Run.q (e := vB) (gv := vIv) (ok_impl_IsWhole _) fun r1 _ => ?_
  refine Run.y (gv := vIv) (fun _ => ?_) (fun _ => ?_)
  · refine Run.q (e := vIv) (gv := vIv) (ok_impl_Whole) fun r2 _ => ?_
    exact Run.x 0
  · refine Run.q (e := vI) (gv := vIv) (ok_impl_abs _) fun r3 _ => ?_
    refine Run.q (e := vI) (gv := vIv) (ok_impl_abs _) fun r4 _ => ?_
    refine Run.q (e := vI) (gv := vIv) (ok_impl_abs _) fun r5 _ => ?_
    refine Run.q (e := vI) (gv := vIv) (ok_impl_abs _) fun r6 _ => ?_
    refine Run.q (e := vB) (gv := vIv) (ok_impl_HasI _ _) fun r7 _ => ?_
    refine Run.y (gv := vIv) (fun _ => ?_) (fun _ => ?_)
    · exact Run.x 0
    · exact Run.x 0

theorem ok_impl_ValidFix (a0 : I64) : Fun Tryz.prog 273 [] #[vI a0] (vB (F_impl_ValidFix a0)) [] := by
  refine Fun.ofH 400 E_ok mixed Tryz.func273 (by kernel_rfl) (by kernel_rfl) ?_
  unfold F_impl_ValidFix
  refine Run.q (e := vB) (gv := vB) (ok_impl_within _ _ _) fun r1 _ => ?_
  exact Run.x 0

theorem ok_impl_fixed (a0 : I64) (a1 : Bool) : Fun Tryz.prog 274 [] #[vI a0, vB a1] (vT_I_B (F_impl_fixed a0 a1)) [] := by
  refine Fun.ofH 400 E_ok mixed Tryz.func274 (by kernel_rfl) (by kernel_rfl) ?_
  unfold F_impl_fixed
  refine Run.y (gv := vT_I_B) (fun _ => ?_) (fun _ => ?_)
  · refine Run.z [true, true, true, true] ?_
    exact Run.x 0
  · refine Run.z [false] ?_
    refine Run.q (e := vB) (gv := vT_I_B) (ok_impl_ValidFix _) fun r1 _ => ?_
    refine Run.z [false, false] ?_
    refine Run.y (gv := vT_I_B) (fun _ => ?_) (fun _ => ?_)
    · exact Run.x 0
    · exact Run.x 0

theorem ok_impl_MulDown (a0 : I64) (a1 : I64) : Fun Tryz.prog 153 [] #[vI a0, vI a1] (vT_I_B (F_impl_MulDown a0 a1)) [] := by
  refine Fun.ofH 400 E_ok mixed Tryz.func153 (by kernel_rfl) (by kernel_rfl) ?_
  unfold F_impl_MulDown
  refine Run.q (e := vB) (gv := vT_I_B) (ok_impl_ValidFix _) fun r1 _ => ?_
  refine Run.y (gv := vT_I_B) (fun _ => ?_) (fun _ => ?_)
  · refine Run.z [true, true, true, true] ?_
    exact Run.x 0
  · refine Run.z [false] ?_
    refine Run.q (e := vB) (gv := vT_I_B) (ok_impl_ValidFix _) fun r2 _ => ?_
    refine Run.z [false, false] ?_
    refine Run.y (gv := vT_I_B) (fun _ => ?_) (fun _ => ?_)
    · exact Run.x 0
    · refine Run.q (e := vT_I_B) (gv := vT_I_B) (ok_impl_MulFloor _ _ _) fun r3 _ => ?_
      refine Run.q (e := vT_I_B) (gv := vT_I_B) (ok_impl_fixed _ _) fun r4 _ => ?_
      exact Run.x 0

theorem ok_impl_MulUp (a0 : I64) (a1 : I64) : Fun Tryz.prog 154 [] #[vI a0, vI a1] (vT_I_B (F_impl_MulUp a0 a1)) [] := by
  refine Fun.ofH 400 E_ok mixed Tryz.func154 (by kernel_rfl) (by kernel_rfl) ?_
  unfold F_impl_MulUp
  refine Run.q (e := vB) (gv := vT_I_B) (ok_impl_ValidFix _) fun r1 _ => ?_
  refine Run.y (gv := vT_I_B) (fun _ => ?_) (fun _ => ?_)
  · refine Run.z [true, true, true, true] ?_
    exact Run.x 0
  · refine Run.z [false] ?_
    refine Run.q (e := vB) (gv := vT_I_B) (ok_impl_ValidFix _) fun r2 _ => ?_
    refine Run.z [false, false] ?_
    refine Run.y (gv := vT_I_B) (fun _ => ?_) (fun _ => ?_)
    · exact Run.x 0
    · refine Run.q (e := vT_I_B) (gv := vT_I_B) (ok_impl_MulDown _ _) fun r3 _ => ?_
      exact Run.x 0

theorem ok_impl_SqrI (a0 : Iv) : Fun Tryz.prog 104 [] #[vIv a0] (vIv (F_impl_SqrI a0)) [] := by
  refine Fun.ofH 400 E_ok mixed Tryz.func104 (by kernel_rfl) (by kernel_rfl) ?_
  unfold F_impl_SqrI
  refine Run.q (e := vB) (gv := vIv) (ok_impl_IsWhole _) fun r1 _ => ?_
  refine Run.y (gv := vIv) (fun _ => ?_) (fun _ => ?_)
  · refine Run.q (e := vIv) (gv := vIv) (ok_impl_Whole) fun r2 _ => ?_
    exact Run.x 0
  · refine Run.q (e := vIv) (gv := vIv) (ok_impl_AbsI _) fun r3 _ => ?_
    refine Run.q (e := vT_I_B) (gv := vIv) (ok_impl_MulDown _ _) fun r4 _ => ?_
    refine Run.q (e := vT_I_B) (gv := vIv) (ok_impl_MulUp _ _) fun r5 _ => ?_
    refine Run.y (gv := vIv) (fun _ => ?_) (fun _ => ?_)
    · refine Run.z [true] ?_
      refine Run.q (e := vIv) (gv := vIv) (ok_impl_bounded _ _ _) fun r6 _ => ?_
      exact Run.x 0
    · refine Run.z [false] ?_
      refine Run.q (e := vIv) (gv := vIv) (ok_impl_bounded _ _ _) fun r7 _ => ?_
      exact Run.x 0

theorem ok_impl_Integer (a0 : I64) : Fun Tryz.prog 166 [] #[vI a0] (vIv (F_impl_Integer a0)) [] := by
  refine Fun.ofH 400 E_ok mixed Tryz.func166 (by kernel_rfl) (by kernel_rfl) ?_
  unfold F_impl_Integer
  refine Run.q (e := vB) (gv := vIv) (ok_impl_within _ _ _) fun r1 _ => ?_
  refine Run.y (gv := vIv) (fun _ => ?_) (fun _ => ?_)
  · refine Run.q (e := vIv) (gv := vIv) (ok_impl_Whole) fun r2 _ => ?_
    exact Run.x 0
  · refine Run.q (e := vIv) (gv := vIv) (ok_impl_bounded _ _ _) fun r3 _ => ?_
    exact Run.x 0

theorem ok_impl_DivDown (a0 : I64) (a1 : I64) : Fun Tryz.prog 232 [] #[vI a0, vI a1] (vT_I_B (F_impl_DivDown a0 a1)) [] := by
  refine Fun.ofH 400 E_ok mixed Tryz.func232 (by kernel_rfl) (by kernel_rfl) ?_
  unfold F_impl_DivDown
  refine Run.q (e := vB) (gv := vT_I_B) (ok_impl_ValidFix _) fun r1 _ => ?_
  refine Run.y (gv := vT_I_B) (fun _ => ?_) (fun _ => ?_)
  · refine Run.z [true, true, true, true] ?_
    exact Run.x 0
  · refine Run.z [false] ?_
    refine Run.q (e := vB) (gv := vT_I_B) (ok_impl_ValidFix _) fun r2 _ => ?_
    refine Run.z [false, false] ?_
    refine Run.y (gv := vT_I_B) (fun _ => ?_) (fun _ => ?_)
    · exact Run.x 0
    · refine Run.y (gv := vT_I_B) (fun _ => ?_) (fun _ => ?_)
      · refine Run.q (e := vT_I_B) (gv := vT_I_B) (ok_impl_MulDivFloor _ _ _) fun r3 _ => ?_
        refine Run.q (e := vT_I_B) (gv := vT_I_B) (ok_impl_fixed _ _) fun r4 _ => ?_
        exact Run.x 0
      · refine Run.q (e := vT_I_B) (gv := vT_I_B) (ok_impl_MulDivFloor _ _ _) fun r5 _ => ?_
        refine Run.q (e := vT_I_B) (gv := vT_I_B) (ok_impl_fixed _ _) fun r6 _ => ?_
        exact Run.x 0

theorem ok_impl_DivUp (a0 : I64) (a1 : I64) : Fun Tryz.prog 233 [] #[vI a0, vI a1] (vT_I_B (F_impl_DivUp a0 a1)) [] := by
  refine Fun.ofH 400 E_ok mixed Tryz.func233 (by kernel_rfl) (by kernel_rfl) ?_
  unfold F_impl_DivUp
  refine Run.q (e := vB) (gv := vT_I_B) (ok_impl_ValidFix _) fun r1 _ => ?_
  refine Run.y (gv := vT_I_B) (fun _ => ?_) (fun _ => ?_)
  · refine Run.z [true, true, true, true] ?_
    exact Run.x 0
  · refine Run.z [false] ?_
    refine Run.q (e := vB) (gv := vT_I_B) (ok_impl_ValidFix _) fun r2 _ => ?_
    refine Run.z [false, false] ?_
    refine Run.y (gv := vT_I_B) (fun _ => ?_) (fun _ => ?_)
    · exact Run.x 0
    · refine Run.q (e := vT_I_B) (gv := vT_I_B) (ok_impl_DivDown _ _) fun r3 _ => ?_
      exact Run.x 0

theorem ok_impl_combine__impl_DivDown__impl_DivUp (a0 : Iv) (a1 : Iv) : Fun Tryz.prog 152 [] #[vIv a0, vIv a1, .func (.func 232) #[] #[], .func (.func 233) #[] #[]] (vIv (F_impl_combine__impl_DivDown__impl_DivUp a0 a1)) [] := by
  refine Fun.ofH 400 E_ok mixed Tryz.func152 (by kernel_rfl) (by kernel_rfl) ?_
  unfold F_impl_combine__impl_DivDown__impl_DivUp
  refine Run.u 400 E_ok mixed Tryz.func152 ?_
  refine Run.z [true] ?_
  refine Run.u 400 E_ok mixed Tryz.func152 ?_
  refine Run.z [true] ?_
  refine Run.q (e := vT_I_B) (gv := vIv) (ok_impl_DivDown _ _) fun r1 _ => ?_
  refine Run.q (e := vT_I_B) (gv := vIv) (ok_impl_DivUp _ _) fun r2 _ => ?_
  refine Run.y (gv := vIv) (fun _ => ?_) (fun _ => ?_)
  · refine Run.z [true, true, true] ?_
    refine Run.q (e := vIv) (gv := vIv) (ok_impl_Whole) fun r3 _ => ?_
    exact Run.x 0
  · refine Run.z [false, false] ?_
    refine Run.y (gv := vIv) (fun _ => ?_) (fun _ => ?_)
    · refine Run.q (e := vIv) (gv := vIv) (ok_impl_Whole) fun r4 _ => ?_
      exact Run.x 0
    · refine Run.z [true] ?_
      refine Run.u 400 E_ok mixed Tryz.func152 ?_
      refine Run.z [true] ?_
      refine Run.q (e := vT_I_B) (gv := vIv) (ok_impl_DivDown _ _) fun r5 _ => ?_
      refine Run.q (e := vT_I_B) (gv := vIv) (ok_impl_DivUp _ _) fun r6 _ => ?_
      refine Run.y (gv := vIv) (fun _ => ?_) (fun _ => ?_)
      · refine Run.z [true, true, true] ?_
        refine Run.q (e := vIv) (gv := vIv) (ok_impl_Whole) fun r7 _ => ?_
        exact Run.x 0
      · refine Run.z [false, false] ?_
        refine Run.y (gv := vIv) (fun _ => ?_) (fun _ => ?_)
        · refine Run.q (e := vIv) (gv := vIv) (ok_impl_Whole) fun r8 _ => ?_
          exact Run.x 0
        · refine Run.z [false] ?_
          refine Run.u 400 E_ok mixed Tryz.func152 ?_
          refine Run.z [false] ?_
          refine Run.u 400 E_ok mixed Tryz.func152 ?_
          refine Run.z [true] ?_
          refine Run.u 400 E_ok mixed Tryz.func152 ?_
          refine Run.z [true] ?_
          refine Run.q (e := vT_I_B) (gv := vIv) (ok_impl_DivDown _ _) fun r9 _ => ?_
          refine Run.q (e := vT_I_B) (gv := vIv) (ok_impl_DivUp _ _) fun r10 _ => ?_
          refine Run.y (gv := vIv) (fun _ => ?_) (fun _ => ?_)
          · refine Run.z [true, true, true] ?_
            refine Run.q (e := vIv) (gv := vIv) (ok_impl_Whole) fun r11 _ => ?_
            exact Run.x 0
          · refine Run.z [false, false] ?_
            refine Run.y (gv := vIv) (fun _ => ?_) (fun _ => ?_)
            · refine Run.q (e := vIv) (gv := vIv) (ok_impl_Whole) fun r12 _ => ?_
              exact Run.x 0
            · refine Run.z [false] ?_
              refine Run.u 400 E_ok mixed Tryz.func152 ?_
              refine Run.z [true] ?_
              refine Run.q (e := vT_I_B) (gv := vIv) (ok_impl_DivDown _ _) fun r13 _ => ?_
              refine Run.q (e := vT_I_B) (gv := vIv) (ok_impl_DivUp _ _) fun r14 _ => ?_
              refine Run.y (gv := vIv) (fun _ => ?_) (fun _ => ?_)
              · refine Run.z [true, true, true] ?_
                refine Run.q (e := vIv) (gv := vIv) (ok_impl_Whole) fun r15 _ => ?_
                exact Run.x 0
              · refine Run.z [false, false] ?_
                refine Run.y (gv := vIv) (fun _ => ?_) (fun _ => ?_)
                · refine Run.q (e := vIv) (gv := vIv) (ok_impl_Whole) fun r16 _ => ?_
                  exact Run.x 0
                · refine Run.z [false] ?_
                  refine Run.u 400 E_ok mixed Tryz.func152 ?_
                  refine Run.z [false] ?_
                  refine Run.u 400 E_ok mixed Tryz.func152 ?_
                  refine Run.z [false] ?_
                  refine Run.q (e := vIv) (gv := vIv) (ok_impl_bounded _ _ _) fun r17 _ => ?_
                  exact Run.x 0

theorem ok_impl_DivI (a0 : Iv) (a1 : Iv) : Fun Tryz.prog 109 [] #[vIv a0, vIv a1] (vIv (F_impl_DivI a0 a1)) [] := by
  refine Fun.ofH 400 E_ok mixed Tryz.func109 (by kernel_rfl) (by kernel_rfl) ?_
  unfold F_impl_DivI
  refine Run.q (e := vB) (gv := vIv) (ok_impl_areBounded _ _) fun r1 _ => ?_
  refine Run.y (gv := vIv) (fun _ => ?_) (fun _ => ?_)
  · refine Run.z [true, true, true] ?_
    refine Run.q (e := vIv) (gv := vIv) (ok_impl_Whole) fun r2 _ => ?_
    exact Run.x 0
  · refine Run.z [false] ?_
    refine Run.q (e := vB) (gv := vIv) (ok_impl_HasI _ _) fun r3 _ => ?_
    refine Run.z [false] ?_
    refine Run.y (gv := vIv) (fun _ => ?_) (fun _ => ?_)
    · refine Run.q (e := vIv) (gv := vIv) (ok_impl_Whole) fun r4 _ => ?_
      exact Run.x 0
    · refine Run.q (e := vIv) (gv := vIv) (ok_impl_combine__impl_DivDown__impl_DivUp _ _) fun r5 _ => ?_
      exact Run.x 0

theorem ok_impl_combine__impl_MulDown__impl_MulUp (a0 : Iv) (a1 : Iv) : Fun Tryz.prog 152 [] #[vIv a0, vIv a1, .func (.func 153) #[] #[], .func (.func 154) #[] #[]] (vIv (F_impl_combine__impl_MulDown__impl_MulUp a0 a1)) [] := by
  refine Fun.ofH 400 E_ok mixed Tryz.func152 (by kernel_rfl) (by kernel_rfl) ?_
  unfold F_impl_combine__impl_MulDown__impl_MulUp
  refine Run.u 400 E_ok mixed Tryz.func152 ?_
  refine Run.z [true] ?_
  refine Run.u 400 E_ok mixed Tryz.func152 ?_
  refine Run.z [true] ?_
  refine Run.q (e := vT_I_B) (gv := vIv) (ok_impl_MulDown _ _) fun r1 _ => ?_
  refine Run.q (e := vT_I_B) (gv := vIv) (ok_impl_MulUp _ _) fun r2 _ => ?_
  refine Run.y (gv := vIv) (fun _ => ?_) (fun _ => ?_)
  · refine Run.z [true, true, true] ?_
    refine Run.q (e := vIv) (gv := vIv) (ok_impl_Whole) fun r3 _ => ?_
    exact Run.x 0
  · refine Run.z [false, false] ?_
    refine Run.y (gv := vIv) (fun _ => ?_) (fun _ => ?_)
    · refine Run.q (e := vIv) (gv := vIv) (ok_impl_Whole) fun r4 _ => ?_
      exact Run.x 0
    · refine Run.z [true] ?_
      refine Run.u 400 E_ok mixed Tryz.func152 ?_
      refine Run.z [true] ?_
      refine Run.q (e := vT_I_B) (gv := vIv) (ok_impl_MulDown _ _) fun r5 _ => ?_
      refine Run.q (e := vT_I_B) (gv := vIv) (ok_impl_MulUp _ _) fun r6 _ => ?_
      refine Run.y (gv := vIv) (fun _ => ?_) (fun _ => ?_)
      · refine Run.z [true, true, true] ?_
        refine Run.q (e := vIv) (gv := vIv) (ok_impl_Whole) fun r7 _ => ?_
        exact Run.x 0
      · refine Run.z [false, false] ?_
        refine Run.y (gv := vIv) (fun _ => ?_) (fun _ => ?_)
        · refine Run.q (e := vIv) (gv := vIv) (ok_impl_Whole) fun r8 _ => ?_
          exact Run.x 0
        · refine Run.z [false] ?_
          refine Run.u 400 E_ok mixed Tryz.func152 ?_
          refine Run.z [false] ?_
          refine Run.u 400 E_ok mixed Tryz.func152 ?_
          refine Run.z [true] ?_
          refine Run.u 400 E_ok mixed Tryz.func152 ?_
          refine Run.z [true] ?_
          refine Run.q (e := vT_I_B) (gv := vIv) (ok_impl_MulDown _ _) fun r9 _ => ?_
          refine Run.q (e := vT_I_B) (gv := vIv) (ok_impl_MulUp _ _) fun r10 _ => ?_
          refine Run.y (gv := vIv) (fun _ => ?_) (fun _ => ?_)
          · refine Run.z [true, true, true] ?_
            refine Run.q (e := vIv) (gv := vIv) (ok_impl_Whole) fun r11 _ => ?_
            exact Run.x 0
          · refine Run.z [false, false] ?_
            refine Run.y (gv := vIv) (fun _ => ?_) (fun _ => ?_)
            · refine Run.q (e := vIv) (gv := vIv) (ok_impl_Whole) fun r12 _ => ?_
              exact Run.x 0
            · refine Run.z [false] ?_
              refine Run.u 400 E_ok mixed Tryz.func152 ?_
              refine Run.z [true] ?_
              refine Run.q (e := vT_I_B) (gv := vIv) (ok_impl_MulDown _ _) fun r13 _ => ?_
              refine Run.q (e := vT_I_B) (gv := vIv) (ok_impl_MulUp _ _) fun r14 _ => ?_
              refine Run.y (gv := vIv) (fun _ => ?_) (fun _ => ?_)
              · refine Run.z [true, true, true] ?_
                refine Run.q (e := vIv) (gv := vIv) (ok_impl_Whole) fun r15 _ => ?_
                exact Run.x 0
              · refine Run.z [false, false] ?_
                refine Run.y (gv := vIv) (fun _ => ?_) (fun _ => ?_)
                · refine Run.q (e := vIv) (gv := vIv) (ok_impl_Whole) fun r16 _ => ?_
                  exact Run.x 0
                · refine Run.z [false] ?_
                  refine Run.u 400 E_ok mixed Tryz.func152 ?_
                  refine Run.z [false] ?_
                  refine Run.u 400 E_ok mixed Tryz.func152 ?_
                  refine Run.z [false] ?_
                  refine Run.q (e := vIv) (gv := vIv) (ok_impl_bounded _ _ _) fun r17 _ => ?_
                  exact Run.x 0

theorem ok_impl_MulI (a0 : Iv) (a1 : Iv) : Fun Tryz.prog 54 [] #[vIv a0, vIv a1] (vIv (F_impl_MulI a0 a1)) [] := by
  refine Fun.ofH 400 E_ok mixed Tryz.func54 (by kernel_rfl) (by kernel_rfl) ?_
  unfold F_impl_MulI
  refine Run.q (e := vB) (gv := vIv) (ok_impl_areBounded _ _) fun r1 _ => ?_
  refine Run.y (gv := vIv) (fun _ => ?_) (fun _ => ?_)
  · refine Run.q (e := vIv) (gv := vIv) (ok_impl_Whole) fun r2 _ => ?_
    exact Run.x 0
  · refine Run.q (e := vIv) (gv := vIv) (ok_impl_combine__impl_MulDown__impl_MulUp _ _) fun r3 _ => ?_
    exact Run.x 0

theorem ok_impl_series (a0 : Iv) (a1 : I64) : Fun Tryz.prog 388 [] #[vIv a0, vI a1] (vIv (F_impl_series a0 a1)) [] := by
  refine Fun.ofH 400 E_ok mixed Tryz.func388 (by kernel_rfl) (by kernel_rfl) ?_
  unfold F_impl_series
  refine Run.q (e := vIv) (gv := vIv) (ok_impl_Integer _) fun r1 _ => ?_
  refine Run.u 400 E_ok mixed Tryz.func388 ?_
  refine Run.z [true] ?_
  refine Run.q (e := vIv) (gv := vIv) (ok_impl_Integer _) fun r2 _ => ?_
  refine Run.q (e := vIv) (gv := vIv) (ok_impl_Integer _) fun r3 _ => ?_
  refine Run.q (e := vIv) (gv := vIv) (ok_impl_DivI _ _) fun r4 _ => ?_
  refine Run.q (e := vIv) (gv := vIv) (ok_impl_MulI _ _) fun r5 _ => ?_
  refine Run.q (e := vIv) (gv := vIv) (ok_impl_SubI _ _) fun r6 _ => ?_
  refine Run.u 400 E_ok mixed Tryz.func388 ?_
  refine Run.z [true] ?_
  refine Run.q (e := vIv) (gv := vIv) (ok_impl_Integer _) fun r7 _ => ?_
  refine Run.q (e := vIv) (gv := vIv) (ok_impl_Integer _) fun r8 _ => ?_
  refine Run.q (e := vIv) (gv := vIv) (ok_impl_DivI _ _) fun r9 _ => ?_
  refine Run.q (e := vIv) (gv := vIv) (ok_impl_MulI _ _) fun r10 _ => ?_
  refine Run.q (e := vIv) (gv := vIv) (ok_impl_SubI _ _) fun r11 _ => ?_
  refine Run.u 400 E_ok mixed Tryz.func388 ?_
  refine Run.z [true] ?_
  refine Run.q (e := vIv) (gv := vIv) (ok_impl_Integer _) fun r12 _ => ?_
  refine Run.q (e := vIv) (gv := vIv) (ok_impl_Integer _) fun r13 _ => ?_
  refine Run.q (e := vIv) (gv := vIv) (ok_impl_DivI _ _) fun r14 _ => ?_
  refine Run.q (e := vIv) (gv := vIv) (ok_impl_MulI _ _) fun r15 _ => ?_
  refine Run.q (e := vIv) (gv := vIv) (ok_impl_SubI _ _) fun r16 _ => ?_
  refine Run.u 400 E_ok mixed Tryz.func388 ?_
  refine Run.z [true] ?_
  refine Run.q (e := vIv) (gv := vIv) (ok_impl_Integer _) fun r17 _ => ?_
  refine Run.q (e := vIv) (gv := vIv) (ok_impl_Integer _) fun r18 _ => ?_
  refine Run.q (e := vIv) (gv := vIv) (ok_impl_DivI _ _) fun r19 _ => ?_
  refine Run.q (e := vIv) (gv := vIv) (ok_impl_MulI _ _) fun r20 _ => ?_
  refine Run.q (e := vIv) (gv := vIv) (ok_impl_SubI _ _) fun r21 _ => ?_
  refine Run.u 400 E_ok mixed Tryz.func388 ?_
  refine Run.z [true] ?_
  refine Run.q (e := vIv) (gv := vIv) (ok_impl_Integer _) fun r22 _ => ?_
  refine Run.q (e := vIv) (gv := vIv) (ok_impl_Integer _) fun r23 _ => ?_
  refine Run.q (e := vIv) (gv := vIv) (ok_impl_DivI _ _) fun r24 _ => ?_
  refine Run.q (e := vIv) (gv := vIv) (ok_impl_MulI _ _) fun r25 _ => ?_
  refine Run.q (e := vIv) (gv := vIv) (ok_impl_SubI _ _) fun r26 _ => ?_
  refine Run.u 400 E_ok mixed Tryz.func388 ?_
  refine Run.z [true] ?_
  refine Run.q (e := vIv) (gv := vIv) (ok_impl_Integer _) fun r27 _ => ?_
  refine Run.q (e := vIv) (gv := vIv) (ok_impl_Integer _) fun r28 _ => ?_
  refine Run.q (e := vIv) (gv := vIv) (ok_impl_DivI _ _) fun r29 _ => ?_
  refine Run.q (e := vIv) (gv := vIv) (ok_impl_MulI _ _) fun r30 _ => ?_
  refine Run.q (e := vIv) (gv := vIv) (ok_impl_SubI _ _) fun r31 _ => ?_
  refine Run.u 400 E_ok mixed Tryz.func388 ?_
  refine Run.z [true] ?_
  refine Run.q (e := vIv) (gv := vIv) (ok_impl_Integer _) fun r32 _ => ?_
  refine Run.q (e := vIv) (gv := vIv) (ok_impl_Integer _) fun r33 _ => ?_
  refine Run.q (e := vIv) (gv := vIv) (ok_impl_DivI _ _) fun r34 _ => ?_
  refine Run.q (e := vIv) (gv := vIv) (ok_impl_MulI _ _) fun r35 _ => ?_
  refine Run.q (e := vIv) (gv := vIv) (ok_impl_SubI _ _) fun r36 _ => ?_
  refine Run.u 400 E_ok mixed Tryz.func388 ?_
  refine Run.z [true] ?_
  refine Run.q (e := vIv) (gv := vIv) (ok_impl_Integer _) fun r37 _ => ?_
  refine Run.q (e := vIv) (gv := vIv) (ok_impl_Integer _) fun r38 _ => ?_
  refine Run.q (e := vIv) (gv := vIv) (ok_impl_DivI _ _) fun r39 _ => ?_
  refine Run.q (e := vIv) (gv := vIv) (ok_impl_MulI _ _) fun r40 _ => ?_
  refine Run.q (e := vIv) (gv := vIv) (ok_impl_SubI _ _) fun r41 _ => ?_
  refine Run.u 400 E_ok mixed Tryz.func388 ?_
  refine Run.z [false] ?_
  exact Run.x 0

theorem ok_impl_tiny : Fun Tryz.prog 389 [] #[] (vIv (F_impl_tiny)) [] := by
  refine Fun.ofH 400 E_ok mixed Tryz.func389 (by kernel_rfl) (by kernel_rfl) ?_
  unfold F_impl_tiny
  exact Run.x 0

theorem ok_impl_SinSeries (a0 : Iv) : Fun Tryz.prog 358 [] #[vIv a0] (vIv (F_impl_SinSeries a0)) [] := by
  refine Fun.ofH 400 E_ok mixed Tryz.func358 (by kernel_rfl) (by kernel_rfl) ?_
  unfold F_impl_SinSeries
  refine Run.q (e := vIv) (gv := vIv) (ok_impl_ring) fun r1 _ => ?_
  refine Run.q (e := vB) (gv := vIv) (ok_impl_InsideI _ _) fun r2 _ => ?_
  refine Run.y (gv := vIv) (fun _ => ?_) (fun _ => ?_)
  · refine Run.q (e := vIv) (gv := vIv) (ok_impl_Whole) fun r3 _ => ?_
    exact Run.x 0
  · refine Run.q (e := vIv) (gv := vIv) (ok_impl_SqrI _) fun r4 _ => ?_
    refine Run.q (e := vIv) (gv := vIv) (ok_impl_series _ _) fun r5 _ => ?_
    refine Run.q (e := vIv) (gv := vIv) (ok_impl_MulI _ _) fun r6 _ => ?_
    refine Run.q (e := vIv) (gv := vIv) (ok_impl_tiny) fun r7 _ => ?_
    refine Run.q (e := vIv) (gv := vIv) (ok_impl_AddI _ _) fun r8 _ => ?_
    exact Run.x 0

theorem ok_impl_MeetI (a0 : Iv) (a1 : Iv) : Fun Tryz.prog 308 [] #[vIv a0, vIv a1] (vT_Iv_B (F_impl_MeetI a0 a1)) [] := by
  refine Fun.ofH 400 E_ok mixed Tryz.func308 (by kernel_rfl) (by kernel_rfl) ?_
  unfold F_impl_MeetI
  refine Run.q (e := vB) (gv := vT_Iv_B) (ok_impl_IsWhole _) fun r1 _ => ?_
  refine Run.y (gv := vT_Iv_B) (fun _ => ?_) (fun _ => ?_)
  · refine Run.z [true] ?_
    refine Run.q (e := vB) (gv := vT_Iv_B) (ok_impl_IsWhole _) fun r2 _ => ?_
    refine Run.z [true] ?_
    refine Run.y (gv := vT_Iv_B) (fun _ => ?_) (fun _ => ?_)
    · refine Run.q (e := vIv) (gv := vT_Iv_B) (ok_impl_Whole) fun r3 _ => ?_
      exact Run.x 0
    · refine Run.q (e := vB) (gv := vT_Iv_B) (ok_impl_IsWhole _) fun r4 _ => ?_
      refine Run.y (gv := vT_Iv_B) (fun _ => ?_) (fun _ => ?_)
      · exact Run.x 0
      · refine Run.q (e := vB) (gv := vT_Iv_B) (ok_impl_IsWhole _) fun r5 _ => ?_
        refine Run.y (gv := vT_Iv_B) (fun _ => ?_) (fun _ => ?_)
        · exact Run.x 0
        · refine Run.y (gv := vT_Iv_B) (fun _ => ?_) (fun _ => ?_)
          · exact Run.x 0
          · exact Run.x 0
  · refine Run.z [false, false, false] ?_
    refine Run.q (e := vB) (gv := vT_Iv_B) (ok_impl_IsWhole _) fun r6 _ => ?_
    refine Run.y (gv := vT_Iv_B) (fun _ => ?_) (fun _ => ?_)
    · exact Run.x 0
    · refine Run.q (e := vB) (gv := vT_Iv_B) (ok_impl_IsWhole _) fun r7 _ => ?_
      refine Run.y (gv := vT_Iv_B) (fun _ => ?_) (fun _ => ?_)
      · exact Run.x 0
      · refine Run.y (gv := vT_Iv_B) (fun _ => ?_) (fun _ => ?_)
        · exact Run.x 0
        · exact Run.x 0

theorem ok_impl_inRing (a0 : Iv) : Fun Tryz.prog 357 [] #[vIv a0] (vIv (F_impl_inRing a0)) [] := by
  refine Fun.ofH 400 E_ok mixed Tryz.func357 (by kernel_rfl) (by kernel_rfl) ?_
  unfold F_impl_inRing
  refine Run.q (e := vIv) (gv := vIv) (ok_impl_ring) fun r1 _ => ?_
  refine Run.q (e := vT_Iv_B) (gv := vIv) (ok_impl_MeetI _ _) fun r2 _ => ?_
  exact Run.x 0

theorem ok_impl_CosSeries (a0 : Iv) : Fun Tryz.prog 359 [] #[vIv a0] (vIv (F_impl_CosSeries a0)) [] := by
  refine Fun.ofH 400 E_ok mixed Tryz.func359 (by kernel_rfl) (by kernel_rfl) ?_
  unfold F_impl_CosSeries
  refine Run.q (e := vIv) (gv := vIv) (ok_impl_ring) fun r1 _ => ?_
  refine Run.q (e := vB) (gv := vIv) (ok_impl_InsideI _ _) fun r2 _ => ?_
  refine Run.y (gv := vIv) (fun _ => ?_) (fun _ => ?_)
  · refine Run.q (e := vIv) (gv := vIv) (ok_impl_Whole) fun r3 _ => ?_
    exact Run.x 0
  · refine Run.q (e := vIv) (gv := vIv) (ok_impl_SqrI _) fun r4 _ => ?_
    refine Run.q (e := vIv) (gv := vIv) (ok_impl_series _ _) fun r5 _ => ?_
    refine Run.q (e := vIv) (gv := vIv) (ok_impl_tiny) fun r6 _ => ?_
    refine Run.q (e := vIv) (gv := vIv) (ok_impl_AddI _ _) fun r7 _ => ?_
    exact Run.x 0

theorem ok_impl_circleValue (a0 : I64) (a1 : I64) : Fun Tryz.prog 277 [] #[vI a0, vI a1] (vIv (F_impl_circleValue a0 a1)) [] := by
  refine Fun.ofH 400 E_ok mixed Tryz.func277 (by kernel_rfl) (by kernel_rfl) ?_
  unfold F_impl_circleValue
  refine Run.q (e := vB) (gv := vIv) (ok_impl_isAngle _) fun r1 _ => ?_
  refine Run.y (gv := vIv) (fun _ => ?_) (fun _ => ?_)
  · refine Run.q (e := vIv) (gv := vIv) (ok_impl_ring) fun r2 _ => ?_
    exact Run.x 0
  · refine Run.q (e := vI) (gv := vIv) (ok_impl_QuarterOf _) fun r3 _ => ?_
    refine Run.q (e := vIv) (gv := vIv) (ok_impl_at _) fun r4 _ => ?_
    refine Run.q (e := vIv) (gv := vIv) (ok_impl_TurnI _) fun r5 _ => ?_
    refine Run.q (e := vIv) (gv := vIv) (ok_impl_SubI _ _) fun r6 _ => ?_
    refine Run.y (gv := vIv) (fun _ => ?_) (fun _ => ?_)
    · refine Run.q (e := vIv) (gv := vIv) (ok_impl_SinSeries _) fun r7 _ => ?_
      refine Run.q (e := vIv) (gv := vIv) (ok_impl_inRing _) fun r8 _ => ?_
      exact Run.x 0
    · refine Run.y (gv := vIv) (fun _ => ?_) (fun _ => ?_)
      · refine Run.q (e := vIv) (gv := vIv) (ok_impl_CosSeries _) fun r9 _ => ?_
        refine Run.q (e := vIv) (gv := vIv) (ok_impl_inRing _) fun r10 _ => ?_
        exact Run.x 0
      · refine Run.y (gv := vIv) (fun _ => ?_) (fun _ => ?_)
        · refine Run.q (e := vIv) (gv := vIv) (ok_impl_SinSeries _) fun r11 _ => ?_
          refine Run.q (e := vIv) (gv := vIv) (ok_impl_NegI _) fun r12 _ => ?_
          refine Run.q (e := vIv) (gv := vIv) (ok_impl_inRing _) fun r13 _ => ?_
          exact Run.x 0
        · refine Run.q (e := vIv) (gv := vIv) (ok_impl_CosSeries _) fun r14 _ => ?_
          refine Run.q (e := vIv) (gv := vIv) (ok_impl_NegI _) fun r15 _ => ?_
          refine Run.q (e := vIv) (gv := vIv) (ok_impl_inRing _) fun r16 _ => ?_
          exact Run.x 0

theorem ok_impl_HullI (a0 : Iv) (a1 : Iv) : Fun Tryz.prog 172 [] #[vIv a0, vIv a1] (vIv (F_impl_HullI a0 a1)) [] := by
  refine Fun.ofH 400 E_ok mixed Tryz.func172 (by kernel_rfl) (by kernel_rfl) ?_
  unfold F_impl_HullI
  refine Run.q (e := vB) (gv := vIv) (ok_impl_areBounded _ _) fun r1 _ => ?_
  refine Run.y (gv := vIv) (fun _ => ?_) (fun _ => ?_)
  · refine Run.q (e := vIv) (gv := vIv) (ok_impl_Whole) fun r2 _ => ?_
    exact Run.x 0
  · exact Run.x 0

theorem ok_impl_OverlapI (a0 : Iv) (a1 : Iv) : Fun Tryz.prog 223 [] #[vIv a0, vIv a1] (vB (F_impl_OverlapI a0 a1)) [] := by
  refine Fun.ofH 400 E_ok mixed Tryz.func223 (by kernel_rfl) (by kernel_rfl) ?_
  unfold F_impl_OverlapI
  refine Run.q (e := vT_Iv_B) (gv := vB) (ok_impl_MeetI _ _) fun r1 _ => ?_
  exact Run.x 0

theorem len_impl_turnsIn_L0 (a0 : Iv) : ∀ (fu : Nat) (x_k : I64) (acc : List I64), (F_impl_turnsIn_L0 fu a0 x_k acc).length ≤ acc.length + fu := by
  intro fu
  induction fu with
  | zero => intro x_k acc; exact Nat.le_refl _
  | succ fu ih =>
    intro x_k acc
    unfold F_impl_turnsIn_L0
    simp only [bindP]
    have h1 := ih (w64 (x_k.val + 1)) (acc ++ [x_k])
    have h2 := ih (w64 (x_k.val + 1)) acc
    rw [List.length_append] at h1
    simp only [List.length_cons, List.length_nil] at h1
    cases decide (x_k.val ≤ (w64 ((F_impl_QuarterOf a0.hi).val + 1)).val)
    · rw [cond_false]; omega
    · rw [cond_true]
      cases F_impl_OverlapI (F_impl_TurnI x_k) a0
      · rw [cond_false]; omega
      · rw [cond_true]; omega
theorem len_impl_turnsIn (a0 : Iv) : (F_impl_turnsIn a0).length ≤ 4000 := by
  have qb := impl_quarter_bounds a0.lo
  unfold F_impl_turnsIn
  simp only [bindP]
  have := len_impl_turnsIn_L0 a0 ((2000 - (w64 ((F_impl_QuarterOf a0.lo).val - 1)).val).toNat + 1) (w64 ((F_impl_QuarterOf a0.lo).val - 1)) []
  have e1 : (w64 ((F_impl_QuarterOf a0.lo).val - 1)).val = (F_impl_QuarterOf a0.lo).val - 1 := by rw [w64_val]; omega
  simp only [List.length_nil, Nat.zero_add] at this
  refine Nat.le_trans this ?_
  omega
theorem ok_impl_turnsIn_L0 (a0 : Iv) : ∀ (fu : Nat) (x_k : I64) (acc : List I64) (v : Value) (X : List Blk) (hv : LS 2 acc v ((#[.int .i64 a0.lo.val, .int .i64 a0.hi.val], 25) :: X)) (hm : (2000 - x_k.val).toNat < fu) (hk : -1100 ≤ x_k.val) (hlen : (acc.length : Int) ≤ x_k.val + 1100)
    (t : Array Value) (ht : maskA t [0, 2, 5, 6, 7, 8, 9, 10, 11, 12, 13, 14, 15, 16, 17, 18, 19, 20, 21, 22, 23, 24, 25] = #[undef, .pointer (some ⟨0, 0, none⟩), undef, v, .int .i64 x_k.val, undef, undef, undef, undef, undef, undef, undef, undef, undef, undef, undef, undef, undef, undef, undef, undef, undef, undef, undef, undef, undef]),
    Cfg Tryz.prog 278 (loopAt Tryz.f278 0) t ((#[.int .i64 a0.lo.val, .int .i64 a0.hi.val], 25) :: X) (LS 2 (F_impl_turnsIn_L0 fu a0 x_k acc)) := by
  intro fu
  induction fu with
  | zero => intro x_k acc v X hv hm; exact absurd hm (Nat.not_lt_zero _)
  | succ fu ih =>
    intro x_k acc v X hv hm hk hlen t ht
    refine Cfg.round E_ok mixed Tryz.func278 ht fun q => ?_
    unfold F_impl_turnsIn_L0
    have qb := impl_quarter_bounds a0.hi
    refine Run.c (by kernel_rfl) (by kernel_rfl) (ok_impl_QuarterOf a0.hi) rfl ?_
    simp only [bindP]
    generalize F_impl_QuarterOf a0.hi = r1 at *
    refine Run.i (c := decide (x_k.val ≤ (w64 (r1.val + 1)).val)) (by kernel_rfl) (fun h1 => ?_) (fun h1 => ?_)
    · rw [h1, cond_true]
      simp only [w64_val, decide_eq_true_eq] at h1
      refine Run.c (by kernel_rfl) (by kernel_rfl) (ok_impl_TurnI x_k) rfl ?_
      generalize F_impl_TurnI x_k = r2
      refine Run.c (by kernel_rfl) (by kernel_rfl) (ok_impl_OverlapI r2 a0) rfl ?_
      generalize F_impl_OverlapI r2 a0 = r3
      have e1 : (w64 (x_k.val + 1)).val = x_k.val + 1 := by rw [w64_val]; omega
      refine Run.i (c := r3) (by kernel_rfl) (fun h2 => ?_) (fun h2 => ?_)
      · rw [h2, cond_true]
        refine Run.h (td := appAt Tryz.f278 0) (H := (#[.int .i64 a0.lo.val, .int .i64 a0.hi.val], 25) :: X) (by kernel_rfl) (by kernel_rfl) rfl (by kernel_rfl) ?_
        refine Cfg.app (T := 133) (e := 2) (d1 := 21) (d2 := 22) (d3 := 23) (d4 := 24) (s := 3) (x := 4) (L := acc) (v := v) (z := x_k) (by kernel_rfl) (by kernel_rfl) (by kernel_rfl) (by kernel_rfl) (by decide) (by kernel_rfl) (by kernel_rfl) (by kernel_rfl) hv (by omega) fun v4 H4 hv4 hs4 => ?_
        obtain ⟨X4, rfl⟩ := head_same hs4 (show (25 : Nat) ≠ 2 by decide)
        refine exec_cfg E_ok mixed Tryz.func278 400 _ _ _ _ ?_
        exact Run.l (by kernel_rfl) (by kernel_rfl) (by kernel_rfl) (by kernel_rfl) (ih (w64 (x_k.val + 1)) (acc ++ [x_k]) v4 X4 hv4 (by omega) (by omega) (by rw [List.length_append]; simp only [List.length_cons, List.length_nil]; omega))
      · rw [h2, cond_false]
        exact Run.l (by kernel_rfl) (by kernel_rfl) (by kernel_rfl) (by kernel_rfl) (ih (w64 (x_k.val + 1)) acc v X hv (by omega) (by omega) (by omega))
    · rw [h1, cond_false]
      exact Run.rl (v := v) (by kernel_rfl) (by kernel_rfl) hv
theorem ok_impl_turnsIn (a0 : Iv) : FunR Tryz.prog 278 [] #[vIv a0] (Lone 2 (F_impl_turnsIn a0)) := by
  refine FunR.lone (FunR.of 400 E_ok mixed Tryz.func278 (by kernel_rfl) ?_)
  unfold F_impl_turnsIn
  have qb := impl_quarter_bounds a0.lo
  refine Run.c (by kernel_rfl) (by kernel_rfl) (ok_impl_QuarterOf a0.lo) rfl ?_
  simp only [bindP]
  generalize F_impl_QuarterOf a0.lo = r1 at *
  have e1 : (w64 (r1.val - 1)).val = r1.val - 1 := by rw [w64_val]; omega
  exact Run.l (by kernel_rfl) (by kernel_rfl) (by kernel_rfl) (by kernel_rfl) (ok_impl_turnsIn_L0 a0 _ (w64 (r1.val - 1)) [] (.slice none 0 0) [] (.inl ⟨rfl, rfl⟩) (by omega) (by omega) (by simp only [List.length_nil]; omega))

theorem ok_impl_circleHull_L0 : ∀ (fu : Nat) (cp_r7 : Nat) (pd_r7 : List Value) (a1 : I64) (r7 : List I64) (a0 : Iv) (x_24 : I64) (y_2 : Iv) (q0 : 0 ≤ x_24.val) (q1 : ((r7.length : Nat) : Int) ≤ 4000) (hm : (((r7.length : Nat) : Int) - x_24.val).toNat < fu) (t : Array Value) (ht : maskA t [0, 2, 3, 6, 7, 8, 9, 10, 11, 12, 13, 14, 15, 16, 17, 18, 19, 20, 21, 25, 26, 27, 28, 29, 30, 31, 32, 33, 34, 35, 36, 37, 38, 39, 40, 41, 42, 43] = #[undef, .int .i64 a1.val, undef, undef, .pointer (some ⟨1, 0, none⟩), .pointer (some ⟨2, 0, none⟩), undef, undef, undef, undef, undef, undef, undef, undef, undef, undef, undef, undef, undef, undef, undef, undef, .slice (some ⟨3, 0, some 0⟩) r7.length cp_r7, .int .i64 (((r7.length : Nat) : Int)), .int .i64 x_24.val, undef, undef, undef, undef, undef, undef, undef, undef, undef, undef, undef, undef, undef, undef, undef, undef, undef, undef, undef]), Cfg Tryz.prog 156 (loopAt Tryz.f156 0) t [(#[.int .i64 a0.lo.val, .int .i64 a0.hi.val], 25), (#[.int .i64 0, .int .i64 0], 25), (#[.int .i64 y_2.lo.val, .int .i64 y_2.hi.val], 25), (rowOf r7 pd_r7, 2)] (RvH [] (vIv (F_impl_circleHull_L0 fu a1 r7 a0 x_24 y_2))) := by
  intro fu
  induction fu with
  | zero => intro cp_r7 pd_r7 a1 r7 a0 x_24 y_2 q0 q1 hm; exact absurd hm (Nat.not_lt_zero _)
  | succ fu ih =>
    intro cp_r7 pd_r7 a1 r7 a0 x_24 y_2 q0 q1 hm t ht
    refine Cfg.round E_ok mixed Tryz.func156 ht fun g => ?_
    unfold F_impl_circleHull_L0
    refine Run.y (gv := vIv) (fun h8 => ?_) (fun h8 => ?_)
    · refine Run.k (c := (decide (0 ≤ x_24.val ∧ x_24.val < ((r7.length : Nat) : Int)))) (by kernel_rfl) (by simp only [w64_val, wu64_val, c64_val, cu64_val, decide_eq_true_eq, decide_eq_false_iff_not, cond_true, cond_false] at *; omega) ?_
      refine Run.ld (by kernel_rfl) (listAt_ok (L := r7) (pad := pd_r7) (i := x_24) (by simp only [w64_val, wu64_val, c64_val, cu64_val, decide_eq_true_eq, decide_eq_false_iff_not, cond_true, cond_false] at *; omega)) ?_
      refine Run.y (gv := vIv) (fun h9 => ?_) (fun h9 => ?_)
      · refine Run.q (e := vIv) (gv := vIv) (ok_impl_Integer _) fun r10 hr10 => ?_
        refine Run.q (e := vIv) (gv := vIv) (ok_impl_HullI _ _) fun r11 hr11 => ?_
        exact Run.l (by kernel_rfl) (by kernel_rfl) (by kernel_rfl) (by kernel_rfl) (ih cp_r7 pd_r7 a1 r7 a0 (w64 (x_24.val + 1)) r11 (by first | omega | (simp only [w64_val, wu64_val, c64_val, cu64_val, decide_eq_true_eq, decide_eq_false_iff_not, cond_true, cond_false] at *; omega)) (by first | omega | (simp only [w64_val, wu64_val, c64_val, cu64_val, decide_eq_true_eq, decide_eq_false_iff_not, cond_true, cond_false] at *; omega)) (by first | omega | (simp only [w64_val, wu64_val, c64_val, cu64_val, decide_eq_true_eq, decide_eq_false_iff_not, cond_true, cond_false] at *; omega)))
      · refine Run.y (gv := vIv) (fun h12 => ?_) (fun h12 => ?_)
        · refine Run.q (e := vIv) (gv := vIv) (ok_impl_Integer _) fun r13 hr13 => ?_
          refine Run.q (e := vIv) (gv := vIv) (ok_impl_HullI _ _) fun r14 hr14 => ?_
          exact Run.l (by kernel_rfl) (by kernel_rfl) (by kernel_rfl) (by kernel_rfl) (ih cp_r7 pd_r7 a1 r7 a0 (w64 (x_24.val + 1)) r14 (by first | omega | (simp only [w64_val, wu64_val, c64_val, cu64_val, decide_eq_true_eq, decide_eq_false_iff_not, cond_true, cond_false] at *; omega)) (by first | omega | (simp only [w64_val, wu64_val, c64_val, cu64_val, decide_eq_true_eq, decide_eq_false_iff_not, cond_true, cond_false] at *; omega)) (by first | omega | (simp only [w64_val, wu64_val, c64_val, cu64_val, decide_eq_true_eq, decide_eq_false_iff_not, cond_true, cond_false] at *; omega)))
        · exact Run.l (by kernel_rfl) (by kernel_rfl) (by kernel_rfl) (by kernel_rfl) (ih cp_r7 pd_r7 a1 r7 a0 (w64 (x_24.val + 1)) y_2 (by first | omega | (simp only [w64_val, wu64_val, c64_val, cu64_val, decide_eq_true_eq, decide_eq_false_iff_not, cond_true, cond_false] at *; omega)) (by first | omega | (simp only [w64_val, wu64_val, c64_val, cu64_val, decide_eq_true_eq, decide_eq_false_iff_not, cond_true, cond_false] at *; omega)) (by first | omega | (simp only [w64_val, wu64_val, c64_val, cu64_val, decide_eq_true_eq, decide_eq_false_iff_not, cond_true, cond_false] at *; omega)))
    · exact Run.x 0

theorem ok_impl_circleHull (a0 : Iv) (a1 : I64) : Fun Tryz.prog 156 [] #[vIv a0, vI a1] (vIv (F_impl_circleHull a0 a1)) [] := by
  refine Fun.ofH 400 E_ok mixed Tryz.func156 (by kernel_rfl) (by kernel_rfl) ?_
  unfold F_impl_circleHull
  refine Run.q (e := vB) (gv := vIv) (ok_impl_areAngles _) fun r1 hr1 => ?_
  refine Run.y (gv := vIv) (fun h2 => ?_) (fun h2 => ?_)
  · refine Run.q (e := vIv) (gv := vIv) (ok_impl_ring) fun r3 hr3 => ?_
    exact Run.x 0
  · refine Run.q (e := vIv) (gv := vIv) (ok_impl_circleValue _ _) fun r4 hr4 => ?_
    refine Run.q (e := vIv) (gv := vIv) (ok_impl_circleValue _ _) fun r5 hr5 => ?_
    refine Run.q (e := vIv) (gv := vIv) (ok_impl_HullI _ _) fun r6 hr6 => ?_
    refine Run.bl (gv := vIv) (by kernel_rfl) (by kernel_rfl) (ok_impl_turnsIn _) (by kernel_rfl) (fun r7 hr7 nr7 => ?_) (fun r7 hr7 cp_r7 pd_r7 => ?_)
    · subst nr7
      have e0 : F_impl_circleHull_L0 (((([] : List I64).length : Nat) : Int).toNat + 1) a1 ([] : List I64) a0 (c64 0) r6 = r6 := by rw [F_impl_circleHull_L0]; exact cond_false _ _
      show Run _ _ (RvH [] (vIv (F_impl_circleHull_L0 (((([] : List I64).length : Nat) : Int).toNat + 1) a1 ([] : List I64) a0 (c64 0) r6))) _
      rw [e0]
      refine Run.u 400 E_ok mixed Tryz.func156 ?_
      refine Run.z [false] ?_
      exact Run.x 0
    · have hl_r7 : ((r7.length : Nat) : Int) ≤ 4000 := by rw [hr7]; exact Int.ofNat_le.2 (len_impl_turnsIn _)
      exact Run.l (by kernel_rfl) (by kernel_rfl) (by kernel_rfl) (by kernel_rfl) (ok_impl_circleHull_L0 (((r7.length : Nat) : Int).toNat + 1) cp_r7 pd_r7 a1 r7 a0 (c64 0) r6 (by first | omega | (simp only [w64_val, wu64_val, c64_val, cu64_val, decide_eq_true_eq, decide_eq_false_iff_not, cond_true, cond_false] at *; omega)) (by first | omega | (simp only [w64_val, wu64_val, c64_val, cu64_val, decide_eq_true_eq, decide_eq_false_iff_not, cond_true, cond_false] at *; omega)) (by first | omega | (simp only [w64_val, wu64_val, c64_val, cu64_val, decide_eq_true_eq, decide_eq_false_iff_not, cond_true, cond_false] at *; omega)))

theorem ok_impl_CosI (a0 : Iv) : Fun Tryz.prog 59 [] #[vIv a0] (vIv (F_impl_CosI a0)) [] := by
  refine Fun.ofH 400 E_ok mixed Tryz.func59 (by kernel_rfl) (by kernel_rfl) ?_
  unfold F_impl_CosI
  refine Run.q (e := vIv) (gv := vIv) (ok_impl_circleHull _ _) fun r1 _ => ?_
  exact Run.x 0

theorem ok_impl_SinI (a0 : Iv) : Fun Tryz.prog 57 [] #[vIv a0] (vIv (F_impl_SinI a0)) [] := by
  refine Fun.ofH 400 E_ok mixed Tryz.func57 (by kernel_rfl) (by kernel_rfl) ?_
  unfold F_impl_SinI
  refine Run.q (e := vIv) (gv := vIv) (ok_impl_circleHull _ _) fun r1 _ => ?_
  exact Run.x 0

theorem ok_impl_transverse (a0 : Pj) (a1 : Pt) : Fun Tryz.prog 126 [] #[vPj a0, vPt a1] (vT_Iv_Iv_Iv_I (F_impl_transverse a0 a1)) [] := by
  refine Fun.ofH 400 E_ok mixed Tryz.func126 (by kernel_rfl) (by kernel_rfl) ?_
  unfold F_impl_transverse
  refine Run.q (e := vB) (gv := vT_Iv_Iv_Iv_I) (ok_impl_isTransverse _) fun r1 _ => ?_
  refine Run.y (gv := vT_Iv_Iv_Iv_I) (fun _ => ?_) (fun _ => ?_)
  · refine Run.z [true, true, true, true] ?_
    exact Run.x 0
  · refine Run.z [false] ?_
    refine Run.q (e := vB) (gv := vT_Iv_Iv_Iv_I) (ok_impl_ValidPoint _) fun r2 _ => ?_
    refine Run.z [false, false] ?_
    refine Run.y (gv := vT_Iv_Iv_Iv_I) (fun _ => ?_) (fun _ => ?_)
    · exact Run.x 0
    · refine Run.y (gv := vT_Iv_Iv_Iv_I) (fun _ => ?_) (fun _ => ?_)
      · refine Run.z [true, true, true, true, true] ?_
        refine Run.q (e := vI) (gv := vT_Iv_Iv_Iv_I) (ok_impl_WrapLon _) fun r3 _ => ?_
        refine Run.z [true] ?_
        refine Run.q (e := vI) (gv := vT_Iv_Iv_Iv_I) (ok_impl_abs _) fun r4 _ => ?_
        refine Run.z [true, true] ?_
        refine Run.y (gv := vT_Iv_Iv_Iv_I) (fun _ => ?_) (fun _ => ?_)
        · exact Run.x 0
        · refine Run.q (e := vIv) (gv := vT_Iv_Iv_Iv_I) (ok_impl_LatOf _) fun r5 _ => ?_
          refine Run.q (e := vIv) (gv := vT_Iv_Iv_Iv_I) (ok_impl_LonFrom _ _) fun r6 _ => ?_
          refine Run.q (e := vIv) (gv := vT_Iv_Iv_Iv_I) (ok_impl_CosI _) fun r7 _ => ?_
          refine Run.q (e := vIv) (gv := vT_Iv_Iv_Iv_I) (ok_impl_SinI _) fun r8 _ => ?_
          refine Run.q (e := vIv) (gv := vT_Iv_Iv_Iv_I) (ok_impl_MulI _ _) fun r9 _ => ?_
          exact Run.x 0
      · refine Run.z [false, false, false, false, false, false, false, false, false] ?_
        refine Run.q (e := vIv) (gv := vT_Iv_Iv_Iv_I) (ok_impl_LatOf _) fun r10 _ => ?_
        refine Run.q (e := vIv) (gv := vT_Iv_Iv_Iv_I) (ok_impl_LonFrom _ _) fun r11 _ => ?_
        refine Run.q (e := vIv) (gv := vT_Iv_Iv_Iv_I) (ok_impl_CosI _) fun r12 _ => ?_
        refine Run.q (e := vIv) (gv := vT_Iv_Iv_Iv_I) (ok_impl_SinI _) fun r13 _ => ?_
        refine Run.q (e := vIv) (gv := vT_Iv_Iv_Iv_I) (ok_impl_MulI _ _) fun r14 _ => ?_
        exact Run.x 0

theorem ok_impl_odd (g : FuncId) : Fun Tryz.prog 251 [] #[.func (.func g) #[] #[]] (.func (.func 328) #[] #[.pointer (some ⟨0, 0, none⟩)]) [(#[.func (.func g) #[] #[]], 78)] := by
  refine FunR.fo rfl (FunR.of 400 E_ok mixed Tryz.func251 (by kernel_rfl) ?_)
  exact Run.r (by kernel_rfl) ⟨0, rfl, by kernel_rfl⟩

theorem ok_impl_twosOf_L1 : ∀ (fu : Nat) (a0 : I64) (x_e : I64) (q0 : 1 ≤ a0.val) (q1 : a0.val ≤ 1152921504606846976) (q2 : -1000 ≤ x_e.val) (q3 : x_e.val ≤ 0 → a0.val * 2 ^ (0 - x_e.val).toNat < 6442450944) (hm : (64 + x_e.val).toNat < fu) (t : Array Value) (ht : maskA t [1, 4, 5, 6, 7, 8, 9, 10, 11, 12, 13, 14, 15, 16, 17, 18, 19, 20, 21] = #[.int .i64 a0.val, undef, .int .i64 0, .int .i64 x_e.val, undef, undef, undef, undef, undef, undef, undef, undef, undef, undef, undef, undef, undef, undef, undef, undef, undef, undef]), Cfg Tryz.prog 372 (loopAt Tryz.f372 1) t [] (RvH [] (vI (F_impl_twosOf_L1 fu a0 x_e))) := by
  intro fu
  induction fu with
  | zero => intro a0 x_e q0 q1 q2 q3 hm; exact absurd hm (Nat.not_lt_zero _)
  | succ fu ih =>
    intro a0 x_e q0 q1 q2 q3 hm t ht
    refine Cfg.round E_ok mixed Tryz.func372 ht fun g => ?_
    unfold F_impl_twosOf_L1
    refine Run.y (gv := vI) (fun h2 => ?_) (fun h2 => ?_)
    · refine Run.z [true, true, true] ?_
      refine Run.k (c := (decide (0 ≤ (w64 (0 - x_e.val)).val))) (by kernel_rfl) (by first | exact decide_eq_true (by omega) | (simp only [w64_val, decide_eq_true_eq] at *; omega)) ?_
      refine Run.z [true, true] ?_
      refine Run.y (gv := vI) (fun h3 => ?_) (fun h3 => ?_)
      · exact Run.l (by kernel_rfl) (by kernel_rfl) (by kernel_rfl) (by kernel_rfl) (ih a0 (w64 (x_e.val - 1)) (by first | exact q0 | exact q1 | exact Nat.lt_succ_self _ | (have z := two_less a0 x_e q0 q3 h2 h3; first | exact z.2.2 | (simp only [w64_val]; omega))) (by first | exact q0 | exact q1 | exact Nat.lt_succ_self _ | (have z := two_less a0 x_e q0 q3 h2 h3; first | exact z.2.2 | (simp only [w64_val]; omega))) (by first | exact q0 | exact q1 | exact Nat.lt_succ_self _ | (have z := two_less a0 x_e q0 q3 h2 h3; first | exact z.2.2 | (simp only [w64_val]; omega))) (by first | exact q0 | exact q1 | exact Nat.lt_succ_self _ | (have z := two_less a0 x_e q0 q3 h2 h3; first | exact z.2.2 | (simp only [w64_val]; omega))) (by first | exact q0 | exact q1 | exact Nat.lt_succ_self _ | (have z := two_less a0 x_e q0 q3 h2 h3; first | exact z.2.2 | (simp only [w64_val]; omega))))
      · exact Run.x 0
    · refine Run.z [false, false, false, false, false, false] ?_
      exact Run.x 0

theorem ok_impl_twosOf_L0 : ∀ (fu : Nat) (a0 : I64) (x_e : I64) (q0 : 1 ≤ a0.val) (q1 : a0.val ≤ 1152921504606846976) (q2 : 0 ≤ x_e.val ∧ x_e.val ≤ 40) (hm : (64 - x_e.val).toNat < fu) (t : Array Value) (ht : maskA t [1, 4, 5, 6, 7, 8, 9, 10, 11, 12, 13, 14, 15, 16, 17, 18, 19, 20, 21] = #[.int .i64 a0.val, undef, .int .i64 0, .int .i64 x_e.val, undef, undef, undef, undef, undef, undef, undef, undef, undef, undef, undef, undef, undef, undef, undef, undef, undef, undef]), Cfg Tryz.prog 372 (loopAt Tryz.f372 0) t [] (RvH [] (vI (F_impl_twosOf_L0 fu a0 x_e))) := by
  intro fu
  induction fu with
  | zero => intro a0 x_e q0 q1 q2 hm; exact absurd hm (Nat.not_lt_zero _)
  | succ fu ih =>
    intro a0 x_e q0 q1 q2 hm t ht
    refine Cfg.round E_ok mixed Tryz.func372 ht fun g => ?_
    unfold F_impl_twosOf_L0
    refine Run.k (c := (decide (0 ≤ x_e.val))) (by kernel_rfl) (by first | exact decide_eq_true (by omega) | (simp only [w64_val, decide_eq_true_eq] at *; omega)) ?_
    refine Run.y (gv := vI) (fun h1 => ?_) (fun h1 => ?_)
    · exact Run.l (by kernel_rfl) (by kernel_rfl) (by kernel_rfl) (by kernel_rfl) (ih a0 (w64 (x_e.val + 1)) (by first | exact q0 | exact q1 | exact Nat.lt_succ_self _ | exact two_exit a0 x_e q2.1 h1 | (have z := shr_big a0 x_e q1 q2.1 h1; simp only [w64_val]; omega)) (by first | exact q0 | exact q1 | exact Nat.lt_succ_self _ | exact two_exit a0 x_e q2.1 h1 | (have z := shr_big a0 x_e q1 q2.1 h1; simp only [w64_val]; omega)) (by first | exact q0 | exact q1 | exact Nat.lt_succ_self _ | exact two_exit a0 x_e q2.1 h1 | (have z := shr_big a0 x_e q1 q2.1 h1; simp only [w64_val]; omega)) (by first | exact q0 | exact q1 | exact Nat.lt_succ_self _ | exact two_exit a0 x_e q2.1 h1 | (have z := shr_big a0 x_e q1 q2.1 h1; simp only [w64_val]; omega)))
    · exact Run.l (by kernel_rfl) (by kernel_rfl) (by kernel_rfl) (by kernel_rfl) (ok_impl_twosOf_L1 ((64 + x_e.val).toNat + 1) a0 x_e (by first | exact q0 | exact q1 | exact Nat.lt_succ_self _ | exact two_exit a0 x_e q2.1 h1 | omega) (by first | exact q0 | exact q1 | exact Nat.lt_succ_self _ | exact two_exit a0 x_e q2.1 h1 | omega) (by first | exact q0 | exact q1 | exact Nat.lt_succ_self _ | exact two_exit a0 x_e q2.1 h1 | omega) (by first | exact q0 | exact q1 | exact Nat.lt_succ_self _ | exact two_exit a0 x_e q2.1 h1 | omega) (by first | exact q0 | exact q1 | exact Nat.lt_succ_self _ | exact two_exit a0 x_e q2.1 h1 | omega))

theorem ok_impl_twosOf (a0 : I64) (p0 : 1 ≤ a0.val) (p1 : a0.val ≤ 1152921504606846976) : Fun Tryz.prog 372 [] #[vI a0] (vI (F_impl_twosOf a0)) [] := by
  refine Fun.ofH 400 E_ok mixed Tryz.func372 (by kernel_rfl) (by kernel_rfl) ?_
  unfold F_impl_twosOf
  exact Run.l (by kernel_rfl) (by kernel_rfl) (by kernel_rfl) (by kernel_rfl) (ok_impl_twosOf_L0 ((64 - (c64 0).val).toNat + 1) a0 (c64 0) (by first | exact p0 | exact p1 | exact ⟨by decide, by decide⟩ | exact Nat.lt_succ_self _) (by first | exact p0 | exact p1 | exact ⟨by decide, by decide⟩ | exact Nat.lt_succ_self _) (by first | exact p0 | exact p1 | exact ⟨by decide, by decide⟩ | exact Nat.lt_succ_self _) (by first | exact p0 | exact p1 | exact ⟨by decide, by decide⟩ | exact Nat.lt_succ_self _))

end Go.Proofs.YtclbkeejhnmeoaaGreat.Abs
