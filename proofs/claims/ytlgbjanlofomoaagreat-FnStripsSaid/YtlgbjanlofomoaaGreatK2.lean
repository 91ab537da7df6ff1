/- The program's functions are these; part 2 (written by w.py). -/
import Derived.Test.YtlgbjanlofomoaaGreatE
import Derived.Test.YtlgbjanlofomoaaGreatF3
import Derived.Test.YtlgbjanlofomoaaGreatQpre
import Derived.Test.YtlgbjanlofomoaaGreatK1
set_option linter.unusedVariables false
set_option linter.unusedSimpArgs false
namespace Go.Proofs.YtlgbjanlofomoaaGreat.Abs
open Go Go.RowKit

theorem ok_spec_l06At (a0 : I64) (a1 : I64) : Fun Tryz.prog 128 [] #[vI a0, vI a1] (vIv (F_spec_l06At a0 a1)) [] := by
  refine Fun.ofH 400 E_ok mixed Tryz.func128 (by kernel_rfl) (by kernel_rfl) ?_
  unfold F_spec_l06At
  refine Run.q (e := vB) (gv := vIv) (ok_spec_l06Angle _) fun r1 _ => ?_
  refine Run.y (gv := vIv) (fun _ => ?_) (fun _ => ?_)
  · refine Run.q (e := vIv) (gv := vIv) (ok_spec_l06Ring) fun r2 _ => ?_
    exact Run.x 0
  · refine Run.q (e := vI) (gv := vIv) (ok_spec_QuarterOf _) fun r3 _ => ?_
    refine Run.q (e := vIv) (gv := vIv) (ok_spec_l05At _) fun r4 _ => ?_
    refine Run.q (e := vIv) (gv := vIv) (ok_spec_TurnI _) fun r5 _ => ?_
    refine Run.q (e := vIv) (gv := vIv) (ok_spec_SubI _ _) fun r6 _ => ?_
    refine Run.y (gv := vIv) (fun _ => ?_) (fun _ => ?_)
    · refine Run.q (e := vIv) (gv := vIv) (ok_spec_SinSeries _) fun r7 _ => ?_
      refine Run.q (e := vIv) (gv := vIv) (ok_spec_l06Meet _) fun r8 _ => ?_
      exact Run.x 0
    · refine Run.y (gv := vIv) (fun _ => ?_) (fun _ => ?_)
      · refine Run.q (e := vIv) (gv := vIv) (ok_spec_CosSeries _) fun r9 _ => ?_
        refine Run.q (e := vIv) (gv := vIv) (ok_spec_l06Meet _) fun r10 _ => ?_
        exact Run.x 0
      · refine Run.y (gv := vIv) (fun _ => ?_) (fun _ => ?_)
        · refine Run.q (e := vIv) (gv := vIv) (ok_spec_SinSeries _) fun r11 _ => ?_
          refine Run.q (e := vIv) (gv := vIv) (ok_spec_NegI _) fun r12 _ => ?_
          refine Run.q (e := vIv) (gv := vIv) (ok_spec_l06Meet _) fun r13 _ => ?_
          exact Run.x 0
        · refine Run.q (e := vIv) (gv := vIv) (ok_spec_CosSeries _) fun r14 _ => ?_
          refine Run.q (e := vIv) (gv := vIv) (ok_spec_NegI _) fun r15 _ => ?_
          refine Run.q (e := vIv) (gv := vIv) (ok_spec_l06Meet _) fun r16 _ => ?_
          exact Run.x 0

theorem ok_spec_HullI (a0 : Iv) (a1 : Iv) : Fun Tryz.prog 84 [] #[vIv a0, vIv a1] (vIv (F_spec_HullI a0 a1)) [] := by
  refine Fun.ofH 400 E_ok mixed Tryz.func84 (by kernel_rfl) (by kernel_rfl) ?_
  unfold F_spec_HullI
  refine Run.q (e := vB) (gv := vIv) (ok_spec_l04Ok _) fun r1 _ => ?_
  refine Run.y (gv := vIv) (fun _ => ?_) (fun _ => ?_)
  · refine Run.z [true, true, true, true] ?_
    refine Run.q (e := vIv) (gv := vIv) (ok_spec_l04Whole) fun r2 _ => ?_
    exact Run.x 0
  · refine Run.z [false] ?_
    refine Run.q (e := vB) (gv := vIv) (ok_spec_l04Ok _) fun r3 _ => ?_
    refine Run.z [false, false] ?_
    refine Run.y (gv := vIv) (fun _ => ?_) (fun _ => ?_)
    · refine Run.q (e := vIv) (gv := vIv) (ok_spec_l04Whole) fun r4 _ => ?_
      exact Run.x 0
    · refine Run.q (e := vI) (gv := vIv) (ok_spec_l00Min _ _) fun r5 _ => ?_
      refine Run.q (e := vI) (gv := vIv) (ok_spec_l00Max _ _) fun r6 _ => ?_
      refine Run.q (e := vIv) (gv := vIv) (ok_spec_l04Make _ _) fun r7 _ => ?_
      exact Run.x 0

theorem ok_spec_OverlapI (a0 : Iv) (a1 : Iv) : Fun Tryz.prog 130 [] #[vIv a0, vIv a1] (vB (F_spec_OverlapI a0 a1)) [] := by
  refine Fun.ofH 400 E_ok mixed Tryz.func130 (by kernel_rfl) (by kernel_rfl) ?_
  unfold F_spec_OverlapI
  refine Run.q (e := vT_Iv_B) (gv := vB) (ok_spec_MeetI _ _) fun r1 _ => ?_
  exact Run.x 0

theorem ok_spec_l06Over_L0 : ∀ (fu : Nat) (a1 : I64) (a0 : Iv) (x_k : I64) (y_2 : Iv) (hm : (2000 - x_k.val).toNat < fu) (t : Array Value) (ht : maskA t [0, 3, 7, 8, 9, 10, 11, 12, 13, 14, 15, 16, 17, 18, 19, 20, 21, 22, 23, 24, 25, 26, 27, 28, 29, 30, 31, 32, 33, 34, 35, 36, 37, 38, 39, 40, 41, 42, 43, 44, 45, 46, 47, 48, 49, 50, 51] = #[undef, .int .i64 a1.val, .pointer (some ⟨0, 0, none⟩), undef, .pointer (some ⟨1, 0, none⟩), .pointer (some ⟨2, 0, none⟩), .int .i64 x_k.val, undef, undef, undef, undef, undef, undef, undef, undef, undef, undef, undef, undef, undef, undef, undef, undef, undef, undef, undef, undef, undef, undef, undef, undef, undef, undef, undef, undef, undef, undef, undef, undef, undef, undef, undef, undef, undef, undef, undef, undef, undef, undef, undef, undef, undef]), Cfg Tryz.prog 86 (loopAt Tryz.f86 0) t [(#[.int .i64 a0.lo.val, .int .i64 a0.hi.val], 36), (#[.int .i64 0, .int .i64 0], 36), (#[.int .i64 y_2.lo.val, .int .i64 y_2.hi.val], 36)] (RvH [] (vIv (F_spec_l06Over_L0 fu a1 a0 x_k y_2))) := by
  intro fu
  induction fu with
  | zero => intro a1 a0 x_k y_2 hm; exact absurd hm (Nat.not_lt_zero _)
  | succ fu ih =>
    intro a1 a0 x_k y_2 hm t ht
    refine Cfg.round E_ok mixed Tryz.func86 ht fun g => ?_
    unfold F_spec_l06Over_L0
    refine Run.q (e := vI) (gv := vIv) (ok_spec_QuarterOf _) fun r8 hr8 => ?_
    refine Run.y (gv := vIv) (fun h9 => ?_) (fun h9 => ?_)
    · refine Run.q (e := vIv) (gv := vIv) (ok_spec_TurnI _) fun r10 hr10 => ?_
      refine Run.q (e := vB) (gv := vIv) (ok_spec_OverlapI _ _) fun r11 hr11 => ?_
      refine Run.y (gv := vIv) (fun h12 => ?_) (fun h12 => ?_)
      · exact Run.l (by kernel_rfl) (by kernel_rfl) (by kernel_rfl) (by kernel_rfl) (ih a1 a0 (w64 (x_k.val + 1)) y_2 (by have q1 := x_k.lo; first | exact Nat.lt_succ_self _ | (have q2 := spec_quarter_le a0.hi; have q3 := spec_quarter_ge a0.hi; simp only [w64_val, decide_eq_true_eq, decide_eq_false_iff_not, *] at *; omega)))
      · refine Run.y (gv := vIv) (fun h13 => ?_) (fun h13 => ?_)
        · refine Run.q (e := vIv) (gv := vIv) (ok_spec_Integer _) fun r14 hr14 => ?_
          refine Run.q (e := vIv) (gv := vIv) (ok_spec_HullI _ _) fun r15 hr15 => ?_
          exact Run.l (by kernel_rfl) (by kernel_rfl) (by kernel_rfl) (by kernel_rfl) (ih a1 a0 (w64 (x_k.val + 1)) r15 (by have q1 := x_k.lo; first | exact Nat.lt_succ_self _ | (have q2 := spec_quarter_le a0.hi; have q3 := spec_quarter_ge a0.hi; simp only [w64_val, decide_eq_true_eq, decide_eq_false_iff_not, *] at *; omega)))
        · refine Run.y (gv := vIv) (fun h16 => ?_) (fun h16 => ?_)
          · refine Run.q (e := vIv) (gv := vIv) (ok_spec_Integer _) fun r17 hr17 => ?_
            refine Run.q (e := vIv) (gv := vIv) (ok_spec_HullI _ _) fun r18 hr18 => ?_
            exact Run.l (by kernel_rfl) (by kernel_rfl) (by kernel_rfl) (by kernel_rfl) (ih a1 a0 (w64 (x_k.val + 1)) r18 (by have q1 := x_k.lo; first | exact Nat.lt_succ_self _ | (have q2 := spec_quarter_le a0.hi; have q3 := spec_quarter_ge a0.hi; simp only [w64_val, decide_eq_true_eq, decide_eq_false_iff_not, *] at *; omega)))
          · exact Run.l (by kernel_rfl) (by kernel_rfl) (by kernel_rfl) (by kernel_rfl) (ih a1 a0 (w64 (x_k.val + 1)) y_2 (by have q1 := x_k.lo; first | exact Nat.lt_succ_self _ | (have q2 := spec_quarter_le a0.hi; have q3 := spec_quarter_ge a0.hi; simp only [w64_val, decide_eq_true_eq, decide_eq_false_iff_not, *] at *; omega)))
    · exact Run.x 0

theorem ok_spec_l06Over (a0 : Iv) (a1 : I64) : Fun Tryz.prog 86 [] #[vIv a0, vI a1] (vIv (F_spec_l06Over a0 a1)) [] := by
  refine Fun.ofH 400 E_ok mixed Tryz.func86 (by kernel_rfl) (by kernel_rfl) ?_
  unfold F_spec_l06Over
  refine Run.q (e := vB) (gv := vIv) (ok_spec_l06Fits _) fun r1 hr1 => ?_
  refine Run.y (gv := vIv) (fun h2 => ?_) (fun h2 => ?_)
  · refine Run.q (e := vIv) (gv := vIv) (ok_spec_l06Ring) fun r3 hr3 => ?_
    exact Run.x 0
  · refine Run.q (e := vIv) (gv := vIv) (ok_spec_l06At _ _) fun r4 hr4 => ?_
    refine Run.q (e := vIv) (gv := vIv) (ok_spec_l06At _ _) fun r5 hr5 => ?_
    refine Run.q (e := vIv) (gv := vIv) (ok_spec_HullI _ _) fun r6 hr6 => ?_
    refine Run.q (e := vI) (gv := vIv) (ok_spec_QuarterOf _) fun r7 hr7 => ?_
    exact Run.l (by kernel_rfl) (by kernel_rfl) (by kernel_rfl) (by kernel_rfl) (ok_spec_l06Over_L0 ((2000 - (w64 (r7.val - 1)).val).toNat + 1) a1 a0 (w64 (r7.val - 1)) r6 (by exact Nat.lt_succ_self _))

theorem ok_spec_CosI (a0 : Iv) : Fun Tryz.prog 46 [] #[vIv a0] (vIv (F_spec_CosI a0)) [] := by
  refine Fun.ofH 400 E_ok mixed Tryz.func46 (by kernel_rfl) (by kernel_rfl) ?_
  unfold F_spec_CosI
  refine Run.q (e := vIv) (gv := vIv) (ok_spec_l06Over _ _) fun r1 _ => ?_
  exact Run.x 0

theorem ok_spec_l21Turn__pPj (b0 : Pj) (a0 : Pt) : Fun Tryz.prog 47 [(#[.int .i64 b0.kind.val, .int .i64 b0.lat0.val, .int .i64 b0.lon0.val, .int .i64 b0.lat1.val, .int .i64 b0.lat2.val], 30)] #[.pointer (some ⟨0, 0, none⟩), vPt a0] (vIv (F_spec_l21Turn__pPj b0 a0)) [(#[.int .i64 b0.kind.val, .int .i64 b0.lat0.val, .int .i64 b0.lon0.val, .int .i64 b0.lat1.val, .int .i64 b0.lat2.val], 30)] := by
  refine Fun.ofH 400 E_ok mixed Tryz.func47 (by kernel_rfl) (by kernel_rfl) ?_
  unfold F_spec_l21Turn__pPj
  refine Run.q (e := vI) (gv := vIv) (ok_spec_l11Wrap _) fun r1 _ => ?_
  refine Run.q (e := vIv) (gv := vIv) (ok_spec_RadiansOf _) fun r2 _ => ?_
  exact Run.x 1

theorem ok_spec_SinI (a0 : Iv) : Fun Tryz.prog 44 [] #[vIv a0] (vIv (F_spec_SinI a0)) [] := by
  refine Fun.ofH 400 E_ok mixed Tryz.func44 (by kernel_rfl) (by kernel_rfl) ?_
  unfold F_spec_SinI
  refine Run.q (e := vIv) (gv := vIv) (ok_spec_l06Over _ _) fun r1 _ => ?_
  exact Run.x 0

theorem ok_spec_l21Side__pPj (b0 : Pj) (a0 : Pt) : Fun Tryz.prog 41 [(#[.int .i64 b0.kind.val, .int .i64 b0.lat0.val, .int .i64 b0.lon0.val, .int .i64 b0.lat1.val, .int .i64 b0.lat2.val], 30)] #[.pointer (some ⟨0, 0, none⟩), vPt a0] (vIv (F_spec_l21Side__pPj b0 a0)) [(#[.int .i64 b0.kind.val, .int .i64 b0.lat0.val, .int .i64 b0.lon0.val, .int .i64 b0.lat1.val, .int .i64 b0.lat2.val], 30)] := by
  refine Fun.ofH 400 E_ok mixed Tryz.func41 (by kernel_rfl) (by kernel_rfl) ?_
  unfold F_spec_l21Side__pPj
  refine Run.q (e := vIv) (gv := vIv) (ok_spec_RadiansOf _) fun r1 _ => ?_
  refine Run.q (e := vIv) (gv := vIv) (ok_spec_CosI _) fun r2 _ => ?_
  refine Run.w (e := vIv) (gv := vIv) [0] (ok_spec_l21Turn__pPj _ _) fun r3 _ => ?_
  refine Run.q (e := vIv) (gv := vIv) (ok_spec_SinI _) fun r4 _ => ?_
  refine Run.q (e := vIv) (gv := vIv) (ok_spec_MulI _ _) fun r5 _ => ?_
  exact Run.x 1

theorem ok_spec_l08At (a0 : I64) : Fun Tryz.prog 119 [] #[vI a0] (vIv (F_spec_l08At a0)) [] := by
  refine Fun.ofH 400 E_ok mixed Tryz.func119 (by kernel_rfl) (by kernel_rfl) ?_
  unfold F_spec_l08At
  refine Run.q (e := vIv) (gv := vIv) (ok_spec_l04Make _ _) fun r1 _ => ?_
  exact Run.x 0

theorem ok_spec_l08One : Fun Tryz.prog 187 [] #[] (vIv (F_spec_l08One)) [] := by
  refine Fun.ofH 400 E_ok mixed Tryz.func187 (by kernel_rfl) (by kernel_rfl) ?_
  unfold F_spec_l08One
  refine Run.q (e := vIv) (gv := vIv) (ok_spec_l08At _) fun r1 _ => ?_
  exact Run.x 0

theorem ok_spec_l03Floor (a0 : I64) (a1 : I64) : Fun Tryz.prog 202 [] #[vI a0, vI a1] (vT_I_B (F_spec_l03Floor a0 a1)) [] := by
  refine Fun.ofH 400 E_ok mixed Tryz.func202 (by kernel_rfl) (by kernel_rfl) ?_
  unfold F_spec_l03Floor
  refine Run.y (gv := vT_I_B) (fun _ => ?_) (fun _ => ?_)
  · exact Run.x 0
  · refine Run.q (e := vT_I_B) (gv := vT_I_B) (ok_spec_MulDivFloor _ _ _) fun r1 _ => ?_
    refine Run.q (e := vT_I_B) (gv := vT_I_B) (ok_spec_l03End _ _) fun r2 _ => ?_
    exact Run.x 0

theorem ok_spec_l03Ceil (a0 : I64) (a1 : I64) : Fun Tryz.prog 203 [] #[vI a0, vI a1] (vT_I_B (F_spec_l03Ceil a0 a1)) [] := by
  refine Fun.ofH 400 E_ok mixed Tryz.func203 (by kernel_rfl) (by kernel_rfl) ?_
  unfold F_spec_l03Ceil
  refine Run.y (gv := vT_I_B) (fun _ => ?_) (fun _ => ?_)
  · exact Run.x 0
  · refine Run.q (e := vT_I_B) (gv := vT_I_B) (ok_spec_MulDivFloor _ _ _) fun r1 _ => ?_
    refine Run.y (gv := vT_I_B) (fun _ => ?_) (fun _ => ?_)
    · exact Run.x 0
    · refine Run.y (gv := vT_I_B) (fun _ => ?_) (fun _ => ?_)
      · refine Run.q (e := vT_I_B) (gv := vT_I_B) (ok_spec_l03End _ _) fun r2 _ => ?_
        exact Run.x 0
      · refine Run.q (e := vT_I_B) (gv := vT_I_B) (ok_spec_l03End _ _) fun r3 _ => ?_
        exact Run.x 0

theorem ok_spec_Quotient (a0 : I64) (a1 : I64) : Fun Tryz.prog 189 [] #[vI a0, vI a1] (vIv (F_spec_Quotient a0 a1)) [] := by
  refine Fun.ofH 400 E_ok mixed Tryz.func189 (by kernel_rfl) (by kernel_rfl) ?_
  unfold F_spec_Quotient
  refine Run.y (gv := vIv) (fun _ => ?_) (fun _ => ?_)
  · refine Run.y (gv := vIv) (fun _ => ?_) (fun _ => ?_)
    · refine Run.z [true, true, true] ?_
      refine Run.q (e := vIv) (gv := vIv) (ok_spec_l04Whole) fun r1 _ => ?_
      exact Run.x 0
    · refine Run.z [false, false] ?_
      refine Run.y (gv := vIv) (fun _ => ?_) (fun _ => ?_)
      · refine Run.q (e := vIv) (gv := vIv) (ok_spec_l04Whole) fun r2 _ => ?_
        exact Run.x 0
      · refine Run.q (e := vT_I_B) (gv := vIv) (ok_spec_l03Floor _ _) fun r3 _ => ?_
        refine Run.q (e := vT_I_B) (gv := vIv) (ok_spec_l03Ceil _ _) fun r4 _ => ?_
        refine Run.y (gv := vIv) (fun _ => ?_) (fun _ => ?_)
        · refine Run.z [true, true, true] ?_
          refine Run.q (e := vIv) (gv := vIv) (ok_spec_l04Whole) fun r5 _ => ?_
          exact Run.x 0
        · refine Run.z [false, false] ?_
          refine Run.y (gv := vIv) (fun _ => ?_) (fun _ => ?_)
          · refine Run.q (e := vIv) (gv := vIv) (ok_spec_l04Whole) fun r6 _ => ?_
            exact Run.x 0
          · refine Run.q (e := vIv) (gv := vIv) (ok_spec_l04Make _ _) fun r7 _ => ?_
            exact Run.x 0
  · refine Run.q (e := vT_I_B) (gv := vIv) (ok_spec_l03Floor _ _) fun r8 _ => ?_
    refine Run.q (e := vT_I_B) (gv := vIv) (ok_spec_l03Ceil _ _) fun r9 _ => ?_
    refine Run.y (gv := vIv) (fun _ => ?_) (fun _ => ?_)
    · refine Run.z [true, true, true] ?_
      refine Run.q (e := vIv) (gv := vIv) (ok_spec_l04Whole) fun r10 _ => ?_
      exact Run.x 0
    · refine Run.z [false, false] ?_
      refine Run.y (gv := vIv) (fun _ => ?_) (fun _ => ?_)
      · refine Run.q (e := vIv) (gv := vIv) (ok_spec_l04Whole) fun r11 _ => ?_
        exact Run.x 0
      · refine Run.q (e := vIv) (gv := vIv) (ok_spec_l04Make _ _) fun r12 _ => ?_
        exact Run.x 0

theorem ok_spec_l08Widen (a0 : Iv) (a1 : I64) : Fun Tryz.prog 190 [] #[vIv a0, vI a1] (vIv (F_spec_l08Widen a0 a1)) [] := by
  refine Fun.ofH 400 E_ok mixed Tryz.func190 (by kernel_rfl) (by kernel_rfl) ?_
  unfold F_spec_l08Widen
  refine Run.q (e := vB) (gv := vIv) (ok_spec_l04Ok _) fun r1 _ => ?_
  refine Run.y (gv := vIv) (fun _ => ?_) (fun _ => ?_)
  · refine Run.q (e := vIv) (gv := vIv) (ok_spec_l04Whole) fun r2 _ => ?_
    exact Run.x 0
  · refine Run.q (e := vIv) (gv := vIv) (ok_spec_l04Make _ _) fun r3 _ => ?_
    exact Run.x 0

theorem ok_spec_LogTwoI_r : ∀ (fu : Nat) (a0 : I64) (hm : min (0 - a0.val).toNat 1 < fu), Fun Tryz.prog 191 [] #[vI a0] (vIv (F_spec_LogTwoI_r fu a0)) [] := by
  intro fu
  induction fu with
  | zero => intro a0 hm; exact absurd hm (Nat.not_lt_zero _)
  | succ fu ih =>
    intro a0 hm
    refine Fun.ofH 400 E_ok mixed Tryz.func191 (by kernel_rfl) (by kernel_rfl) ?_
    unfold F_spec_LogTwoI_r
    unfold F_spec_LogTwoI_b
    refine Run.q (e := vB) (gv := vIv) (ok_spec_l00In _ _ _) fun r1 hr1 => ?_
    refine Run.y (gv := vIv) (fun h2 => ?_) (fun h2 => ?_)
    · refine Run.q (e := vIv) (gv := vIv) (ok_spec_l04Whole) fun r3 hr3 => ?_
      exact Run.x 0
    · refine Run.y (gv := vIv) (fun h4 => ?_) (fun h4 => ?_)
      · refine Run.q (e := vIv) (gv := vIv) (ih (w64 (0 - a0.val)) (by rw [hr1] at h2; simp [F_spec_l00In, c64_val] at h2; simp only [w64_val, decide_eq_true_eq, decide_eq_false_iff_not] at *; omega)) fun r5 hr5 => ?_
        refine Run.q (e := vIv) (gv := vIv) (ok_spec_NegI _) fun r6 hr6 => ?_
        exact Run.x 0
      · refine Run.q (e := vT_I_B) (gv := vIv) (ok_spec_MulFloor _ _ _) fun r7 hr7 => ?_
        refine Run.q (e := vT_I_B) (gv := vIv) (ok_spec_MulFloor _ _ _) fun r8 hr8 => ?_
        refine Run.q (e := vIv) (gv := vIv) (ok_spec_l04Make _ _) fun r9 hr9 => ?_
        exact Run.x 0
theorem ok_spec_LogTwoI (a0 : I64) : Fun Tryz.prog 191 [] #[vI a0] (vIv (F_spec_LogTwoI a0)) [] := ok_spec_LogTwoI_r 2 a0 (by omega)

theorem ok_spec_LogAt_L1 : ∀ (fu : Nat) (a0 : I64) (x_e : I64) (y_1 : Iv) (q0 : 1 ≤ a0.val) (q1 : a0.val ≤ 1152921504606846976) (q2 : -1000 ≤ x_e.val) (q3 : (x_e.val ≤ 0 ∧ y_1.lo.val = a0.val * 2 ^ (0 - x_e.val).toNat ∧ y_1.lo.val < 6442450944) ∨ 3221225472 ≤ y_1.lo.val) (hm : (64 + x_e.val).toNat < fu) (t : Array Value) (ht : maskA t [1, 5, 6, 7, 8, 9, 10, 11, 12, 13, 14, 15, 16, 17, 18, 19, 20, 21, 22, 23, 24, 25, 26, 27, 28, 29, 30, 31, 32, 33, 34, 35, 36, 37, 38, 39, 40, 41, 42, 43, 44, 45, 46, 47, 48, 49, 50, 51, 52, 53, 54, 55, 56, 57, 58, 59, 60, 61, 62, 63, 64, 65, 66, 67, 68, 69, 70, 71, 72, 73, 74, 75, 76, 77, 78] = #[.int .i64 a0.val, undef, .pointer (some ⟨0, 0, none⟩), .int .i64 x_e.val, .pointer (some ⟨1, 0, none⟩), undef, undef, undef, undef, undef, undef, undef, undef, undef, undef, undef, undef, undef, undef, undef, undef, undef, undef, undef, undef, undef, undef, undef, undef, undef, undef, undef, undef, undef, undef, undef, undef, undef, undef, undef, undef, undef, undef, undef, undef, undef, undef, undef, undef, undef, undef, undef, undef, undef, undef, undef, undef, undef, undef, undef, undef, undef, undef, undef, undef, undef, undef, undef, undef, undef, undef, undef, undef, undef, undef, undef, undef, undef, undef]), Cfg Tryz.prog 163 (loopAt Tryz.f163 1) t [(#[.int .i64 0, .int .i64 0], 36), (#[.int .i64 y_1.lo.val, .int .i64 y_1.hi.val], 36)] (RvH [] (vIv (F_spec_LogAt_L1 fu a0 x_e y_1))) := by
  intro fu
  induction fu with
  | zero => intro a0 x_e y_1 q0 q1 q2 q3 hm; exact absurd hm (Nat.not_lt_zero _)
  | succ fu ih =>
    intro a0 x_e y_1 q0 q1 q2 q3 hm t ht
    refine Cfg.round E_ok mixed Tryz.func163 ht fun g => ?_
    unfold F_spec_LogAt_L1
    refine Run.y (gv := vIv) (fun h5 => ?_) (fun h5 => ?_)
    · refine Run.k (c := (decide (0 ≤ (wu64 (w64 (0 - (w64 (x_e.val - 1)).val)).val).val))) (by kernel_rfl) (by exact decide_eq_true (U64.lo _)) ?_
      refine Run.k (c := (decide (0 ≤ (wu64 (w64 (0 - (w64 (x_e.val - 1)).val)).val).val))) (by kernel_rfl) (by exact decide_eq_true (U64.lo _)) ?_
      exact Run.l (by kernel_rfl) (by kernel_rfl) (by kernel_rfl) (by kernel_rfl) (ih a0 (w64 (x_e.val - 1)) (⟨(ishl .i64 a0.val (wu64 (w64 (0 - (w64 (x_e.val - 1)).val)).val).val), (ishl .i64 a0.val (wu64 (w64 (0 - (w64 (x_e.val - 1)).val)).val).val)⟩ : Iv) (by first | exact q0 | exact q1 | exact Nat.lt_succ_self _ | (have z := spec_two_less a0 x_e y_1 q0 q2 q3 h5; first | exact .inl z.2.2 | (simp only [w64_val]; omega))) (by first | exact q0 | exact q1 | exact Nat.lt_succ_self _ | (have z := spec_two_less a0 x_e y_1 q0 q2 q3 h5; first | exact .inl z.2.2 | (simp only [w64_val]; omega))) (by first | exact q0 | exact q1 | exact Nat.lt_succ_self _ | (have z := spec_two_less a0 x_e y_1 q0 q2 q3 h5; first | exact .inl z.2.2 | (simp only [w64_val]; omega))) (by first | exact q0 | exact q1 | exact Nat.lt_succ_self _ | (have z := spec_two_less a0 x_e y_1 q0 q2 q3 h5; first | exact .inl z.2.2 | (simp only [w64_val]; omega))) (by first | exact q0 | exact q1 | exact Nat.lt_succ_self _ | (have z := spec_two_less a0 x_e y_1 q0 q2 q3 h5; first | exact .inl z.2.2 | (simp only [w64_val]; omega))))
    · refine Run.q (e := vIv) (gv := vIv) (ok_spec_l08One) fun r6 hr6 => ?_
      refine Run.q (e := vIv) (gv := vIv) (ok_spec_SubI _ _) fun r7 hr7 => ?_
      refine Run.q (e := vIv) (gv := vIv) (ok_spec_l08One) fun r8 hr8 => ?_
      refine Run.q (e := vIv) (gv := vIv) (ok_spec_AddI _ _) fun r9 hr9 => ?_
      refine Run.q (e := vIv) (gv := vIv) (ok_spec_DivI _ _) fun r10 hr10 => ?_
      refine Run.q (e := vIv) (gv := vIv) (ok_spec_SqrI _) fun r11 hr11 => ?_
      refine Run.q (e := vIv) (gv := vIv) (ok_spec_Quotient _ _) fun r12 hr12 => ?_
      refine Run.u 400 E_ok mixed Tryz.func163 ?_
      refine Run.z [true] ?_
      refine Run.q (e := vIv) (gv := vIv) (ok_spec_Quotient _ _) fun r13 hr13 => ?_
      refine Run.q (e := vIv) (gv := vIv) (ok_spec_MulI _ _) fun r14 hr14 => ?_
      refine Run.q (e := vIv) (gv := vIv) (ok_spec_AddI _ _) fun r15 hr15 => ?_
      refine Run.u 400 E_ok mixed Tryz.func163 ?_
      refine Run.z [true] ?_
      refine Run.q (e := vIv) (gv := vIv) (ok_spec_Quotient _ _) fun r16 hr16 => ?_
      refine Run.q (e := vIv) (gv := vIv) (ok_spec_MulI _ _) fun r17 hr17 => ?_
      refine Run.q (e := vIv) (gv := vIv) (ok_spec_AddI _ _) fun r18 hr18 => ?_
      refine Run.u 400 E_ok mixed Tryz.func163 ?_
      refine Run.z [true] ?_
      refine Run.q (e := vIv) (gv := vIv) (ok_spec_Quotient _ _) fun r19 hr19 => ?_
      refine Run.q (e := vIv) (gv := vIv) (ok_spec_MulI _ _) fun r20 hr20 => ?_
      refine Run.q (e := vIv) (gv := vIv) (ok_spec_AddI _ _) fun r21 hr21 => ?_
      refine Run.u 400 E_ok mixed Tryz.func163 ?_
      refine Run.z [true] ?_
      refine Run.q (e := vIv) (gv := vIv) (ok_spec_Quotient _ _) fun r22 hr22 => ?_
      refine Run.q (e := vIv) (gv := vIv) (ok_spec_MulI _ _) fun r23 hr23 => ?_
      refine Run.q (e := vIv) (gv := vIv) (ok_spec_AddI _ _) fun r24 hr24 => ?_
      refine Run.u 400 E_ok mixed Tryz.func163 ?_
      refine Run.z [true] ?_
      refine Run.q (e := vIv) (gv := vIv) (ok_spec_Quotient _ _) fun r25 hr25 => ?_
      refine Run.q (e := vIv) (gv := vIv) (ok_spec_MulI _ _) fun r26 hr26 => ?_
      refine Run.q (e := vIv) (gv := vIv) (ok_spec_AddI _ _) fun r27 hr27 => ?_
      refine Run.u 400 E_ok mixed Tryz.func163 ?_
      refine Run.z [false] ?_
      refine Run.q (e := vIv) (gv := vIv) (ok_spec_Integer _) fun r28 hr28 => ?_
      refine Run.q (e := vIv) (gv := vIv) (ok_spec_MulI _ _) fun r29 hr29 => ?_
      refine Run.q (e := vIv) (gv := vIv) (ok_spec_MulI _ _) fun r30 hr30 => ?_
      refine Run.q (e := vIv) (gv := vIv) (ok_spec_l08Widen _ _) fun r31 hr31 => ?_
      refine Run.q (e := vIv) (gv := vIv) (ok_spec_LogTwoI _) fun r32 hr32 => ?_
      refine Run.q (e := vIv) (gv := vIv) (ok_spec_AddI _ _) fun r33 hr33 => ?_
      exact Run.x 0

theorem ok_spec_LogAt_L0 : ∀ (fu : Nat) (a0 : I64) (x_e : I64) (y_1 : Iv) (q0 : 1 ≤ a0.val) (q1 : a0.val ≤ 1152921504606846976) (q2 : 0 ≤ x_e.val ∧ x_e.val ≤ 40) (q3 : y_1.lo.val = (ishr a0 (wu64 x_e.val).val).val) (q4 : x_e.val = 0 ∨ 3221225472 ≤ y_1.lo.val) (hm : (64 - x_e.val).toNat < fu) (t : Array Value) (ht : maskA t [1, 5, 6, 7, 8, 9, 10, 11, 12, 13, 14, 15, 16, 17, 18, 19, 20, 21, 22, 23, 24, 25, 26, 27, 28, 29, 30, 31, 32, 33, 34, 35, 36, 37, 38, 39, 40, 41, 42, 43, 44, 45, 46, 47, 48, 49, 50, 51, 52, 53, 54, 55, 56, 57, 58, 59, 60, 61, 62, 63, 64, 65, 66, 67, 68, 69, 70, 71, 72, 73, 74, 75, 76, 77, 78] = #[.int .i64 a0.val, undef, .pointer (some ⟨0, 0, none⟩), .int .i64 x_e.val, .pointer (some ⟨1, 0, none⟩), undef, undef, undef, undef, undef, undef, undef, undef, undef, undef, undef, undef, undef, undef, undef, undef, undef, undef, undef, undef, undef, undef, undef, undef, undef, undef, undef, undef, undef, undef, undef, undef, undef, undef, undef, undef, undef, undef, undef, undef, undef, undef, undef, undef, undef, undef, undef, undef, undef, undef, undef, undef, undef, undef, undef, undef, undef, undef, undef, undef, undef, undef, undef, undef, undef, undef, undef, undef, undef, undef, undef, undef, undef, undef]), Cfg Tryz.prog 163 (loopAt Tryz.f163 0) t [(#[.int .i64 0, .int .i64 0], 36), (#[.int .i64 y_1.lo.val, .int .i64 y_1.hi.val], 36)] (RvH [] (vIv (F_spec_LogAt_L0 fu a0 x_e y_1))) := by
  intro fu
  induction fu with
  | zero => intro a0 x_e y_1 q0 q1 q2 q3 q4 hm; exact absurd hm (Nat.not_lt_zero _)
  | succ fu ih =>
    intro a0 x_e y_1 q0 q1 q2 q3 q4 hm t ht
    refine Cfg.round E_ok mixed Tryz.func163 ht fun g => ?_
    unfold F_spec_LogAt_L0
    refine Run.y (gv := vIv) (fun h4 => ?_) (fun h4 => ?_)
    · refine Run.k (c := (decide (0 ≤ (wu64 (w64 (x_e.val + 1)).val).val))) (by kernel_rfl) (by exact decide_eq_true (U64.lo _)) ?_
      refine Run.k (c := (decide (0 ≤ (wu64 (w64 (x_e.val + 1)).val).val))) (by kernel_rfl) (by exact decide_eq_true (U64.lo _)) ?_
      exact Run.l (by kernel_rfl) (by kernel_rfl) (by kernel_rfl) (by kernel_rfl) (ih a0 (w64 (x_e.val + 1)) (⟨(ishr a0 (wu64 (w64 (x_e.val + 1)).val).val), (w64 (0 - (ishr (w64 (0 - a0.val)) (wu64 (w64 (x_e.val + 1)).val).val).val))⟩ : Iv) (by first | exact q0 | exact q1 | exact Nat.lt_succ_self _ | rfl | exact spec_two_exit a0 x_e y_1 q2.1 q2.2 q3 q4 h4 | (have z := spec_shr_big a0 x_e y_1 q1 q2.1 q2.2 q3 h4; first | exact .inr z.2 | (simp only [w64_val]; omega))) (by first | exact q0 | exact q1 | exact Nat.lt_succ_self _ | rfl | exact spec_two_exit a0 x_e y_1 q2.1 q2.2 q3 q4 h4 | (have z := spec_shr_big a0 x_e y_1 q1 q2.1 q2.2 q3 h4; first | exact .inr z.2 | (simp only [w64_val]; omega))) (by first | exact q0 | exact q1 | exact Nat.lt_succ_self _ | rfl | exact spec_two_exit a0 x_e y_1 q2.1 q2.2 q3 q4 h4 | (have z := spec_shr_big a0 x_e y_1 q1 q2.1 q2.2 q3 h4; first | exact .inr z.2 | (simp only [w64_val]; omega))) (by first | exact q0 | exact q1 | exact Nat.lt_succ_self _ | rfl | exact spec_two_exit a0 x_e y_1 q2.1 q2.2 q3 q4 h4 | (have z := spec_shr_big a0 x_e y_1 q1 q2.1 q2.2 q3 h4; first | exact .inr z.2 | (simp only [w64_val]; omega))) (by first | exact q0 | exact q1 | exact Nat.lt_succ_self _ | rfl | exact spec_two_exit a0 x_e y_1 q2.1 q2.2 q3 q4 h4 | (have z := spec_shr_big a0 x_e y_1 q1 q2.1 q2.2 q3 h4; first | exact .inr z.2 | (simp only [w64_val]; omega))) (by first | exact q0 | exact q1 | exact Nat.lt_succ_self _ | rfl | exact spec_two_exit a0 x_e y_1 q2.1 q2.2 q3 q4 h4 | (have z := spec_shr_big a0 x_e y_1 q1 q2.1 q2.2 q3 h4; first | exact .inr z.2 | (simp only [w64_val]; omega))))
    · exact Run.l (by kernel_rfl) (by kernel_rfl) (by kernel_rfl) (by kernel_rfl) (ok_spec_LogAt_L1 ((64 + x_e.val).toNat + 1) a0 x_e y_1 (by first | exact q0 | exact q1 | exact Nat.lt_succ_self _ | exact spec_two_exit a0 x_e y_1 q2.1 q2.2 q3 q4 h4 | omega) (by first | exact q0 | exact q1 | exact Nat.lt_succ_self _ | exact spec_two_exit a0 x_e y_1 q2.1 q2.2 q3 q4 h4 | omega) (by first | exact q0 | exact q1 | exact Nat.lt_succ_self _ | exact spec_two_exit a0 x_e y_1 q2.1 q2.2 q3 q4 h4 | omega) (by first | exact q0 | exact q1 | exact Nat.lt_succ_self _ | exact spec_two_exit a0 x_e y_1 q2.1 q2.2 q3 q4 h4 | omega) (by first | exact q0 | exact q1 | exact Nat.lt_succ_self _ | exact spec_two_exit a0 x_e y_1 q2.1 q2.2 q3 q4 h4 | omega))

theorem ok_spec_LogAt (a0 : I64) : Fun Tryz.prog 163 [] #[vI a0] (vIv (F_spec_LogAt a0)) [] := by
  refine Fun.ofH 400 E_ok mixed Tryz.func163 (by kernel_rfl) (by kernel_rfl) ?_
  unfold F_spec_LogAt
  refine Run.q (e := vB) (gv := vIv) (ok_spec_l00In _ _ _) fun r1 hr1 => ?_
  refine Run.y (gv := vIv) (fun h2 => ?_) (fun h2 => ?_)
  · refine Run.q (e := vIv) (gv := vIv) (ok_spec_l04Whole) fun r3 hr3 => ?_
    exact Run.x 0
  · exact Run.l (by kernel_rfl) (by kernel_rfl) (by kernel_rfl) (by kernel_rfl) (ok_spec_LogAt_L0 ((64 - (c64 0).val).toNat + 1) a0 (c64 0) (⟨a0, a0⟩ : Iv) (by first | exact (in1_p hr1 h2).1 | exact (in1_p hr1 h2).2 | exact ⟨by decide, by decide⟩ | exact (shr0' a0).symm | exact .inl rfl | exact Nat.lt_succ_self _) (by first | exact (in1_p hr1 h2).1 | exact (in1_p hr1 h2).2 | exact ⟨by decide, by decide⟩ | exact (shr0' a0).symm | exact .inl rfl | exact Nat.lt_succ_self _) (by first | exact (in1_p hr1 h2).1 | exact (in1_p hr1 h2).2 | exact ⟨by decide, by decide⟩ | exact (shr0' a0).symm | exact .inl rfl | exact Nat.lt_succ_self _) (by first | exact (in1_p hr1 h2).1 | exact (in1_p hr1 h2).2 | exact ⟨by decide, by decide⟩ | exact (shr0' a0).symm | exact .inl rfl | exact Nat.lt_succ_self _) (by first | exact (in1_p hr1 h2).1 | exact (in1_p hr1 h2).2 | exact ⟨by decide, by decide⟩ | exact (shr0' a0).symm | exact .inl rfl | exact Nat.lt_succ_self _) (by first | exact (in1_p hr1 h2).1 | exact (in1_p hr1 h2).2 | exact ⟨by decide, by decide⟩ | exact (shr0' a0).symm | exact .inl rfl | exact Nat.lt_succ_self _))

theorem ok_spec_l08Ends (a0 : Iv) (a1 : Iv) : Fun Tryz.prog 80 [] #[vIv a0, vIv a1] (vIv (F_spec_l08Ends a0 a1)) [] := by
  refine Fun.ofH 400 E_ok mixed Tryz.func80 (by kernel_rfl) (by kernel_rfl) ?_
  unfold F_spec_l08Ends
  refine Run.q (e := vB) (gv := vIv) (ok_spec_l04Ok _) fun r1 _ => ?_
  refine Run.y (gv := vIv) (fun _ => ?_) (fun _ => ?_)
  · refine Run.z [true, true, true, true] ?_
    refine Run.q (e := vIv) (gv := vIv) (ok_spec_l04Whole) fun r2 _ => ?_
    exact Run.x 0
  · refine Run.z [false] ?_
    refine Run.q (e := vB) (gv := vIv) (ok_spec_l04Ok _) fun r3 _ => ?_
    refine Run.z [false, false] ?_
    refine Run.y (gv := vIv) (fun _ => ?_) (fun _ => ?_)
    · refine Run.q (e := vIv) (gv := vIv) (ok_spec_l04Whole) fun r4 _ => ?_
      exact Run.x 0
    · refine Run.q (e := vIv) (gv := vIv) (ok_spec_l04Make _ _) fun r5 _ => ?_
      exact Run.x 0

theorem ok_spec_LogI (a0 : Iv) : Fun Tryz.prog 117 [] #[vIv a0] (vIv (F_spec_LogI a0)) [] := by
  refine Fun.ofH 400 E_ok mixed Tryz.func117 (by kernel_rfl) (by kernel_rfl) ?_
  unfold F_spec_LogI
  refine Run.q (e := vB) (gv := vIv) (ok_spec_l04Ok _) fun r1 _ => ?_
  refine Run.y (gv := vIv) (fun _ => ?_) (fun _ => ?_)
  · refine Run.q (e := vIv) (gv := vIv) (ok_spec_l04Whole) fun r2 _ => ?_
    exact Run.x 0
  · refine Run.q (e := vIv) (gv := vIv) (ok_spec_LogAt _) fun r3 _ => ?_
    refine Run.q (e := vIv) (gv := vIv) (ok_spec_LogAt _) fun r4 _ => ?_
    refine Run.q (e := vIv) (gv := vIv) (ok_spec_l08Ends _ _) fun r5 _ => ?_
    exact Run.x 0

theorem ok_spec_HalfI (a0 : Iv) : Fun Tryz.prog 116 [] #[vIv a0] (vIv (F_spec_HalfI a0)) [] := by
  refine Fun.ofH 400 E_ok mixed Tryz.func116 (by kernel_rfl) (by kernel_rfl) ?_
  unfold F_spec_HalfI
  refine Run.q (e := vB) (gv := vIv) (ok_spec_l04Ok _) fun r1 _ => ?_
  refine Run.y (gv := vIv) (fun _ => ?_) (fun _ => ?_)
  · refine Run.q (e := vIv) (gv := vIv) (ok_spec_l04Whole) fun r2 _ => ?_
    exact Run.x 0
  · refine Run.z [true, true] ?_
    refine Run.q (e := vIv) (gv := vIv) (ok_spec_l04Make _ _) fun r3 _ => ?_
    exact Run.x 0

theorem ok_spec_l08Atanh_r : ∀ (fu : Nat) (a0 : I64) (p0 : -9223372036854775808 < a0.val) (hm : min (0 - a0.val).toNat 1 < fu), Fun Tryz.prog 81 [] #[vI a0] (vIv (F_spec_l08Atanh_r fu a0)) [] := by
  intro fu
  induction fu with
  | zero => intro a0 p0 hm; exact absurd hm (Nat.not_lt_zero _)
  | succ fu ih =>
    intro a0 p0 hm
    refine Fun.ofH 400 E_ok mixed Tryz.func81 (by kernel_rfl) (by kernel_rfl) ?_
    unfold F_spec_l08Atanh_r
    unfold F_spec_l08Atanh_b
    refine Run.y (gv := vIv) (fun h1 => ?_) (fun h1 => ?_)
    · refine Run.q (e := vIv) (gv := vIv) (ih (w64 (0 - a0.val)) (by simp only [w64_val, decide_eq_true_eq, decide_eq_false_iff_not] at *; omega) (by simp only [w64_val, decide_eq_true_eq, decide_eq_false_iff_not] at *; omega)) fun r2 hr2 => ?_
      refine Run.q (e := vIv) (gv := vIv) (ok_spec_NegI _) fun r3 hr3 => ?_
      exact Run.x 0
    · refine Run.y (gv := vIv) (fun h4 => ?_) (fun h4 => ?_)
      · refine Run.q (e := vIv) (gv := vIv) (ok_spec_l04Whole) fun r5 hr5 => ?_
        exact Run.x 0
      · refine Run.q (e := vIv) (gv := vIv) (ok_spec_l08At _) fun r6 hr6 => ?_
        refine Run.q (e := vIv) (gv := vIv) (ok_spec_l08At _) fun r7 hr7 => ?_
        refine Run.q (e := vIv) (gv := vIv) (ok_spec_DivI _ _) fun r8 hr8 => ?_
        refine Run.q (e := vIv) (gv := vIv) (ok_spec_LogI _) fun r9 hr9 => ?_
        refine Run.q (e := vIv) (gv := vIv) (ok_spec_HalfI _) fun r10 hr10 => ?_
        exact Run.x 0
theorem ok_spec_l08Atanh (a0 : I64) (p0 : -9223372036854775808 < a0.val) : Fun Tryz.prog 81 [] #[vI a0] (vIv (F_spec_l08Atanh a0)) [] := ok_spec_l08Atanh_r 2 a0 p0 (by omega)

theorem ok_spec_AtanhI (a0 : Iv) : Fun Tryz.prog 40 [] #[vIv a0] (vIv (F_spec_AtanhI a0)) [] := by
  refine Fun.ofH 400 E_ok mixed Tryz.func40 (by kernel_rfl) (by kernel_rfl) ?_
  unfold F_spec_AtanhI
  refine Run.q (e := vB) (gv := vIv) (ok_spec_l04Ok _) fun r1 hr1 => ?_
  refine Run.y (gv := vIv) (fun h2 => ?_) (fun h2 => ?_)
  · refine Run.q (e := vIv) (gv := vIv) (ok_spec_l04Whole) fun r3 hr3 => ?_
    exact Run.x 0
  · refine Run.q (e := vIv) (gv := vIv) (ok_spec_l08Atanh _ (by rw [hr1] at h2; have z := Ok4p (by simpa using h2); omega)) fun r4 hr4 => ?_
    refine Run.q (e := vIv) (gv := vIv) (ok_spec_l08Atanh _ (by rw [hr1] at h2; have z := Ok4p (by simpa using h2); omega)) fun r5 hr5 => ?_
    refine Run.q (e := vIv) (gv := vIv) (ok_spec_l08Ends _ _) fun r6 hr6 => ?_
    exact Run.x 0

theorem ok_spec_IsWhole (a0 : Iv) : Fun Tryz.prog 48 [] #[vIv a0] (vB (F_spec_IsWhole a0)) [] := by
  refine Fun.ofH 400 E_ok mixed Tryz.func48 (by kernel_rfl) (by kernel_rfl) ?_
  unfold F_spec_IsWhole
  refine Run.q (e := vB) (gv := vB) (ok_spec_l04Ok _) fun r1 _ => ?_
  exact Run.x 0

theorem ok_spec_HasI (a0 : Iv) (a1 : I64) : Fun Tryz.prog 83 [] #[vIv a0, vI a1] (vB (F_spec_HasI a0 a1)) [] := by
  refine Fun.ofH 400 E_ok mixed Tryz.func83 (by kernel_rfl) (by kernel_rfl) ?_
  unfold F_spec_HasI
  refine Run.q (e := vB) (gv := vB) (ok_spec_l04Ok _) fun r1 _ => ?_
  refine Run.y (gv := vB) (fun _ => ?_) (fun _ => ?_)
  · refine Run.z [true, true, true] ?_
    exact Run.x 0
  · refine Run.z [false, false] ?_
    refine Run.q (e := vB) (gv := vB) (ok_spec_l04Has _ _) fun r2 _ => ?_
    refine Run.z [false] ?_
    exact Run.x 0

theorem ok_spec_l07Fix (a0 : I64) : Fun Tryz.prog 121 [] #[vI a0] (vB (F_spec_l07Fix a0)) [] := by
  refine Fun.ofH 400 E_ok mixed Tryz.func121 (by kernel_rfl) (by kernel_rfl) ?_
  unfold F_spec_l07Fix
  refine Run.y (gv := vB) (fun _ => ?_) (fun _ => ?_)
  · refine Run.z [true, true] ?_
    exact Run.x 0
  · refine Run.z [false, false] ?_
    exact Run.x 0

theorem ok_spec_l07Quarter : Fun Tryz.prog 167 [] #[] (vIv (F_spec_l07Quarter)) [] := by
  refine Fun.ofH 400 E_ok mixed Tryz.func167 (by kernel_rfl) (by kernel_rfl) ?_
  unfold F_spec_l07Quarter
  refine Run.q (e := vIv) (gv := vIv) (ok_spec_l05Turn _ (by simp only [w64_val, wu64_val, c64_val, cu64_val, decide_eq_true_eq, decide_eq_false_iff_not, cond_true, cond_false] at *; omega)) fun r1 hr1 => ?_
  refine Run.q (e := vIv) (gv := vIv) (ok_spec_l05Turn _ (by simp only [w64_val, wu64_val, c64_val, cu64_val, decide_eq_true_eq, decide_eq_false_iff_not, cond_true, cond_false] at *; omega)) fun r2 hr2 => ?_
  exact Run.x 0

theorem ok_spec_l02Root_L0 : ∀ (fu : Nat) (a0 : Wd) (x_out : U64) (x_i : I64) (q0 : x_i.val ≤ 63) (hm : (x_i.val + 1).toNat < fu) (t : Array Value) (ht : maskA t [0, 5, 6, 7, 8, 9, 10, 11, 12, 13, 14, 15, 16, 17, 18, 19, 20, 21, 22, 23, 24, 25, 26, 27, 28, 29, 30, 31, 32, 33, 34, 35, 36, 37, 38, 39, 40, 41, 42] = #[undef, .pointer (some ⟨0, 0, none⟩), .int .u64 0, .int .u64 x_out.val, .int .i64 x_i.val, undef, undef, undef, undef, undef, undef, undef, undef, undef, undef, undef, undef, undef, undef, undef, undef, undef, undef, undef, undef, undef, undef, undef, undef, undef, undef, undef, undef, undef, undef, undef, undef, undef, undef, undef, undef, undef, undef]), Cfg Tryz.prog 217 (loopAt Tryz.f217 0) t [(#[.int .i64 a0.hi.val, .int .u64 a0.lo.val], 90)] (RvH [] (vU (F_spec_l02Root_L0 fu a0 x_out x_i))) := by
  intro fu
  induction fu with
  | zero => intro a0 x_out x_i q0 hm; exact absurd hm (Nat.not_lt_zero _)
  | succ fu ih =>
    intro a0 x_out x_i q0 hm t ht
    refine Cfg.round E_ok mixed Tryz.func217 ht fun g => ?_
    unfold F_spec_l02Root_L0
    refine Run.y (gv := vU) (fun h1 => ?_) (fun h1 => ?_)
    · refine Run.k (c := (decide (0 ≤ (wu64 x_i.val).val))) (by kernel_rfl) (by simp only [w64_val, wu64_val, c64_val, cu64_val, decide_eq_true_eq] at *; omega) ?_
      refine Run.q (e := vT_U_U) (gv := vU) (ok_spec_l02Times _ _) fun r2 hr2 => ?_
      refine Run.y (gv := vU) (fun h3 => ?_) (fun h3 => ?_)
      · refine Run.z [true, true, true, true, true, true, true, true] ?_
        exact Run.l (by kernel_rfl) (by kernel_rfl) (by kernel_rfl) (by kernel_rfl) (ih a0 (ior .u64 x_out.val (ishl .u64 1 (wu64 x_i.val).val).val) (w64 (x_i.val - 1)) (by have q1 := x_i.lo; simp only [w64_val, wu64_val, c64_val, cu64_val, decide_eq_true_eq] at *; omega) (by have q1 := x_i.lo; simp only [w64_val, wu64_val, c64_val, cu64_val, decide_eq_true_eq] at *; omega))
      · refine Run.z [false, false, false, false, false] ?_
        refine Run.y (gv := vU) (fun h4 => ?_) (fun h4 => ?_)
        · refine Run.z [true, true, true, false, true, false] ?_
          refine Run.y (gv := vU) (fun h5 => ?_) (fun h5 => ?_)
          · exact Run.l (by kernel_rfl) (by kernel_rfl) (by kernel_rfl) (by kernel_rfl) (ih a0 (ior .u64 x_out.val (ishl .u64 1 (wu64 x_i.val).val).val) (w64 (x_i.val - 1)) (by have q1 := x_i.lo; simp only [w64_val, wu64_val, c64_val, cu64_val, decide_eq_true_eq] at *; omega) (by have q1 := x_i.lo; simp only [w64_val, wu64_val, c64_val, cu64_val, decide_eq_true_eq] at *; omega))
          · exact Run.l (by kernel_rfl) (by kernel_rfl) (by kernel_rfl) (by kernel_rfl) (ih a0 x_out (w64 (x_i.val - 1)) (by have q1 := x_i.lo; simp only [w64_val, wu64_val, c64_val, cu64_val, decide_eq_true_eq] at *; omega) (by have q1 := x_i.lo; simp only [w64_val, wu64_val, c64_val, cu64_val, decide_eq_true_eq] at *; omega))
        · refine Run.z [false, false, false, false, false, false, false] ?_
          exact Run.l (by kernel_rfl) (by kernel_rfl) (by kernel_rfl) (by kernel_rfl) (ih a0 x_out (w64 (x_i.val - 1)) (by have q1 := x_i.lo; simp only [w64_val, wu64_val, c64_val, cu64_val, decide_eq_true_eq] at *; omega) (by have q1 := x_i.lo; simp only [w64_val, wu64_val, c64_val, cu64_val, decide_eq_true_eq] at *; omega))
    · exact Run.x 0

theorem ok_spec_l02Root (a0 : Wd) : Fun Tryz.prog 217 [] #[vWd a0] (vU (F_spec_l02Root a0)) [] := by
  refine Fun.ofH 400 E_ok mixed Tryz.func217 (by kernel_rfl) (by kernel_rfl) ?_
  unfold F_spec_l02Root
  exact Run.l (by kernel_rfl) (by kernel_rfl) (by kernel_rfl) (by kernel_rfl) (ok_spec_l02Root_L0 65 a0 (cu64 0) (c64 63) (by decide) (by decide))

theorem ok_spec_SqrtFloor (a0 : I64) (a1 : I64) : Fun Tryz.prog 215 [] #[vI a0, vI a1] (vT_I_B (F_spec_SqrtFloor a0 a1)) [] := by
  refine Fun.ofH 400 E_ok mixed Tryz.func215 (by kernel_rfl) (by kernel_rfl) ?_
  unfold F_spec_SqrtFloor
  refine Run.y (gv := vT_I_B) (fun _ => ?_) (fun _ => ?_)
  · refine Run.z [true, true, true] ?_
    exact Run.x 0
  · refine Run.z [false, false] ?_
    refine Run.y (gv := vT_I_B) (fun _ => ?_) (fun _ => ?_)
    · exact Run.x 0
    · refine Run.q (e := vWd) (gv := vT_I_B) (ok_spec_l02Mul _ _) fun r1 _ => ?_
      refine Run.q (e := vU) (gv := vT_I_B) (ok_spec_l02Root _) fun r2 _ => ?_
      exact Run.x 0

theorem ok_spec_l03SqrtDown (a0 : I64) : Fun Tryz.prog 212 [] #[vI a0] (vT_I_B (F_spec_l03SqrtDown a0)) [] := by
  refine Fun.ofH 400 E_ok mixed Tryz.func212 (by kernel_rfl) (by kernel_rfl) ?_
  unfold F_spec_l03SqrtDown
  refine Run.q (e := vB) (gv := vT_I_B) (ok_spec_l00In _ _ _) fun r1 _ => ?_
  refine Run.y (gv := vT_I_B) (fun _ => ?_) (fun _ => ?_)
  · exact Run.x 0
  · refine Run.q (e := vT_I_B) (gv := vT_I_B) (ok_spec_SqrtFloor _ _) fun r2 _ => ?_
    exact Run.x 0

theorem ok_spec_l03SqrtUp (a0 : I64) : Fun Tryz.prog 213 [] #[vI a0] (vT_I_B (F_spec_l03SqrtUp a0)) [] := by
  refine Fun.ofH 400 E_ok mixed Tryz.func213 (by kernel_rfl) (by kernel_rfl) ?_
  unfold F_spec_l03SqrtUp
  refine Run.q (e := vT_I_B) (gv := vT_I_B) (ok_spec_l03SqrtDown _) fun r1 _ => ?_
  refine Run.y (gv := vT_I_B) (fun _ => ?_) (fun _ => ?_)
  · exact Run.x 0
  · refine Run.q (e := vT_I_B) (gv := vT_I_B) (ok_spec_MulFloor _ _ _) fun r2 _ => ?_
    refine Run.y (gv := vT_I_B) (fun _ => ?_) (fun _ => ?_)
    · refine Run.z [true, true, true, true, true, true] ?_
      exact Run.x 0
    · refine Run.z [false, false, false, false, false] ?_
      refine Run.y (gv := vT_I_B) (fun _ => ?_) (fun _ => ?_)
      · exact Run.x 0
      · exact Run.x 0

theorem ok_spec_SqrtI (a0 : Iv) : Fun Tryz.prog 209 [] #[vIv a0] (vIv (F_spec_SqrtI a0)) [] := by
  refine Fun.ofH 400 E_ok mixed Tryz.func209 (by kernel_rfl) (by kernel_rfl) ?_
  unfold F_spec_SqrtI
  refine Run.q (e := vB) (gv := vIv) (ok_spec_l04Ok _) fun r1 _ => ?_
  refine Run.y (gv := vIv) (fun _ => ?_) (fun _ => ?_)
  · refine Run.z [true, true, true, true] ?_
    refine Run.q (e := vIv) (gv := vIv) (ok_spec_l04Whole) fun r2 _ => ?_
    exact Run.x 0
  · refine Run.z [false, false, false] ?_
    refine Run.y (gv := vIv) (fun _ => ?_) (fun _ => ?_)
    · refine Run.q (e := vIv) (gv := vIv) (ok_spec_l04Whole) fun r3 _ => ?_
      exact Run.x 0
    · refine Run.q (e := vT_I_B) (gv := vIv) (ok_spec_l03SqrtDown _) fun r4 _ => ?_
      refine Run.q (e := vT_I_B) (gv := vIv) (ok_spec_l03SqrtUp _) fun r5 _ => ?_
      refine Run.q (e := vIv) (gv := vIv) (ok_spec_l04Make _ _) fun r6 _ => ?_
      exact Run.x 0

theorem ok_spec_l07Halve (a0 : Iv) : Fun Tryz.prog 206 [] #[vIv a0] (vIv (F_spec_l07Halve a0)) [] := by
  refine Fun.ofH 400 E_ok mixed Tryz.func206 (by kernel_rfl) (by kernel_rfl) ?_
  unfold F_spec_l07Halve
  refine Run.q (e := vIv) (gv := vIv) (ok_spec_Integer _) fun r1 _ => ?_
  refine Run.q (e := vIv) (gv := vIv) (ok_spec_Integer _) fun r2 _ => ?_
  refine Run.q (e := vIv) (gv := vIv) (ok_spec_SqrI _) fun r3 _ => ?_
  refine Run.q (e := vIv) (gv := vIv) (ok_spec_AddI _ _) fun r4 _ => ?_
  refine Run.q (e := vIv) (gv := vIv) (ok_spec_SqrtI _) fun r5 _ => ?_
  refine Run.q (e := vIv) (gv := vIv) (ok_spec_AddI _ _) fun r6 _ => ?_
  refine Run.q (e := vIv) (gv := vIv) (ok_spec_DivI _ _) fun r7 _ => ?_
  exact Run.x 0

theorem ok_spec_ArcSeries (a0 : Iv) : Fun Tryz.prog 205 [] #[vIv a0] (vIv (F_spec_ArcSeries a0)) [] := by
  refine Fun.ofH 400 E_ok mixed Tryz.func205 (by kernel_rfl) (by kernel_rfl) ?_
  unfold F_spec_ArcSeries
  refine Run.q (e := vB) (gv := vIv) (ok_spec_InsideI _ _) fun r1 _ => ?_
  refine Run.y (gv := vIv) (fun _ => ?_) (fun _ => ?_)
  · refine Run.q (e := vIv) (gv := vIv) (ok_spec_Whole) fun r2 _ => ?_
    exact Run.x 0
  · refine Run.q (e := vIv) (gv := vIv) (ok_spec_SqrI _) fun r3 _ => ?_
    refine Run.q (e := vIv) (gv := vIv) (ok_spec_Quotient _ _) fun r4 _ => ?_
    refine Run.u 400 E_ok mixed Tryz.func205 ?_
    refine Run.z [true] ?_
    refine Run.q (e := vIv) (gv := vIv) (ok_spec_Quotient _ _) fun r5 _ => ?_
    refine Run.q (e := vIv) (gv := vIv) (ok_spec_MulI _ _) fun r6 _ => ?_
    refine Run.q (e := vIv) (gv := vIv) (ok_spec_SubI _ _) fun r7 _ => ?_
    refine Run.u 400 E_ok mixed Tryz.func205 ?_
    refine Run.z [true] ?_
    refine Run.q (e := vIv) (gv := vIv) (ok_spec_Quotient _ _) fun r8 _ => ?_
    refine Run.q (e := vIv) (gv := vIv) (ok_spec_MulI _ _) fun r9 _ => ?_
    refine Run.q (e := vIv) (gv := vIv) (ok_spec_SubI _ _) fun r10 _ => ?_
    refine Run.u 400 E_ok mixed Tryz.func205 ?_
    refine Run.z [true] ?_
    refine Run.q (e := vIv) (gv := vIv) (ok_spec_Quotient _ _) fun r11 _ => ?_
    refine Run.q (e := vIv) (gv := vIv) (ok_spec_MulI _ _) fun r12 _ => ?_
    refine Run.q (e := vIv) (gv := vIv) (ok_spec_SubI _ _) fun r13 _ => ?_
    refine Run.u 400 E_ok mixed Tryz.func205 ?_
    refine Run.z [true] ?_
    refine Run.q (e := vIv) (gv := vIv) (ok_spec_Quotient _ _) fun r14 _ => ?_
    refine Run.q (e := vIv) (gv := vIv) (ok_spec_MulI _ _) fun r15 _ => ?_
    refine Run.q (e := vIv) (gv := vIv) (ok_spec_SubI _ _) fun r16 _ => ?_
    refine Run.u 400 E_ok mixed Tryz.func205 ?_
    refine Run.z [true] ?_
    refine Run.q (e := vIv) (gv := vIv) (ok_spec_Quotient _ _) fun r17 _ => ?_
    refine Run.q (e := vIv) (gv := vIv) (ok_spec_MulI _ _) fun r18 _ => ?_
    refine Run.q (e := vIv) (gv := vIv) (ok_spec_SubI _ _) fun r19 _ => ?_
    refine Run.u 400 E_ok mixed Tryz.func205 ?_
    refine Run.z [true] ?_
    refine Run.q (e := vIv) (gv := vIv) (ok_spec_Quotient _ _) fun r20 _ => ?_
    refine Run.q (e := vIv) (gv := vIv) (ok_spec_MulI _ _) fun r21 _ => ?_
    refine Run.q (e := vIv) (gv := vIv) (ok_spec_SubI _ _) fun r22 _ => ?_
    refine Run.u 400 E_ok mixed Tryz.func205 ?_
    refine Run.z [true] ?_
    refine Run.q (e := vIv) (gv := vIv) (ok_spec_Quotient _ _) fun r23 _ => ?_
    refine Run.q (e := vIv) (gv := vIv) (ok_spec_MulI _ _) fun r24 _ => ?_
    refine Run.q (e := vIv) (gv := vIv) (ok_spec_SubI _ _) fun r25 _ => ?_
    refine Run.u 400 E_ok mixed Tryz.func205 ?_
    refine Run.z [true] ?_
    refine Run.q (e := vIv) (gv := vIv) (ok_spec_Quotient _ _) fun r26 _ => ?_
    refine Run.q (e := vIv) (gv := vIv) (ok_spec_MulI _ _) fun r27 _ => ?_
    refine Run.q (e := vIv) (gv := vIv) (ok_spec_SubI _ _) fun r28 _ => ?_
    refine Run.u 400 E_ok mixed Tryz.func205 ?_
    refine Run.z [true] ?_
    refine Run.q (e := vIv) (gv := vIv) (ok_spec_Quotient _ _) fun r29 _ => ?_
    refine Run.q (e := vIv) (gv := vIv) (ok_spec_MulI _ _) fun r30 _ => ?_
    refine Run.q (e := vIv) (gv := vIv) (ok_spec_SubI _ _) fun r31 _ => ?_
    refine Run.u 400 E_ok mixed Tryz.func205 ?_
    refine Run.z [true] ?_
    refine Run.q (e := vIv) (gv := vIv) (ok_spec_Quotient _ _) fun r32 _ => ?_
    refine Run.q (e := vIv) (gv := vIv) (ok_spec_MulI _ _) fun r33 _ => ?_
    refine Run.q (e := vIv) (gv := vIv) (ok_spec_SubI _ _) fun r34 _ => ?_
    refine Run.u 400 E_ok mixed Tryz.func205 ?_
    refine Run.z [false] ?_
    refine Run.q (e := vIv) (gv := vIv) (ok_spec_MulI _ _) fun r35 _ => ?_
    refine Run.q (e := vIv) (gv := vIv) (ok_spec_l06Tiny) fun r36 _ => ?_
    refine Run.q (e := vIv) (gv := vIv) (ok_spec_AddI _ _) fun r37 _ => ?_
    exact Run.x 0

theorem ok_spec_DoubleI (a0 : Iv) : Fun Tryz.prog 204 [] #[vIv a0] (vIv (F_spec_DoubleI a0)) [] := by
  refine Fun.ofH 400 E_ok mixed Tryz.func204 (by kernel_rfl) (by kernel_rfl) ?_
  unfold F_spec_DoubleI
  refine Run.q (e := vB) (gv := vIv) (ok_spec_l04Ok _) fun r1 _ => ?_
  refine Run.y (gv := vIv) (fun _ => ?_) (fun _ => ?_)
  · refine Run.q (e := vIv) (gv := vIv) (ok_spec_l04Whole) fun r2 _ => ?_
    exact Run.x 0
  · refine Run.q (e := vIv) (gv := vIv) (ok_spec_l04Make _ _) fun r3 _ => ?_
    exact Run.x 0

theorem ok_spec_l07Core (a0 : Iv) : Fun Tryz.prog 192 [] #[vIv a0] (vIv (F_spec_l07Core a0)) [] := by
  refine Fun.ofH 400 E_ok mixed Tryz.func192 (by kernel_rfl) (by kernel_rfl) ?_
  unfold F_spec_l07Core
  refine Run.q (e := vIv) (gv := vIv) (ok_spec_l07Halve _) fun r1 _ => ?_
  refine Run.q (e := vIv) (gv := vIv) (ok_spec_l07Halve _) fun r2 _ => ?_
  refine Run.q (e := vIv) (gv := vIv) (ok_spec_ArcSeries _) fun r3 _ => ?_
  refine Run.q (e := vIv) (gv := vIv) (ok_spec_DoubleI _) fun r4 _ => ?_
  refine Run.q (e := vIv) (gv := vIv) (ok_spec_DoubleI _) fun r5 _ => ?_
  exact Run.x 0

theorem ok_spec_AtanAt_r : ∀ (fu : Nat) (a0 : I64) (hm : min (0 - a0.val).toNat 1 < fu), Fun Tryz.prog 168 [] #[vI a0] (vIv (F_spec_AtanAt_r fu a0)) [] := by
  intro fu
  induction fu with
  | zero => intro a0 hm; exact absurd hm (Nat.not_lt_zero _)
  | succ fu ih =>
    intro a0 hm
    refine Fun.ofH 400 E_ok mixed Tryz.func168 (by kernel_rfl) (by kernel_rfl) ?_
    unfold F_spec_AtanAt_r
    unfold F_spec_AtanAt_b
    refine Run.q (e := vB) (gv := vIv) (ok_spec_l07Fix _) fun r1 hr1 => ?_
    refine Run.y (gv := vIv) (fun h2 => ?_) (fun h2 => ?_)
    · refine Run.q (e := vIv) (gv := vIv) (ok_spec_l07Quarter) fun r3 hr3 => ?_
      exact Run.x 0
    · refine Run.y (gv := vIv) (fun h4 => ?_) (fun h4 => ?_)
      · refine Run.q (e := vIv) (gv := vIv) (ih (w64 (0 - a0.val)) (by rw [hr1] at h2; simp [F_spec_l07Fix, c64_val] at h2; simp only [w64_val, decide_eq_true_eq, decide_eq_false_iff_not] at *; omega)) fun r5 hr5 => ?_
        refine Run.q (e := vIv) (gv := vIv) (ok_spec_NegI _) fun r6 hr6 => ?_
        exact Run.x 0
      · refine Run.y (gv := vIv) (fun h7 => ?_) (fun h7 => ?_)
        · refine Run.q (e := vIv) (gv := vIv) (ok_spec_TurnI _) fun r8 hr8 => ?_
          refine Run.q (e := vIv) (gv := vIv) (ok_spec_Integer _) fun r9 hr9 => ?_
          refine Run.q (e := vIv) (gv := vIv) (ok_spec_l05At _) fun r10 hr10 => ?_
          refine Run.q (e := vIv) (gv := vIv) (ok_spec_DivI _ _) fun r11 hr11 => ?_
          refine Run.q (e := vIv) (gv := vIv) (ok_spec_l07Core _) fun r12 hr12 => ?_
          refine Run.q (e := vIv) (gv := vIv) (ok_spec_SubI _ _) fun r13 hr13 => ?_
          exact Run.x 0
        · refine Run.q (e := vIv) (gv := vIv) (ok_spec_l05At _) fun r14 hr14 => ?_
          refine Run.q (e := vIv) (gv := vIv) (ok_spec_l07Core _) fun r15 hr15 => ?_
          exact Run.x 0
theorem ok_spec_AtanAt (a0 : I64) : Fun Tryz.prog 168 [] #[vI a0] (vIv (F_spec_AtanAt a0)) [] := ok_spec_AtanAt_r 2 a0 (by omega)

theorem ok_spec_AtanI (a0 : Iv) : Fun Tryz.prog 123 [] #[vIv a0] (vIv (F_spec_AtanI a0)) [] := by
  refine Fun.ofH 400 E_ok mixed Tryz.func123 (by kernel_rfl) (by kernel_rfl) ?_
  unfold F_spec_AtanI
  refine Run.q (e := vB) (gv := vIv) (ok_spec_IsWhole _) fun r1 _ => ?_
  refine Run.y (gv := vIv) (fun _ => ?_) (fun _ => ?_)
  · refine Run.q (e := vIv) (gv := vIv) (ok_spec_l07Quarter) fun r2 _ => ?_
    exact Run.x 0
  · refine Run.q (e := vIv) (gv := vIv) (ok_spec_AtanAt _) fun r3 _ => ?_
    refine Run.q (e := vIv) (gv := vIv) (ok_spec_AtanAt _) fun r4 _ => ?_
    refine Run.q (e := vIv) (gv := vIv) (ok_spec_HullI _ _) fun r5 _ => ?_
    exact Run.x 0

theorem ok_spec_DirectionAt (a0 : I64) (a1 : I64) : Fun Tryz.prog 85 [] #[vI a0, vI a1] (vIv (F_spec_DirectionAt a0 a1)) [] := by
  refine Fun.ofH 400 E_ok mixed Tryz.func85 (by kernel_rfl) (by kernel_rfl) ?_
  unfold F_spec_DirectionAt
  refine Run.q (e := vB) (gv := vIv) (ok_spec_l07Fix _) fun r1 _ => ?_
  refine Run.y (gv := vIv) (fun _ => ?_) (fun _ => ?_)
  · refine Run.z [true, true, true, true, true, true, true, true, true] ?_
    refine Run.q (e := vIv) (gv := vIv) (ok_spec_Whole) fun r2 _ => ?_
    exact Run.x 0
  · refine Run.z [false] ?_
    refine Run.q (e := vB) (gv := vIv) (ok_spec_l07Fix _) fun r3 _ => ?_
    refine Run.z [false, false] ?_
    refine Run.y (gv := vIv) (fun _ => ?_) (fun _ => ?_)
    · refine Run.z [true, true, true, true, true] ?_
      refine Run.q (e := vIv) (gv := vIv) (ok_spec_Whole) fun r4 _ => ?_
      exact Run.x 0
    · refine Run.z [false, false] ?_
      refine Run.y (gv := vIv) (fun _ => ?_) (fun _ => ?_)
      · refine Run.z [true, false, true, false] ?_
        refine Run.y (gv := vIv) (fun _ => ?_) (fun _ => ?_)
        · refine Run.q (e := vIv) (gv := vIv) (ok_spec_Whole) fun r5 _ => ?_
          exact Run.x 0
        · refine Run.y (gv := vIv) (fun _ => ?_) (fun _ => ?_)
          · refine Run.y (gv := vIv) (fun _ => ?_) (fun _ => ?_)
            · refine Run.z [true, true, true, true] ?_
              refine Run.y (gv := vIv) (fun _ => ?_) (fun _ => ?_)
              · refine Run.y (gv := vIv) (fun _ => ?_) (fun _ => ?_)
                · refine Run.q (e := vIv) (gv := vIv) (ok_spec_TurnI _) fun r6 _ => ?_
                  refine Run.q (e := vIv) (gv := vIv) (ok_spec_l05At _) fun r7 _ => ?_
                  refine Run.q (e := vIv) (gv := vIv) (ok_spec_l05At _) fun r8 _ => ?_
                  refine Run.q (e := vIv) (gv := vIv) (ok_spec_DivI _ _) fun r9 _ => ?_
                  refine Run.q (e := vIv) (gv := vIv) (ok_spec_AtanI _) fun r10 _ => ?_
                  refine Run.q (e := vIv) (gv := vIv) (ok_spec_SubI _ _) fun r11 _ => ?_
                  exact Run.x 0
                · refine Run.q (e := vIv) (gv := vIv) (ok_spec_TurnI _) fun r12 _ => ?_
                  refine Run.q (e := vIv) (gv := vIv) (ok_spec_l05At _) fun r13 _ => ?_
                  refine Run.q (e := vIv) (gv := vIv) (ok_spec_l05At _) fun r14 _ => ?_
                  refine Run.q (e := vIv) (gv := vIv) (ok_spec_DivI _ _) fun r15 _ => ?_
                  refine Run.q (e := vIv) (gv := vIv) (ok_spec_AtanI _) fun r16 _ => ?_
                  refine Run.q (e := vIv) (gv := vIv) (ok_spec_SubI _ _) fun r17 _ => ?_
                  exact Run.x 0
              · refine Run.y (gv := vIv) (fun _ => ?_) (fun _ => ?_)
                · refine Run.q (e := vIv) (gv := vIv) (ok_spec_l05At _) fun r18 _ => ?_
                  refine Run.q (e := vIv) (gv := vIv) (ok_spec_l05At _) fun r19 _ => ?_
                  refine Run.q (e := vIv) (gv := vIv) (ok_spec_DivI _ _) fun r20 _ => ?_
                  refine Run.q (e := vIv) (gv := vIv) (ok_spec_AtanI _) fun r21 _ => ?_
                  exact Run.x 0
                · refine Run.y (gv := vIv) (fun _ => ?_) (fun _ => ?_)
                  · refine Run.q (e := vIv) (gv := vIv) (ok_spec_l05At _) fun r22 _ => ?_
                    refine Run.q (e := vIv) (gv := vIv) (ok_spec_l05At _) fun r23 _ => ?_
                    refine Run.q (e := vIv) (gv := vIv) (ok_spec_DivI _ _) fun r24 _ => ?_
                    refine Run.q (e := vIv) (gv := vIv) (ok_spec_AtanI _) fun r25 _ => ?_
                    refine Run.q (e := vIv) (gv := vIv) (ok_spec_TurnI _) fun r26 _ => ?_
                    refine Run.q (e := vIv) (gv := vIv) (ok_spec_AddI _ _) fun r27 _ => ?_
                    exact Run.x 0
                  · refine Run.q (e := vIv) (gv := vIv) (ok_spec_l05At _) fun r28 _ => ?_
                    refine Run.q (e := vIv) (gv := vIv) (ok_spec_l05At _) fun r29 _ => ?_
                    refine Run.q (e := vIv) (gv := vIv) (ok_spec_DivI _ _) fun r30 _ => ?_
                    refine Run.q (e := vIv) (gv := vIv) (ok_spec_AtanI _) fun r31 _ => ?_
                    refine Run.q (e := vIv) (gv := vIv) (ok_spec_TurnI _) fun r32 _ => ?_
                    refine Run.q (e := vIv) (gv := vIv) (ok_spec_AddI _ _) fun r33 _ => ?_
                    exact Run.x 0
            · refine Run.z [false, false, false, false, false] ?_
              refine Run.y (gv := vIv) (fun _ => ?_) (fun _ => ?_)
              · refine Run.q (e := vIv) (gv := vIv) (ok_spec_l05At _) fun r34 _ => ?_
                refine Run.q (e := vIv) (gv := vIv) (ok_spec_l05At _) fun r35 _ => ?_
                refine Run.q (e := vIv) (gv := vIv) (ok_spec_DivI _ _) fun r36 _ => ?_
                refine Run.q (e := vIv) (gv := vIv) (ok_spec_AtanI _) fun r37 _ => ?_
                exact Run.x 0
              · refine Run.y (gv := vIv) (fun _ => ?_) (fun _ => ?_)
                · refine Run.q (e := vIv) (gv := vIv) (ok_spec_l05At _) fun r38 _ => ?_
                  refine Run.q (e := vIv) (gv := vIv) (ok_spec_l05At _) fun r39 _ => ?_
                  refine Run.q (e := vIv) (gv := vIv) (ok_spec_DivI _ _) fun r40 _ => ?_
                  refine Run.q (e := vIv) (gv := vIv) (ok_spec_AtanI _) fun r41 _ => ?_
                  refine Run.q (e := vIv) (gv := vIv) (ok_spec_TurnI _) fun r42 _ => ?_
                  refine Run.q (e := vIv) (gv := vIv) (ok_spec_AddI _ _) fun r43 _ => ?_
                  exact Run.x 0
                · refine Run.q (e := vIv) (gv := vIv) (ok_spec_l05At _) fun r44 _ => ?_
                  refine Run.q (e := vIv) (gv := vIv) (ok_spec_l05At _) fun r45 _ => ?_
                  refine Run.q (e := vIv) (gv := vIv) (ok_spec_DivI _ _) fun r46 _ => ?_
                  refine Run.q (e := vIv) (gv := vIv) (ok_spec_AtanI _) fun r47 _ => ?_
                  refine Run.q (e := vIv) (gv := vIv) (ok_spec_TurnI _) fun r48 _ => ?_
                  refine Run.q (e := vIv) (gv := vIv) (ok_spec_AddI _ _) fun r49 _ => ?_
                  exact Run.x 0
          · refine Run.y (gv := vIv) (fun _ => ?_) (fun _ => ?_)
            · refine Run.z [true, true, true, true] ?_
              refine Run.y (gv := vIv) (fun _ => ?_) (fun _ => ?_)
              · refine Run.y (gv := vIv) (fun _ => ?_) (fun _ => ?_)
                · refine Run.q (e := vIv) (gv := vIv) (ok_spec_TurnI _) fun r50 _ => ?_
                  refine Run.q (e := vIv) (gv := vIv) (ok_spec_l05At _) fun r51 _ => ?_
                  refine Run.q (e := vIv) (gv := vIv) (ok_spec_l05At _) fun r52 _ => ?_
                  refine Run.q (e := vIv) (gv := vIv) (ok_spec_DivI _ _) fun r53 _ => ?_
                  refine Run.q (e := vIv) (gv := vIv) (ok_spec_AtanI _) fun r54 _ => ?_
                  refine Run.q (e := vIv) (gv := vIv) (ok_spec_SubI _ _) fun r55 _ => ?_
                  exact Run.x 0
                · refine Run.q (e := vIv) (gv := vIv) (ok_spec_TurnI _) fun r56 _ => ?_
                  refine Run.q (e := vIv) (gv := vIv) (ok_spec_l05At _) fun r57 _ => ?_
                  refine Run.q (e := vIv) (gv := vIv) (ok_spec_l05At _) fun r58 _ => ?_
                  refine Run.q (e := vIv) (gv := vIv) (ok_spec_DivI _ _) fun r59 _ => ?_
                  refine Run.q (e := vIv) (gv := vIv) (ok_spec_AtanI _) fun r60 _ => ?_
                  refine Run.q (e := vIv) (gv := vIv) (ok_spec_SubI _ _) fun r61 _ => ?_
                  exact Run.x 0
              · refine Run.y (gv := vIv) (fun _ => ?_) (fun _ => ?_)
                · refine Run.q (e := vIv) (gv := vIv) (ok_spec_l05At _) fun r62 _ => ?_
                  refine Run.q (e := vIv) (gv := vIv) (ok_spec_l05At _) fun r63 _ => ?_
                  refine Run.q (e := vIv) (gv := vIv) (ok_spec_DivI _ _) fun r64 _ => ?_
                  refine Run.q (e := vIv) (gv := vIv) (ok_spec_AtanI _) fun r65 _ => ?_
                  exact Run.x 0
                · refine Run.y (gv := vIv) (fun _ => ?_) (fun _ => ?_)
                  · refine Run.q (e := vIv) (gv := vIv) (ok_spec_l05At _) fun r66 _ => ?_
                    refine Run.q (e := vIv) (gv := vIv) (ok_spec_l05At _) fun r67 _ => ?_
                    refine Run.q (e := vIv) (gv := vIv) (ok_spec_DivI _ _) fun r68 _ => ?_
                    refine Run.q (e := vIv) (gv := vIv) (ok_spec_AtanI _) fun r69 _ => ?_
                    refine Run.q (e := vIv) (gv := vIv) (ok_spec_TurnI _) fun r70 _ => ?_
                    refine Run.q (e := vIv) (gv := vIv) (ok_spec_AddI _ _) fun r71 _ => ?_
                    exact Run.x 0
                  · refine Run.q (e := vIv) (gv := vIv) (ok_spec_l05At _) fun r72 _ => ?_
                    refine Run.q (e := vIv) (gv := vIv) (ok_spec_l05At _) fun r73 _ => ?_
                    refine Run.q (e := vIv) (gv := vIv) (ok_spec_DivI _ _) fun r74 _ => ?_
                    refine Run.q (e := vIv) (gv := vIv) (ok_spec_AtanI _) fun r75 _ => ?_
                    refine Run.q (e := vIv) (gv := vIv) (ok_spec_TurnI _) fun r76 _ => ?_
                    refine Run.q (e := vIv) (gv := vIv) (ok_spec_AddI _ _) fun r77 _ => ?_
                    exact Run.x 0
            · refine Run.z [false, false, false, false, false] ?_
              refine Run.y (gv := vIv) (fun _ => ?_) (fun _ => ?_)
              · refine Run.q (e := vIv) (gv := vIv) (ok_spec_l05At _) fun r78 _ => ?_
                refine Run.q (e := vIv) (gv := vIv) (ok_spec_l05At _) fun r79 _ => ?_
                refine Run.q (e := vIv) (gv := vIv) (ok_spec_DivI _ _) fun r80 _ => ?_
                refine Run.q (e := vIv) (gv := vIv) (ok_spec_AtanI _) fun r81 _ => ?_
                exact Run.x 0
              · refine Run.y (gv := vIv) (fun _ => ?_) (fun _ => ?_)
                · refine Run.q (e := vIv) (gv := vIv) (ok_spec_l05At _) fun r82 _ => ?_
                  refine Run.q (e := vIv) (gv := vIv) (ok_spec_l05At _) fun r83 _ => ?_
                  refine Run.q (e := vIv) (gv := vIv) (ok_spec_DivI _ _) fun r84 _ => ?_
                  refine Run.q (e := vIv) (gv := vIv) (ok_spec_AtanI _) fun r85 _ => ?_
                  refine Run.q (e := vIv) (gv := vIv) (ok_spec_TurnI _) fun r86 _ => ?_
                  refine Run.q (e := vIv) (gv := vIv) (ok_spec_AddI _ _) fun r87 _ => ?_
                  exact Run.x 0
                · refine Run.q (e := vIv) (gv := vIv) (ok_spec_l05At _) fun r88 _ => ?_
                  refine Run.q (e := vIv) (gv := vIv) (ok_spec_l05At _) fun r89 _ => ?_
                  refine Run.q (e := vIv) (gv := vIv) (ok_spec_DivI _ _) fun r90 _ => ?_
                  refine Run.q (e := vIv) (gv := vIv) (ok_spec_AtanI _) fun r91 _ => ?_
                  refine Run.q (e := vIv) (gv := vIv) (ok_spec_TurnI _) fun r92 _ => ?_
                  refine Run.q (e := vIv) (gv := vIv) (ok_spec_AddI _ _) fun r93 _ => ?_
                  exact Run.x 0
      · refine Run.z [false, false, false, false, false] ?_
        refine Run.y (gv := vIv) (fun _ => ?_) (fun _ => ?_)
        · refine Run.y (gv := vIv) (fun _ => ?_) (fun _ => ?_)
          · refine Run.z [true, true, true, true] ?_
            refine Run.y (gv := vIv) (fun _ => ?_) (fun _ => ?_)
            · refine Run.y (gv := vIv) (fun _ => ?_) (fun _ => ?_)
              · refine Run.q (e := vIv) (gv := vIv) (ok_spec_TurnI _) fun r94 _ => ?_
                refine Run.q (e := vIv) (gv := vIv) (ok_spec_l05At _) fun r95 _ => ?_
                refine Run.q (e := vIv) (gv := vIv) (ok_spec_l05At _) fun r96 _ => ?_
                refine Run.q (e := vIv) (gv := vIv) (ok_spec_DivI _ _) fun r97 _ => ?_
                refine Run.q (e := vIv) (gv := vIv) (ok_spec_AtanI _) fun r98 _ => ?_
                refine Run.q (e := vIv) (gv := vIv) (ok_spec_SubI _ _) fun r99 _ => ?_
                exact Run.x 0
              · refine Run.q (e := vIv) (gv := vIv) (ok_spec_TurnI _) fun r100 _ => ?_
                refine Run.q (e := vIv) (gv := vIv) (ok_spec_l05At _) fun r101 _ => ?_
                refine Run.q (e := vIv) (gv := vIv) (ok_spec_l05At _) fun r102 _ => ?_
                refine Run.q (e := vIv) (gv := vIv) (ok_spec_DivI _ _) fun r103 _ => ?_
                refine Run.q (e := vIv) (gv := vIv) (ok_spec_AtanI _) fun r104 _ => ?_
                refine Run.q (e := vIv) (gv := vIv) (ok_spec_SubI _ _) fun r105 _ => ?_
                exact Run.x 0
            · refine Run.y (gv := vIv) (fun _ => ?_) (fun _ => ?_)
              · refine Run.q (e := vIv) (gv := vIv) (ok_spec_l05At _) fun r106 _ => ?_
                refine Run.q (e := vIv) (gv := vIv) (ok_spec_l05At _) fun r107 _ => ?_
                refine Run.q (e := vIv) (gv := vIv) (ok_spec_DivI _ _) fun r108 _ => ?_
                refine Run.q (e := vIv) (gv := vIv) (ok_spec_AtanI _) fun r109 _ => ?_
                exact Run.x 0
              · refine Run.y (gv := vIv) (fun _ => ?_) (fun _ => ?_)
                · refine Run.q (e := vIv) (gv := vIv) (ok_spec_l05At _) fun r110 _ => ?_
                  refine Run.q (e := vIv) (gv := vIv) (ok_spec_l05At _) fun r111 _ => ?_
                  refine Run.q (e := vIv) (gv := vIv) (ok_spec_DivI _ _) fun r112 _ => ?_
                  refine Run.q (e := vIv) (gv := vIv) (ok_spec_AtanI _) fun r113 _ => ?_
                  refine Run.q (e := vIv) (gv := vIv) (ok_spec_TurnI _) fun r114 _ => ?_
                  refine Run.q (e := vIv) (gv := vIv) (ok_spec_AddI _ _) fun r115 _ => ?_
                  exact Run.x 0
                · refine Run.q (e := vIv) (gv := vIv) (ok_spec_l05At _) fun r116 _ => ?_
                  refine Run.q (e := vIv) (gv := vIv) (ok_spec_l05At _) fun r117 _ => ?_
                  refine Run.q (e := vIv) (gv := vIv) (ok_spec_DivI _ _) fun r118 _ => ?_
                  refine Run.q (e := vIv) (gv := vIv) (ok_spec_AtanI _) fun r119 _ => ?_
                  refine Run.q (e := vIv) (gv := vIv) (ok_spec_TurnI _) fun r120 _ => ?_
                  refine Run.q (e := vIv) (gv := vIv) (ok_spec_AddI _ _) fun r121 _ => ?_
                  exact Run.x 0
          · refine Run.z [false, false, false, false, false] ?_
            refine Run.y (gv := vIv) (fun _ => ?_) (fun _ => ?_)
            · refine Run.q (e := vIv) (gv := vIv) (ok_spec_l05At _) fun r122 _ => ?_
              refine Run.q (e := vIv) (gv := vIv) (ok_spec_l05At _) fun r123 _ => ?_
              refine Run.q (e := vIv) (gv := vIv) (ok_spec_DivI _ _) fun r124 _ => ?_
              refine Run.q (e := vIv) (gv := vIv) (ok_spec_AtanI _) fun r125 _ => ?_
              exact Run.x 0
            · refine Run.y (gv := vIv) (fun _ => ?_) (fun _ => ?_)
              · refine Run.q (e := vIv) (gv := vIv) (ok_spec_l05At _) fun r126 _ => ?_
                refine Run.q (e := vIv) (gv := vIv) (ok_spec_l05At _) fun r127 _ => ?_
                refine Run.q (e := vIv) (gv := vIv) (ok_spec_DivI _ _) fun r128 _ => ?_
                refine Run.q (e := vIv) (gv := vIv) (ok_spec_AtanI _) fun r129 _ => ?_
                refine Run.q (e := vIv) (gv := vIv) (ok_spec_TurnI _) fun r130 _ => ?_
                refine Run.q (e := vIv) (gv := vIv) (ok_spec_AddI _ _) fun r131 _ => ?_
                exact Run.x 0
              · refine Run.q (e := vIv) (gv := vIv) (ok_spec_l05At _) fun r132 _ => ?_
                refine Run.q (e := vIv) (gv := vIv) (ok_spec_l05At _) fun r133 _ => ?_
                refine Run.q (e := vIv) (gv := vIv) (ok_spec_DivI _ _) fun r134 _ => ?_
                refine Run.q (e := vIv) (gv := vIv) (ok_spec_AtanI _) fun r135 _ => ?_
                refine Run.q (e := vIv) (gv := vIv) (ok_spec_TurnI _) fun r136 _ => ?_
                refine Run.q (e := vIv) (gv := vIv) (ok_spec_AddI _ _) fun r137 _ => ?_
                exact Run.x 0
        · refine Run.y (gv := vIv) (fun _ => ?_) (fun _ => ?_)
          · refine Run.z [true, true, true, true] ?_
            refine Run.y (gv := vIv) (fun _ => ?_) (fun _ => ?_)
            · refine Run.y (gv := vIv) (fun _ => ?_) (fun _ => ?_)
              · refine Run.q (e := vIv) (gv := vIv) (ok_spec_TurnI _) fun r138 _ => ?_
                refine Run.q (e := vIv) (gv := vIv) (ok_spec_l05At _) fun r139 _ => ?_
                refine Run.q (e := vIv) (gv := vIv) (ok_spec_l05At _) fun r140 _ => ?_
                refine Run.q (e := vIv) (gv := vIv) (ok_spec_DivI _ _) fun r141 _ => ?_
                refine Run.q (e := vIv) (gv := vIv) (ok_spec_AtanI _) fun r142 _ => ?_
                refine Run.q (e := vIv) (gv := vIv) (ok_spec_SubI _ _) fun r143 _ => ?_
                exact Run.x 0
              · refine Run.q (e := vIv) (gv := vIv) (ok_spec_TurnI _) fun r144 _ => ?_
                refine Run.q (e := vIv) (gv := vIv) (ok_spec_l05At _) fun r145 _ => ?_
                refine Run.q (e := vIv) (gv := vIv) (ok_spec_l05At _) fun r146 _ => ?_
                refine Run.q (e := vIv) (gv := vIv) (ok_spec_DivI _ _) fun r147 _ => ?_
                refine Run.q (e := vIv) (gv := vIv) (ok_spec_AtanI _) fun r148 _ => ?_
                refine Run.q (e := vIv) (gv := vIv) (ok_spec_SubI _ _) fun r149 _ => ?_
                exact Run.x 0
            · refine Run.y (gv := vIv) (fun _ => ?_) (fun _ => ?_)
              · refine Run.q (e := vIv) (gv := vIv) (ok_spec_l05At _) fun r150 _ => ?_
                refine Run.q (e := vIv) (gv := vIv) (ok_spec_l05At _) fun r151 _ => ?_
                refine Run.q (e := vIv) (gv := vIv) (ok_spec_DivI _ _) fun r152 _ => ?_
                refine Run.q (e := vIv) (gv := vIv) (ok_spec_AtanI _) fun r153 _ => ?_
                exact Run.x 0
              · refine Run.y (gv := vIv) (fun _ => ?_) (fun _ => ?_)
                · refine Run.q (e := vIv) (gv := vIv) (ok_spec_l05At _) fun r154 _ => ?_
                  refine Run.q (e := vIv) (gv := vIv) (ok_spec_l05At _) fun r155 _ => ?_
                  refine Run.q (e := vIv) (gv := vIv) (ok_spec_DivI _ _) fun r156 _ => ?_
                  refine Run.q (e := vIv) (gv := vIv) (ok_spec_AtanI _) fun r157 _ => ?_
                  refine Run.q (e := vIv) (gv := vIv) (ok_spec_TurnI _) fun r158 _ => ?_
                  refine Run.q (e := vIv) (gv := vIv) (ok_spec_AddI _ _) fun r159 _ => ?_
                  exact Run.x 0
                · refine Run.q (e := vIv) (gv := vIv) (ok_spec_l05At _) fun r160 _ => ?_
                  refine Run.q (e := vIv) (gv := vIv) (ok_spec_l05At _) fun r161 _ => ?_
                  refine Run.q (e := vIv) (gv := vIv) (ok_spec_DivI _ _) fun r162 _ => ?_
                  refine Run.q (e := vIv) (gv := vIv) (ok_spec_AtanI _) fun r163 _ => ?_
                  refine Run.q (e := vIv) (gv := vIv) (ok_spec_TurnI _) fun r164 _ => ?_
                  refine Run.q (e := vIv) (gv := vIv) (ok_spec_AddI _ _) fun r165 _ => ?_
                  exact Run.x 0
          · refine Run.z [false, false, false, false, false] ?_
            refine Run.y (gv := vIv) (fun _ => ?_) (fun _ => ?_)
            · refine Run.q (e := vIv) (gv := vIv) (ok_spec_l05At _) fun r166 _ => ?_
              refine Run.q (e := vIv) (gv := vIv) (ok_spec_l05At _) fun r167 _ => ?_
              refine Run.q (e := vIv) (gv := vIv) (ok_spec_DivI _ _) fun r168 _ => ?_
              refine Run.q (e := vIv) (gv := vIv) (ok_spec_AtanI _) fun r169 _ => ?_
              exact Run.x 0
            · refine Run.y (gv := vIv) (fun _ => ?_) (fun _ => ?_)
              · refine Run.q (e := vIv) (gv := vIv) (ok_spec_l05At _) fun r170 _ => ?_
                refine Run.q (e := vIv) (gv := vIv) (ok_spec_l05At _) fun r171 _ => ?_
                refine Run.q (e := vIv) (gv := vIv) (ok_spec_DivI _ _) fun r172 _ => ?_
                refine Run.q (e := vIv) (gv := vIv) (ok_spec_AtanI _) fun r173 _ => ?_
                refine Run.q (e := vIv) (gv := vIv) (ok_spec_TurnI _) fun r174 _ => ?_
                refine Run.q (e := vIv) (gv := vIv) (ok_spec_AddI _ _) fun r175 _ => ?_
                exact Run.x 0
              · refine Run.q (e := vIv) (gv := vIv) (ok_spec_l05At _) fun r176 _ => ?_
                refine Run.q (e := vIv) (gv := vIv) (ok_spec_l05At _) fun r177 _ => ?_
                refine Run.q (e := vIv) (gv := vIv) (ok_spec_DivI _ _) fun r178 _ => ?_
                refine Run.q (e := vIv) (gv := vIv) (ok_spec_AtanI _) fun r179 _ => ?_
                refine Run.q (e := vIv) (gv := vIv) (ok_spec_TurnI _) fun r180 _ => ?_
                refine Run.q (e := vIv) (gv := vIv) (ok_spec_AddI _ _) fun r181 _ => ?_
                exact Run.x 0

theorem ok_spec_DirectionI (a0 : Iv) (a1 : Iv) : Fun Tryz.prog 43 [] #[vIv a0, vIv a1] (vIv (F_spec_DirectionI a0 a1)) [] := by
  refine Fun.ofH 400 E_ok mixed Tryz.func43 (by kernel_rfl) (by kernel_rfl) ?_
  unfold F_spec_DirectionI
  refine Run.q (e := vB) (gv := vIv) (ok_spec_IsWhole _) fun r1 _ => ?_
  refine Run.y (gv := vIv) (fun _ => ?_) (fun _ => ?_)
  · refine Run.z [true, true, true, true, true, true, true, true, true, true, true, true, true, true, true, true] ?_
    refine Run.q (e := vIv) (gv := vIv) (ok_spec_Whole) fun r2 _ => ?_
    exact Run.x 0
  · refine Run.z [false] ?_
    refine Run.q (e := vB) (gv := vIv) (ok_spec_IsWhole _) fun r3 _ => ?_
    refine Run.z [false] ?_
    refine Run.y (gv := vIv) (fun _ => ?_) (fun _ => ?_)
    · refine Run.z [true, true, true, true, true, true, true, true, true, true, true, true, true] ?_
      refine Run.q (e := vIv) (gv := vIv) (ok_spec_Whole) fun r4 _ => ?_
      exact Run.x 0
    · refine Run.z [false] ?_
      refine Run.q (e := vB) (gv := vIv) (ok_spec_HasI _ _) fun r5 _ => ?_
      refine Run.z [false] ?_
      refine Run.y (gv := vIv) (fun _ => ?_) (fun _ => ?_)
      · refine Run.z [true] ?_
        refine Run.q (e := vB) (gv := vIv) (ok_spec_HasI _ _) fun r6 _ => ?_
        refine Run.z [false, true, false] ?_
        refine Run.y (gv := vIv) (fun _ => ?_) (fun _ => ?_)
        · refine Run.z [true, true, true, true, true, true, true, true] ?_
          refine Run.q (e := vIv) (gv := vIv) (ok_spec_Whole) fun r7 _ => ?_
          exact Run.x 0
        · refine Run.z [false, false, false] ?_
          refine Run.y (gv := vIv) (fun _ => ?_) (fun _ => ?_)
          · refine Run.z [true, true, false, true, false] ?_
            refine Run.y (gv := vIv) (fun _ => ?_) (fun _ => ?_)
            · refine Run.z [true, true, false, true, false] ?_
              refine Run.y (gv := vIv) (fun _ => ?_) (fun _ => ?_)
              · refine Run.q (e := vIv) (gv := vIv) (ok_spec_Whole) fun r8 _ => ?_
                exact Run.x 0
              · refine Run.q (e := vIv) (gv := vIv) (ok_spec_DirectionAt _ _) fun r9 _ => ?_
                refine Run.q (e := vIv) (gv := vIv) (ok_spec_DirectionAt _ _) fun r10 _ => ?_
                refine Run.q (e := vIv) (gv := vIv) (ok_spec_HullI _ _) fun r11 _ => ?_
                refine Run.q (e := vIv) (gv := vIv) (ok_spec_DirectionAt _ _) fun r12 _ => ?_
                refine Run.q (e := vIv) (gv := vIv) (ok_spec_DirectionAt _ _) fun r13 _ => ?_
                refine Run.q (e := vIv) (gv := vIv) (ok_spec_HullI _ _) fun r14 _ => ?_
                refine Run.q (e := vIv) (gv := vIv) (ok_spec_HullI _ _) fun r15 _ => ?_
                exact Run.x 0
            · refine Run.z [false, false, false, false, false, false] ?_
              refine Run.q (e := vIv) (gv := vIv) (ok_spec_DirectionAt _ _) fun r16 _ => ?_
              refine Run.q (e := vIv) (gv := vIv) (ok_spec_DirectionAt _ _) fun r17 _ => ?_
              refine Run.q (e := vIv) (gv := vIv) (ok_spec_HullI _ _) fun r18 _ => ?_
              refine Run.q (e := vIv) (gv := vIv) (ok_spec_DirectionAt _ _) fun r19 _ => ?_
              refine Run.q (e := vIv) (gv := vIv) (ok_spec_DirectionAt _ _) fun r20 _ => ?_
              refine Run.q (e := vIv) (gv := vIv) (ok_spec_HullI _ _) fun r21 _ => ?_
              refine Run.q (e := vIv) (gv := vIv) (ok_spec_HullI _ _) fun r22 _ => ?_
              exact Run.x 0
          · refine Run.z [false, false, false, false, false, false, false, false, false, false, false, false] ?_
            refine Run.q (e := vIv) (gv := vIv) (ok_spec_DirectionAt _ _) fun r23 _ => ?_
            refine Run.q (e := vIv) (gv := vIv) (ok_spec_DirectionAt _ _) fun r24 _ => ?_
            refine Run.q (e := vIv) (gv := vIv) (ok_spec_HullI _ _) fun r25 _ => ?_
            refine Run.q (e := vIv) (gv := vIv) (ok_spec_DirectionAt _ _) fun r26 _ => ?_
            refine Run.q (e := vIv) (gv := vIv) (ok_spec_DirectionAt _ _) fun r27 _ => ?_
            refine Run.q (e := vIv) (gv := vIv) (ok_spec_HullI _ _) fun r28 _ => ?_
            refine Run.q (e := vIv) (gv := vIv) (ok_spec_HullI _ _) fun r29 _ => ?_
            exact Run.x 0
      · refine Run.z [false, false, false, false, false, false, false, false] ?_
        refine Run.y (gv := vIv) (fun _ => ?_) (fun _ => ?_)
        · refine Run.z [true, true, false, true, false] ?_
          refine Run.y (gv := vIv) (fun _ => ?_) (fun _ => ?_)
          · refine Run.z [true, true, false, true, false] ?_
            refine Run.y (gv := vIv) (fun _ => ?_) (fun _ => ?_)
            · refine Run.q (e := vIv) (gv := vIv) (ok_spec_Whole) fun r30 _ => ?_
              exact Run.x 0
            · refine Run.q (e := vIv) (gv := vIv) (ok_spec_DirectionAt _ _) fun r31 _ => ?_
              refine Run.q (e := vIv) (gv := vIv) (ok_spec_DirectionAt _ _) fun r32 _ => ?_
              refine Run.q (e := vIv) (gv := vIv) (ok_spec_HullI _ _) fun r33 _ => ?_
              refine Run.q (e := vIv) (gv := vIv) (ok_spec_DirectionAt _ _) fun r34 _ => ?_
              refine Run.q (e := vIv) (gv := vIv) (ok_spec_DirectionAt _ _) fun r35 _ => ?_
              refine Run.q (e := vIv) (gv := vIv) (ok_spec_HullI _ _) fun r36 _ => ?_
              refine Run.q (e := vIv) (gv := vIv) (ok_spec_HullI _ _) fun r37 _ => ?_
              exact Run.x 0
          · refine Run.z [false, false, false, false, false, false] ?_
            refine Run.q (e := vIv) (gv := vIv) (ok_spec_DirectionAt _ _) fun r38 _ => ?_
            refine Run.q (e := vIv) (gv := vIv) (ok_spec_DirectionAt _ _) fun r39 _ => ?_
            refine Run.q (e := vIv) (gv := vIv) (ok_spec_HullI _ _) fun r40 _ => ?_
            refine Run.q (e := vIv) (gv := vIv) (ok_spec_DirectionAt _ _) fun r41 _ => ?_
            refine Run.q (e := vIv) (gv := vIv) (ok_spec_DirectionAt _ _) fun r42 _ => ?_
            refine Run.q (e := vIv) (gv := vIv) (ok_spec_HullI _ _) fun r43 _ => ?_
            refine Run.q (e := vIv) (gv := vIv) (ok_spec_HullI _ _) fun r44 _ => ?_
            exact Run.x 0
        · refine Run.z [false, false, false, false, false, false, false, false, false, false, false, false] ?_
          refine Run.q (e := vIv) (gv := vIv) (ok_spec_DirectionAt _ _) fun r45 _ => ?_
          refine Run.q (e := vIv) (gv := vIv) (ok_spec_DirectionAt _ _) fun r46 _ => ?_
          refine Run.q (e := vIv) (gv := vIv) (ok_spec_HullI _ _) fun r47 _ => ?_
          refine Run.q (e := vIv) (gv := vIv) (ok_spec_DirectionAt _ _) fun r48 _ => ?_
          refine Run.q (e := vIv) (gv := vIv) (ok_spec_DirectionAt _ _) fun r49 _ => ?_
          refine Run.q (e := vIv) (gv := vIv) (ok_spec_HullI _ _) fun r50 _ => ?_
          refine Run.q (e := vIv) (gv := vIv) (ok_spec_HullI _ _) fun r51 _ => ?_
          exact Run.x 0

theorem ok_spec_l21Forward__pPj (b0 : Pj) (a0 : Pt) : Fun Tryz.prog 23 [(#[.int .i64 b0.kind.val, .int .i64 b0.lat0.val, .int .i64 b0.lon0.val, .int .i64 b0.lat1.val, .int .i64 b0.lat2.val], 30)] #[.pointer (some ⟨0, 0, none⟩), vPt a0] (vT_Pn_I (F_spec_l21Forward__pPj b0 a0)) [(#[.int .i64 b0.kind.val, .int .i64 b0.lat0.val, .int .i64 b0.lon0.val, .int .i64 b0.lat1.val, .int .i64 b0.lat2.val], 30)] := by
  refine Fun.ofH 400 E_ok mixed Tryz.func23 (by kernel_rfl) (by kernel_rfl) ?_
  unfold F_spec_l21Forward__pPj
  refine Run.w (e := vB) (gv := vT_Pn_I) [0] (ok_spec_l21Edge__pPj _ _) fun r1 _ => ?_
  refine Run.y (gv := vT_Pn_I) (fun _ => ?_) (fun _ => ?_)
  · exact Run.x 1
  · refine Run.q (e := vIv) (gv := vT_Pn_I) (ok_spec_RadiansOf _) fun r2 _ => ?_
    refine Run.w (e := vIv) (gv := vT_Pn_I) [0] (ok_spec_l21Side__pPj _ _) fun r3 _ => ?_
    refine Run.q (e := vIv) (gv := vT_Pn_I) (ok_spec_AtanhI _) fun r4 _ => ?_
    refine Run.q (e := vIv) (gv := vT_Pn_I) (ok_spec_SinI _) fun r5 _ => ?_
    refine Run.q (e := vIv) (gv := vT_Pn_I) (ok_spec_CosI _) fun r6 _ => ?_
    refine Run.w (e := vIv) (gv := vT_Pn_I) [0] (ok_spec_l21Turn__pPj _ _) fun r7 _ => ?_
    refine Run.q (e := vIv) (gv := vT_Pn_I) (ok_spec_CosI _) fun r8 _ => ?_
    refine Run.q (e := vIv) (gv := vT_Pn_I) (ok_spec_MulI _ _) fun r9 _ => ?_
    refine Run.q (e := vIv) (gv := vT_Pn_I) (ok_spec_DirectionI _ _) fun r10 _ => ?_
    refine Run.q (e := vIv) (gv := vT_Pn_I) (ok_spec_RadiansOf _) fun r11 _ => ?_
    refine Run.q (e := vIv) (gv := vT_Pn_I) (ok_spec_SubI _ _) fun r12 _ => ?_
    refine Run.q (e := vB) (gv := vT_Pn_I) (ok_spec_IsWhole _) fun r13 _ => ?_
    refine Run.y (gv := vT_Pn_I) (fun _ => ?_) (fun _ => ?_)
    · refine Run.z [true, true, true, true] ?_
      exact Run.x 1
    · refine Run.z [false, false] ?_
      refine Run.q (e := vB) (gv := vT_Pn_I) (ok_spec_IsWhole _) fun r14 _ => ?_
      refine Run.z [false] ?_
      refine Run.y (gv := vT_Pn_I) (fun _ => ?_) (fun _ => ?_)
      · exact Run.x 1
      · exact Run.x 1

theorem ok_spec_TransverseForward (a0 : Pj) (a1 : Pt) : Fun Tryz.prog 12 [] #[vPj a0, vPt a1] (vT_Pn_I (F_spec_TransverseForward a0 a1)) [] := by
  refine Fun.ofH 400 E_ok mixed Tryz.func12 (by kernel_rfl) (by kernel_rfl) ?_
  unfold F_spec_TransverseForward
  refine Run.w (e := vB) (gv := vT_Pn_I) [0] (ok_spec_l21Ok__pPj _) fun r1 _ => ?_
  refine Run.y (gv := vT_Pn_I) (fun _ => ?_) (fun _ => ?_)
  · refine Run.z [true, true, true, true] ?_
    exact Run.x 0
  · refine Run.z [false] ?_
    refine Run.q (e := vB) (gv := vT_Pn_I) (ok_spec_l11Ok _) fun r2 _ => ?_
    refine Run.z [false, false] ?_
    refine Run.y (gv := vT_Pn_I) (fun _ => ?_) (fun _ => ?_)
    · exact Run.x 0
    · refine Run.w (e := vT_Pn_I) (gv := vT_Pn_I) [0] (ok_spec_l21Forward__pPj _ _) fun r3 _ => ?_
      exact Run.x 0

theorem ok_spec_l00From_n : FunS Tryz.prog 13 [] [] #[(.slice none 0 0)] (fun v Y => v = .pointer (some ⟨0, 0, none⟩) ∧ Y = [srcB 55 (.slice none 0 0) (c64 0) (cu64 0)]) := Sourced.none (by decide) ok_spec_l00Sourced

theorem ok_spec_l00Src_next__src_n (b1 : Src) (ps : 0 ≤ b1.ix.val ∧ b1.ix.val + 1 ≤ 1000000000) : FunS Tryz.prog 49 [] [srcB 55 (.slice none 0 0) b1.ix b1.sd] #[.pointer (some ⟨0, 0, none⟩)] (Drew vI 55 (.slice none 0 0) b1.ix.val (b1.ix.val + 1) (F_spec_l00Src_next__src Cd.nil b1)) := by
  refine FunS.drew (fun _ _ => rfl) rfl (by kernel_rfl) (FunR.of 400 E_ok mixed Tryz.func49 (by kernel_rfl) ?_)
  show Run _ _ ((RD [] vI 55 (.slice none 0 0) b1.ix.val (b1.ix.val + 1)) (F_spec_l00Src_next__src Cd.nil b1)) _
  unfold F_spec_l00Src_next__src
  refine Run.gn (Rg := (RD [] vI 55 (.slice none 0 0) b1.ix.val (b1.ix.val + 1))) (c := (decide (b1.ix.val < (((Cd.nil.L.length : Nat) : Int))))) (by kernel_rfl) (by refine decide_eq_false ?_; show ¬ (b1.ix.val < 0); omega) ?_
  refine Run.gy (Rg := (RD [] vI 55 (.slice none 0 0) b1.ix.val (b1.ix.val + 1))) (fun h1 => ?_) (fun h1 => ?_)
  · exact Run.dr (by kernel_rfl) (by kernel_rfl) (by first | omega | (simp only [w64_val, c64_val] at *; omega))
  · refine Run.z [true] ?_
    exact Run.dr (by kernel_rfl) (by kernel_rfl) (by first | omega | (simp only [w64_val, c64_val] at *; omega))

end Go.Proofs.YtlgbjanlofomoaaGreat.Abs
