/- The program's functions are these; part 5 (written by w.py). -/
import Derived.Test.YtjbdilphncpceaaGreatE
import Derived.Test.YtjbdilphncpceaaGreatF5
import Derived.Test.YtjbdilphncpceaaGreatQpre
import Derived.Test.YtjbdilphncpceaaGreatK0
import Derived.Test.YtjbdilphncpceaaGreatK4
set_option linter.unusedVariables false
set_option linter.unusedSimpArgs false
namespace Go.Proofs.YtjbdilphncpceaaGreat.Abs
open Go Go.RowKit

theorem len_impl_turnsIn_L0 (a0 : Iv) : ∀ (fu : Nat) (x_k : I64) (acc : List I64), (F_impl_turnsIn_L0 fu a0 x_k acc).length ≤ acc.length + fu := by
  intro fu
  induction fu with
  | zero => intro x_k acc; exact Nat.le_refl _
  | succ fu ih =>
    intro x_k acc
    unfold F_impl_turnsIn_L0
    simp only [bindP]
    have h1 := ih (w64 (x_k.val + 1)) (acc ++ [x_k])
    have h2 := ih (w64 (x_k.val + 1)) acc
    rw [List.length_append] at h1
    simp only [List.length_cons, List.length_nil] at h1
    cases decide (x_k.val ≤ (w64 ((F_impl_QuarterOf a0.hi).val + 1)).val)
    · rw [cond_false]; omega
    · rw [cond_true]
      cases F_impl_OverlapI (F_impl_TurnI x_k) a0
      · rw [cond_false]; omega
      · rw [cond_true]; omega
theorem len_impl_turnsIn (a0 : Iv) : (F_impl_turnsIn a0).length ≤ 4000 := by
  have qb := impl_quarter_bounds a0.lo
  unfold F_impl_turnsIn
  simp only [bindP]
  have := len_impl_turnsIn_L0 a0 ((2000 - (w64 ((F_impl_QuarterOf a0.lo).val - 1)).val).toNat + 1) (w64 ((F_impl_QuarterOf a0.lo).val - 1)) []
  have e1 : (w64 ((F_impl_QuarterOf a0.lo).val - 1)).val = (F_impl_QuarterOf a0.lo).val - 1 := by rw [w64_val]; omega
  simp only [List.length_nil, Nat.zero_add] at this
  refine Nat.le_trans this ?_
  omega
theorem ok_impl_turnsIn_L0 (a0 : Iv) : ∀ (fu : Nat) (x_k : I64) (acc : List I64) (v : Value) (X : List Blk) (hv : LS 2 acc v ((#[.int .i64 a0.lo.val, .int .i64 a0.hi.val], 34) :: X)) (hm : (2000 - x_k.val).toNat < fu) (hk : -1100 ≤ x_k.val) (hlen : (acc.length : Int) ≤ x_k.val + 1100)
    (t : Array Value) (ht : maskA t [0, 2, 5, 6, 7, 8, 9, 10, 11, 12, 13, 14, 15, 16, 17, 18, 19, 20, 21, 22, 23, 24, 25] = #[undef, .pointer (some ⟨0, 0, none⟩), undef, v, .int .i64 x_k.val, undef, undef, undef, undef, undef, undef, undef, undef, undef, undef, undef, undef, undef, undef, undef, undef, undef, undef, undef, undef, undef]),
    Cfg Tryz.prog 225 (loopAt Tryz.f225 0) t ((#[.int .i64 a0.lo.val, .int .i64 a0.hi.val], 34) :: X) (LS 2 (F_impl_turnsIn_L0 fu a0 x_k acc)) := by
  intro fu
  induction fu with
  | zero => intro x_k acc v X hv hm; exact absurd hm (Nat.not_lt_zero _)
  | succ fu ih =>
    intro x_k acc v X hv hm hk hlen t ht
    refine Cfg.round E_ok mixed Tryz.func225 ht fun q => ?_
    unfold F_impl_turnsIn_L0
    have qb := impl_quarter_bounds a0.hi
    refine Run.c (by kernel_rfl) (by kernel_rfl) (ok_impl_QuarterOf a0.hi) rfl ?_
    simp only [bindP]
    generalize F_impl_QuarterOf a0.hi = r1 at *
    refine Run.i (c := decide (x_k.val ≤ (w64 (r1.val + 1)).val)) (by kernel_rfl) (fun h1 => ?_) (fun h1 => ?_)
    · rw [h1, cond_true]
      simp only [w64_val, decide_eq_true_eq] at h1
      refine Run.c (by kernel_rfl) (by kernel_rfl) (ok_impl_TurnI x_k) rfl ?_
      generalize F_impl_TurnI x_k = r2
      refine Run.c (by kernel_rfl) (by kernel_rfl) (ok_impl_OverlapI r2 a0) rfl ?_
      generalize F_impl_OverlapI r2 a0 = r3
      have e1 : (w64 (x_k.val + 1)).val = x_k.val + 1 := by rw [w64_val]; omega
      refine Run.i (c := r3) (by kernel_rfl) (fun h2 => ?_) (fun h2 => ?_)
      · rw [h2, cond_true]
        refine Run.h (td := appAt Tryz.f225 0) (H := (#[.int .i64 a0.lo.val, .int .i64 a0.hi.val], 34) :: X) (by kernel_rfl) (by kernel_rfl) rfl (by kernel_rfl) ?_
        refine Cfg.app (T := 108) (e := 2) (d1 := 21) (d2 := 22) (d3 := 23) (d4 := 24) (s := 3) (x := 4) (L := acc) (v := v) (z := x_k) (by kernel_rfl) (by kernel_rfl) (by kernel_rfl) (by kernel_rfl) (by decide) (by kernel_rfl) (by kernel_rfl) (by kernel_rfl) hv (by omega) fun v4 H4 hv4 hs4 => ?_
        obtain ⟨X4, rfl⟩ := head_same hs4 (show (34 : Nat) ≠ 2 by decide)
        refine exec_cfg E_ok mixed Tryz.func225 400 _ _ _ _ ?_
        exact Run.l (by kernel_rfl) (by kernel_rfl) (by kernel_rfl) (by kernel_rfl) (ih (w64 (x_k.val + 1)) (acc ++ [x_k]) v4 X4 hv4 (by omega) (by omega) (by rw [List.length_append]; simp only [List.length_cons, List.length_nil]; omega))
      · rw [h2, cond_false]
        exact Run.l (by kernel_rfl) (by kernel_rfl) (by kernel_rfl) (by kernel_rfl) (ih (w64 (x_k.val + 1)) acc v X hv (by omega) (by omega) (by omega))
    · rw [h1, cond_false]
      exact Run.rl (v := v) (by kernel_rfl) (by kernel_rfl) hv
theorem ok_impl_turnsIn (a0 : Iv) : FunR Tryz.prog 225 [] #[vIv a0] (Lone 2 (F_impl_turnsIn a0)) := by
  refine FunR.lone (FunR.of 400 E_ok mixed Tryz.func225 (by kernel_rfl) ?_)
  unfold F_impl_turnsIn
  have qb := impl_quarter_bounds a0.lo
  refine Run.c (by kernel_rfl) (by kernel_rfl) (ok_impl_QuarterOf a0.lo) rfl ?_
  simp only [bindP]
  generalize F_impl_QuarterOf a0.lo = r1 at *
  have e1 : (w64 (r1.val - 1)).val = r1.val - 1 := by rw [w64_val]; omega
  exact Run.l (by kernel_rfl) (by kernel_rfl) (by kernel_rfl) (by kernel_rfl) (ok_impl_turnsIn_L0 a0 _ (w64 (r1.val - 1)) [] (.slice none 0 0) [] (.inl ⟨rfl, rfl⟩) (by omega) (by omega) (by simp only [List.length_nil]; omega))

theorem ok_impl_circleHull_L0 : ∀ (fu : Nat) (cp_r7 : Nat) (pd_r7 : List Value) (a1 : I64) (r7 : List I64) (a0 : Iv) (x_24 : I64) (y_2 : Iv) (q0 : 0 ≤ x_24.val) (q1 : ((r7.length : Nat) : Int) ≤ 4000) (hm : (((r7.length : Nat) : Int) - x_24.val).toNat < fu) (t : Array Value) (ht : maskA t [0, 2, 3, 6, 7, 8, 9, 10, 11, 12, 13, 14, 15, 16, 17, 18, 19, 20, 21, 25, 26, 27, 28, 29, 30, 31, 32, 33, 34, 35, 36, 37, 38, 39, 40, 41, 42, 43] = #[undef, .int .i64 a1.val, undef, undef, .pointer (some ⟨1, 0, none⟩), .pointer (some ⟨2, 0, none⟩), undef, undef, undef, undef, undef, undef, undef, undef, undef, undef, undef, undef, undef, undef, undef, undef, .slice (some ⟨3, 0, some 0⟩) r7.length cp_r7, .int .i64 (((r7.length : Nat) : Int)), .int .i64 x_24.val, undef, undef, undef, undef, undef, undef, undef, undef, undef, undef, undef, undef, undef, undef, undef, undef, undef, undef, undef]), Cfg Tryz.prog 129 (loopAt Tryz.f129 0) t [(#[.int .i64 a0.lo.val, .int .i64 a0.hi.val], 34), (#[.int .i64 0, .int .i64 0], 34), (#[.int .i64 y_2.lo.val, .int .i64 y_2.hi.val], 34), (rowOf r7 pd_r7, 2)] (RvH [] (vIv (F_impl_circleHull_L0 fu a1 r7 a0 x_24 y_2))) := by
  intro fu
  induction fu with
  | zero => intro cp_r7 pd_r7 a1 r7 a0 x_24 y_2 q0 q1 hm; exact absurd hm (Nat.not_lt_zero _)
  | succ fu ih =>
    intro cp_r7 pd_r7 a1 r7 a0 x_24 y_2 q0 q1 hm t ht
    refine Cfg.round E_ok mixed Tryz.func129 ht fun g => ?_
    unfold F_impl_circleHull_L0
    refine Run.y (gv := vIv) (fun h8 => ?_) (fun h8 => ?_)
    · refine Run.k (c := (decide (0 ≤ x_24.val ∧ x_24.val < ((r7.length : Nat) : Int)))) (by kernel_rfl) (by simp only [w64_val, wu64_val, c64_val, cu64_val, decide_eq_true_eq, decide_eq_false_iff_not, cond_true, cond_false] at *; omega) ?_
      refine Run.ld (by kernel_rfl) (listAt_ok (L := r7) (pad := pd_r7) (i := x_24) (by simp only [w64_val, wu64_val, c64_val, cu64_val, decide_eq_true_eq, decide_eq_false_iff_not, cond_true, cond_false] at *; omega)) ?_
      refine Run.y (gv := vIv) (fun h9 => ?_) (fun h9 => ?_)
      · refine Run.q (e := vIv) (gv := vIv) (ok_impl_Integer _) fun r10 hr10 => ?_
        refine Run.q (e := vIv) (gv := vIv) (ok_impl_HullI _ _) fun r11 hr11 => ?_
        exact Run.l (by kernel_rfl) (by kernel_rfl) (by kernel_rfl) (by kernel_rfl) (ih cp_r7 pd_r7 a1 r7 a0 (w64 (x_24.val + 1)) r11 (by first | omega | (simp only [w64_val, wu64_val, c64_val, cu64_val, decide_eq_true_eq, decide_eq_false_iff_not, cond_true, cond_false] at *; omega)) (by first | omega | (simp only [w64_val, wu64_val, c64_val, cu64_val, decide_eq_true_eq, decide_eq_false_iff_not, cond_true, cond_false] at *; omega)) (by first | omega | (simp only [w64_val, wu64_val, c64_val, cu64_val, decide_eq_true_eq, decide_eq_false_iff_not, cond_true, cond_false] at *; omega)))
      · refine Run.y (gv := vIv) (fun h12 => ?_) (fun h12 => ?_)
        · refine Run.q (e := vIv) (gv := vIv) (ok_impl_Integer _) fun r13 hr13 => ?_
          refine Run.q (e := vIv) (gv := vIv) (ok_impl_HullI _ _) fun r14 hr14 => ?_
          exact Run.l (by kernel_rfl) (by kernel_rfl) (by kernel_rfl) (by kernel_rfl) (ih cp_r7 pd_r7 a1 r7 a0 (w64 (x_24.val + 1)) r14 (by first | omega | (simp only [w64_val, wu64_val, c64_val, cu64_val, decide_eq_true_eq, decide_eq_false_iff_not, cond_true, cond_false] at *; omega)) (by first | omega | (simp only [w64_val, wu64_val, c64_val, cu64_val, decide_eq_true_eq, decide_eq_false_iff_not, cond_true, cond_false] at *; omega)) (by first | omega | (simp only [w64_val, wu64_val, c64_val, cu64_val, decide_eq_true_eq, decide_eq_false_iff_not, cond_true, cond_false] at *; omega)))
        · exact Run.l (by kernel_rfl) (by kernel_rfl) (by kernel_rfl) (by kernel_rfl) (ih cp_r7 pd_r7 a1 r7 a0 (w64 (x_24.val + 1)) y_2 (by first | omega | (simp only [w64_val, wu64_val, c64_val, cu64_val, decide_eq_true_eq, decide_eq_false_iff_not, cond_true, cond_false] at *; omega)) (by first | omega | (simp only [w64_val, wu64_val, c64_val, cu64_val, decide_eq_true_eq, decide_eq_false_iff_not, cond_true, cond_false] at *; omega)) (by first | omega | (simp only [w64_val, wu64_val, c64_val, cu64_val, decide_eq_true_eq, decide_eq_false_iff_not, cond_true, cond_false] at *; omega)))
    · exact Run.x 0

theorem ok_impl_circleHull (a0 : Iv) (a1 : I64) : Fun Tryz.prog 129 [] #[vIv a0, vI a1] (vIv (F_impl_circleHull a0 a1)) [] := by
  refine Fun.ofH 400 E_ok mixed Tryz.func129 (by kernel_rfl) (by kernel_rfl) ?_
  unfold F_impl_circleHull
  refine Run.q (e := vB) (gv := vIv) (ok_impl_areAngles _) fun r1 hr1 => ?_
  refine Run.y (gv := vIv) (fun h2 => ?_) (fun h2 => ?_)
  · refine Run.q (e := vIv) (gv := vIv) (ok_impl_ring) fun r3 hr3 => ?_
    exact Run.x 0
  · refine Run.q (e := vIv) (gv := vIv) (ok_impl_circleValue _ _) fun r4 hr4 => ?_
    refine Run.q (e := vIv) (gv := vIv) (ok_impl_circleValue _ _) fun r5 hr5 => ?_
    refine Run.q (e := vIv) (gv := vIv) (ok_impl_HullI _ _) fun r6 hr6 => ?_
    refine Run.bl (gv := vIv) (by kernel_rfl) (by kernel_rfl) (ok_impl_turnsIn _) (by kernel_rfl) (fun r7 hr7 nr7 => ?_) (fun r7 hr7 cp_r7 pd_r7 => ?_)
    · subst nr7
      have e0 : F_impl_circleHull_L0 (((([] : List I64).length : Nat) : Int).toNat + 1) a1 ([] : List I64) a0 (c64 0) r6 = r6 := by rw [F_impl_circleHull_L0]; exact cond_false _ _
      show Run _ _ (RvH [] (vIv (F_impl_circleHull_L0 (((([] : List I64).length : Nat) : Int).toNat + 1) a1 ([] : List I64) a0 (c64 0) r6))) _
      rw [e0]
      refine Run.u 400 E_ok mixed Tryz.func129 ?_
      refine Run.z [false] ?_
      exact Run.x 0
    · have hl_r7 : ((r7.length : Nat) : Int) ≤ 4000 := by rw [hr7]; exact Int.ofNat_le.2 (len_impl_turnsIn _)
      exact Run.l (by kernel_rfl) (by kernel_rfl) (by kernel_rfl) (by kernel_rfl) (ok_impl_circleHull_L0 (((r7.length : Nat) : Int).toNat + 1) cp_r7 pd_r7 a1 r7 a0 (c64 0) r6 (by first | omega | (simp only [w64_val, wu64_val, c64_val, cu64_val, decide_eq_true_eq, decide_eq_false_iff_not, cond_true, cond_false] at *; omega)) (by first | omega | (simp only [w64_val, wu64_val, c64_val, cu64_val, decide_eq_true_eq, decide_eq_false_iff_not, cond_true, cond_false] at *; omega)) (by first | omega | (simp only [w64_val, wu64_val, c64_val, cu64_val, decide_eq_true_eq, decide_eq_false_iff_not, cond_true, cond_false] at *; omega)))

theorem ok_impl_CosI (a0 : Iv) : Fun Tryz.prog 44 [] #[vIv a0] (vIv (F_impl_CosI a0)) [] := by
  refine Fun.ofH 400 E_ok mixed Tryz.func44 (by kernel_rfl) (by kernel_rfl) ?_
  unfold F_impl_CosI
  refine Run.q (e := vIv) (gv := vIv) (ok_impl_circleHull _ _) fun r1 _ => ?_
  exact Run.x 0

theorem ok_impl_quarter : Fun Tryz.prog 150 [] #[] (vI (F_impl_quarter)) [] := by
  refine Fun.ofH 400 E_ok mixed Tryz.func150 (by kernel_rfl) (by kernel_rfl) ?_
  unfold F_impl_quarter
  refine Run.q (e := vIv) (gv := vI) (ok_impl_TurnI _) fun r1 _ => ?_
  exact Run.x 0

theorem ok_impl_overlapsAny (a0 : Iv) (a1 : I64) : Fun Tryz.prog 149 [] #[vIv a0, vI a1] (vB (F_impl_overlapsAny a0 a1)) [] := by
  refine Fun.ofH 400 E_ok mixed Tryz.func149 (by kernel_rfl) (by kernel_rfl) ?_
  unfold F_impl_overlapsAny
  refine Run.q (e := vB) (gv := vB) (ok_impl_OverlapI _ _) fun r1 _ => ?_
  exact Run.x 0

theorem ok_impl_pair (a0 : Iv) (a1 : Iv) : Fun Tryz.prog 152 [] #[vIv a0, vIv a1] (vT_Iv_Iv_I (F_impl_pair a0 a1)) [] := by
  refine Fun.ofH 400 E_ok mixed Tryz.func152 (by kernel_rfl) (by kernel_rfl) ?_
  unfold F_impl_pair
  refine Run.q (e := vB) (gv := vT_Iv_Iv_I) (ok_impl_areBounded _ _) fun r1 _ => ?_
  refine Run.y (gv := vT_Iv_Iv_I) (fun _ => ?_) (fun _ => ?_)
  · exact Run.x 0
  · exact Run.x 0

theorem ok_impl_onEarth (a0 : Iv) (a1 : Iv) (a2 : I64) : Fun Tryz.prog 54 [] #[vIv a0, vIv a1, vI a2] (vT_Iv_Iv_I (F_impl_onEarth a0 a1 a2)) [] := by
  refine Fun.ofH 400 E_ok mixed Tryz.func54 (by kernel_rfl) (by kernel_rfl) ?_
  unfold F_impl_onEarth
  refine Run.q (e := vI) (gv := vT_Iv_Iv_I) (ok_impl_quarter) fun r1 _ => ?_
  refine Run.q (e := vB) (gv := vT_Iv_Iv_I) (ok_impl_overlapsAny _ _) fun r2 _ => ?_
  refine Run.y (gv := vT_Iv_Iv_I) (fun _ => ?_) (fun _ => ?_)
  · refine Run.z [true, true, true, true, true, true] ?_
    exact Run.x 0
  · refine Run.z [false] ?_
    refine Run.q (e := vIv) (gv := vT_Iv_Iv_I) (ok_impl_TurnI _) fun r3 _ => ?_
    refine Run.z [false, false] ?_
    refine Run.q (e := vB) (gv := vT_Iv_Iv_I) (ok_impl_overlapsAny _ _) fun r4 _ => ?_
    refine Run.z [false, false] ?_
    refine Run.y (gv := vT_Iv_Iv_I) (fun _ => ?_) (fun _ => ?_)
    · exact Run.x 0
    · refine Run.q (e := vIv) (gv := vT_Iv_Iv_I) (ok_impl_RadiansOf _) fun r5 _ => ?_
      refine Run.q (e := vIv) (gv := vT_Iv_Iv_I) (ok_impl_AddI _ _) fun r6 _ => ?_
      refine Run.q (e := vT_Iv_Iv_I) (gv := vT_Iv_Iv_I) (ok_impl_pair _ _) fun r7 _ => ?_
      exact Run.x 0

theorem ok_impl_LogTwoI_r : ∀ (fu : Nat) (a0 : I64) (hm : min (0 - a0.val).toNat 1 < fu), Fun Tryz.prog 231 [] #[vI a0] (vIv (F_impl_LogTwoI_r fu a0)) [] := by
  intro fu
  induction fu with
  | zero => intro a0 hm; exact absurd hm (Nat.not_lt_zero _)
  | succ fu ih =>
    intro a0 hm
    refine Fun.ofH 400 E_ok mixed Tryz.func231 (by kernel_rfl) (by kernel_rfl) ?_
    unfold F_impl_LogTwoI_r
    unfold F_impl_LogTwoI_b
    refine Run.q (e := vB) (gv := vIv) (ok_impl_within _ _ _) fun r1 hr1 => ?_
    refine Run.y (gv := vIv) (fun h2 => ?_) (fun h2 => ?_)
    · refine Run.q (e := vIv) (gv := vIv) (ok_impl_Whole) fun r3 hr3 => ?_
      exact Run.x 0
    · refine Run.y (gv := vIv) (fun h4 => ?_) (fun h4 => ?_)
      · refine Run.q (e := vIv) (gv := vIv) (ih (w64 (0 - a0.val)) (by rw [hr1] at h2; simp [F_impl_within, c64_val] at h2; simp only [w64_val, decide_eq_true_eq, decide_eq_false_iff_not] at *; omega)) fun r5 hr5 => ?_
        refine Run.q (e := vIv) (gv := vIv) (ok_impl_NegI _) fun r6 hr6 => ?_
        exact Run.x 0
      · refine Run.q (e := vT_I_B) (gv := vIv) (ok_impl_MulFloor _ _ _) fun r7 hr7 => ?_
        refine Run.q (e := vT_I_B) (gv := vIv) (ok_impl_MulFloor _ _ _) fun r8 hr8 => ?_
        exact Run.x 0
theorem ok_impl_LogTwoI (a0 : I64) : Fun Tryz.prog 231 [] #[vI a0] (vIv (F_impl_LogTwoI a0)) [] := ok_impl_LogTwoI_r 2 a0 (by omega)

theorem ok_impl_widened (a0 : Iv) (a1 : I64) : Fun Tryz.prog 233 [] #[vIv a0, vI a1] (vIv (F_impl_widened a0 a1)) [] := by
  refine Fun.ofH 400 E_ok mixed Tryz.func233 (by kernel_rfl) (by kernel_rfl) ?_
  unfold F_impl_widened
  refine Run.q (e := vB) (gv := vIv) (ok_impl_ValidInterval _) fun r1 _ => ?_
  refine Run.q (e := vIv) (gv := vIv) (ok_impl_bounded _ _ _) fun r2 _ => ?_
  exact Run.x 0

theorem ok_impl_DoubleI (a0 : Iv) : Fun Tryz.prog 172 [] #[vIv a0] (vIv (F_impl_DoubleI a0)) [] := by
  refine Fun.ofH 400 E_ok mixed Tryz.func172 (by kernel_rfl) (by kernel_rfl) ?_
  unfold F_impl_DoubleI
  refine Run.q (e := vIv) (gv := vIv) (ok_impl_AddI _ _) fun r1 _ => ?_
  exact Run.x 0

theorem ok_impl_scaled_L0 : ∀ (fu : Nat) (x_k : I64) (y_0 : Iv) (q0 : -100 ≤ x_k.val) (q1 : x_k.val ≤ 100) (hm : x_k.val.toNat < fu) (t : Array Value) (ht : maskA t [0, 3, 5, 6, 7, 8, 9, 10, 11, 12, 13, 14, 15, 16, 17, 18, 19, 20, 21, 22, 23, 24, 25, 26] = #[undef, .int .i64 x_k.val, .pointer (some ⟨0, 0, none⟩), undef, .pointer (some ⟨1, 0, none⟩), undef, undef, undef, undef, undef, undef, undef, undef, undef, undef, undef, undef, undef, undef, undef, undef, undef, undef, undef, undef, undef, undef]), Cfg Tryz.prog 232 (loopAt Tryz.f232 0) t [(#[.int .i64 y_0.lo.val, .int .i64 y_0.hi.val], 34), (#[.int .i64 0, .int .i64 0], 34)] (RvH [] (vIv (F_impl_scaled_L0 fu x_k y_0))) := by
  intro fu
  induction fu with
  | zero => intro x_k y_0 q0 q1 hm; exact absurd hm (Nat.not_lt_zero _)
  | succ fu ih =>
    intro x_k y_0 q0 q1 hm t ht
    refine Cfg.round E_ok mixed Tryz.func232 ht fun g => ?_
    unfold F_impl_scaled_L0
    refine Run.y (gv := vIv) (fun h1 => ?_) (fun h1 => ?_)
    · refine Run.q (e := vIv) (gv := vIv) (ok_impl_DoubleI _) fun r2 hr2 => ?_
      exact Run.l (by kernel_rfl) (by kernel_rfl) (by kernel_rfl) (by kernel_rfl) (ih (w64 (x_k.val - 1)) r2 (by first | omega | (simp only [w64_val, wu64_val, c64_val, cu64_val, decide_eq_true_eq, decide_eq_false_iff_not, cond_true, cond_false] at *; omega)) (by first | omega | (simp only [w64_val, wu64_val, c64_val, cu64_val, decide_eq_true_eq, decide_eq_false_iff_not, cond_true, cond_false] at *; omega)) (by first | omega | (simp only [w64_val, wu64_val, c64_val, cu64_val, decide_eq_true_eq, decide_eq_false_iff_not, cond_true, cond_false] at *; omega)))
    · refine Run.q (e := vB) (gv := vIv) (ok_impl_IsWhole _) fun r3 hr3 => ?_
      refine Run.y (gv := vIv) (fun h4 => ?_) (fun h4 => ?_)
      · refine Run.q (e := vIv) (gv := vIv) (ok_impl_Whole) fun r5 hr5 => ?_
        exact Run.x 0
      · refine Run.k (c := (decide (0 ≤ (w64 (0 - x_k.val)).val))) (by kernel_rfl) (by simp only [w64_val, wu64_val, c64_val, cu64_val, decide_eq_true_eq, decide_eq_false_iff_not, cond_true, cond_false] at *; omega) ?_
        refine Run.k (c := (decide (0 ≤ (w64 (0 - x_k.val)).val))) (by kernel_rfl) (by simp only [w64_val, wu64_val, c64_val, cu64_val, decide_eq_true_eq, decide_eq_false_iff_not, cond_true, cond_false] at *; omega) ?_
        exact Run.x 0

theorem ok_impl_scaled (a0 : Iv) (a1 : I64) (p0 : -100 ≤ a1.val) (p1 : a1.val ≤ 100) : Fun Tryz.prog 232 [] #[vIv a0, vI a1] (vIv (F_impl_scaled a0 a1)) [] := by
  refine Fun.ofH 400 E_ok mixed Tryz.func232 (by kernel_rfl) (by kernel_rfl) ?_
  unfold F_impl_scaled
  exact Run.l (by kernel_rfl) (by kernel_rfl) (by kernel_rfl) (by kernel_rfl) (ok_impl_scaled_L0 (a1.val.toNat + 1) a1 a0 (by first | omega | (simp only [w64_val, wu64_val, c64_val, cu64_val, decide_eq_true_eq, decide_eq_false_iff_not, cond_true, cond_false] at *; omega)) (by first | omega | (simp only [w64_val, wu64_val, c64_val, cu64_val, decide_eq_true_eq, decide_eq_false_iff_not, cond_true, cond_false] at *; omega)) (by first | omega | (simp only [w64_val, wu64_val, c64_val, cu64_val, decide_eq_true_eq, decide_eq_false_iff_not, cond_true, cond_false] at *; omega)))

theorem ok_impl_ExpAt (a0 : I64) : Fun Tryz.prog 141 [] #[vI a0] (vIv (F_impl_ExpAt a0)) [] := by
  refine Fun.ofH 400 E_ok mixed Tryz.func141 (by kernel_rfl) (by kernel_rfl) ?_
  unfold F_impl_ExpAt
  refine Run.q (e := vB) (gv := vIv) (ok_impl_ValidFix _) fun r1 hr1 => ?_
  refine Run.y (gv := vIv) (fun h2 => ?_) (fun h2 => ?_)
  · refine Run.z [true, true, true] ?_
    refine Run.q (e := vIv) (gv := vIv) (ok_impl_Whole) fun r3 hr3 => ?_
    exact Run.x 0
  · refine Run.z [false, false] ?_
    refine Run.y (gv := vIv) (fun h4 => ?_) (fun h4 => ?_)
    · refine Run.q (e := vIv) (gv := vIv) (ok_impl_Whole) fun r5 hr5 => ?_
      exact Run.x 0
    · refine Run.y (gv := vIv) (fun h6 => ?_) (fun h6 => ?_)
      · exact Run.x 0
      · refine Run.z [true] ?_
        refine Run.y (gv := vIv) (fun h7 => ?_) (fun h7 => ?_)
        · refine Run.q (e := vIv) (gv := vIv) (ok_impl_at _) fun r8 hr8 => ?_
          refine Run.q (e := vIv) (gv := vIv) (ok_impl_LogTwoI _) fun r9 hr9 => ?_
          refine Run.q (e := vIv) (gv := vIv) (ok_impl_SubI _ _) fun r10 hr10 => ?_
          refine Run.q (e := vIv) (gv := vIv) (ok_impl_Integer _) fun r11 hr11 => ?_
          refine Run.u 400 E_ok mixed Tryz.func141 ?_
          refine Run.z [true] ?_
          refine Run.q (e := vIv) (gv := vIv) (ok_impl_Integer _) fun r12 hr12 => ?_
          refine Run.q (e := vIv) (gv := vIv) (ok_impl_MulI _ _) fun r13 hr13 => ?_
          refine Run.q (e := vIv) (gv := vIv) (ok_impl_Integer _) fun r14 hr14 => ?_
          refine Run.q (e := vIv) (gv := vIv) (ok_impl_DivI _ _) fun r15 hr15 => ?_
          refine Run.q (e := vIv) (gv := vIv) (ok_impl_AddI _ _) fun r16 hr16 => ?_
          refine Run.u 400 E_ok mixed Tryz.func141 ?_
          refine Run.z [true] ?_
          refine Run.q (e := vIv) (gv := vIv) (ok_impl_Integer _) fun r17 hr17 => ?_
          refine Run.q (e := vIv) (gv := vIv) (ok_impl_MulI _ _) fun r18 hr18 => ?_
          refine Run.q (e := vIv) (gv := vIv) (ok_impl_Integer _) fun r19 hr19 => ?_
          refine Run.q (e := vIv) (gv := vIv) (ok_impl_DivI _ _) fun r20 hr20 => ?_
          refine Run.q (e := vIv) (gv := vIv) (ok_impl_AddI _ _) fun r21 hr21 => ?_
          refine Run.u 400 E_ok mixed Tryz.func141 ?_
          refine Run.z [true] ?_
          refine Run.q (e := vIv) (gv := vIv) (ok_impl_Integer _) fun r22 hr22 => ?_
          refine Run.q (e := vIv) (gv := vIv) (ok_impl_MulI _ _) fun r23 hr23 => ?_
          refine Run.q (e := vIv) (gv := vIv) (ok_impl_Integer _) fun r24 hr24 => ?_
          refine Run.q (e := vIv) (gv := vIv) (ok_impl_DivI _ _) fun r25 hr25 => ?_
          refine Run.q (e := vIv) (gv := vIv) (ok_impl_AddI _ _) fun r26 hr26 => ?_
          refine Run.u 400 E_ok mixed Tryz.func141 ?_
          refine Run.z [true] ?_
          refine Run.q (e := vIv) (gv := vIv) (ok_impl_Integer _) fun r27 hr27 => ?_
          refine Run.q (e := vIv) (gv := vIv) (ok_impl_MulI _ _) fun r28 hr28 => ?_
          refine Run.q (e := vIv) (gv := vIv) (ok_impl_Integer _) fun r29 hr29 => ?_
          refine Run.q (e := vIv) (gv := vIv) (ok_impl_DivI _ _) fun r30 hr30 => ?_
          refine Run.q (e := vIv) (gv := vIv) (ok_impl_AddI _ _) fun r31 hr31 => ?_
          refine Run.u 400 E_ok mixed Tryz.func141 ?_
          refine Run.z [true] ?_
          refine Run.q (e := vIv) (gv := vIv) (ok_impl_Integer _) fun r32 hr32 => ?_
          refine Run.q (e := vIv) (gv := vIv) (ok_impl_MulI _ _) fun r33 hr33 => ?_
          refine Run.q (e := vIv) (gv := vIv) (ok_impl_Integer _) fun r34 hr34 => ?_
          refine Run.q (e := vIv) (gv := vIv) (ok_impl_DivI _ _) fun r35 hr35 => ?_
          refine Run.q (e := vIv) (gv := vIv) (ok_impl_AddI _ _) fun r36 hr36 => ?_
          refine Run.u 400 E_ok mixed Tryz.func141 ?_
          refine Run.z [true] ?_
          refine Run.q (e := vIv) (gv := vIv) (ok_impl_Integer _) fun r37 hr37 => ?_
          refine Run.q (e := vIv) (gv := vIv) (ok_impl_MulI _ _) fun r38 hr38 => ?_
          refine Run.q (e := vIv) (gv := vIv) (ok_impl_Integer _) fun r39 hr39 => ?_
          refine Run.q (e := vIv) (gv := vIv) (ok_impl_DivI _ _) fun r40 hr40 => ?_
          refine Run.q (e := vIv) (gv := vIv) (ok_impl_AddI _ _) fun r41 hr41 => ?_
          refine Run.u 400 E_ok mixed Tryz.func141 ?_
          refine Run.z [true] ?_
          refine Run.q (e := vIv) (gv := vIv) (ok_impl_Integer _) fun r42 hr42 => ?_
          refine Run.q (e := vIv) (gv := vIv) (ok_impl_MulI _ _) fun r43 hr43 => ?_
          refine Run.q (e := vIv) (gv := vIv) (ok_impl_Integer _) fun r44 hr44 => ?_
          refine Run.q (e := vIv) (gv := vIv) (ok_impl_DivI _ _) fun r45 hr45 => ?_
          refine Run.q (e := vIv) (gv := vIv) (ok_impl_AddI _ _) fun r46 hr46 => ?_
          refine Run.u 400 E_ok mixed Tryz.func141 ?_
          refine Run.z [true] ?_
          refine Run.q (e := vIv) (gv := vIv) (ok_impl_Integer _) fun r47 hr47 => ?_
          refine Run.q (e := vIv) (gv := vIv) (ok_impl_MulI _ _) fun r48 hr48 => ?_
          refine Run.q (e := vIv) (gv := vIv) (ok_impl_Integer _) fun r49 hr49 => ?_
          refine Run.q (e := vIv) (gv := vIv) (ok_impl_DivI _ _) fun r50 hr50 => ?_
          refine Run.q (e := vIv) (gv := vIv) (ok_impl_AddI _ _) fun r51 hr51 => ?_
          refine Run.u 400 E_ok mixed Tryz.func141 ?_
          refine Run.z [true] ?_
          refine Run.q (e := vIv) (gv := vIv) (ok_impl_Integer _) fun r52 hr52 => ?_
          refine Run.q (e := vIv) (gv := vIv) (ok_impl_MulI _ _) fun r53 hr53 => ?_
          refine Run.q (e := vIv) (gv := vIv) (ok_impl_Integer _) fun r54 hr54 => ?_
          refine Run.q (e := vIv) (gv := vIv) (ok_impl_DivI _ _) fun r55 hr55 => ?_
          refine Run.q (e := vIv) (gv := vIv) (ok_impl_AddI _ _) fun r56 hr56 => ?_
          refine Run.u 400 E_ok mixed Tryz.func141 ?_
          refine Run.z [false] ?_
          refine Run.q (e := vIv) (gv := vIv) (ok_impl_widened _ _) fun r57 hr57 => ?_
          refine Run.q (e := vIv) (gv := vIv) (ok_impl_scaled _ _ (by have z := expk_range a0 h6 h4; first | exact z.1 | exact z.2.1 | exact z.2.2.1 | exact z.2.2.2) (by have z := expk_range a0 h6 h4; first | exact z.1 | exact z.2.1 | exact z.2.2.1 | exact z.2.2.2)) fun r58 hr58 => ?_
          exact Run.x 0
        · refine Run.q (e := vIv) (gv := vIv) (ok_impl_at _) fun r59 hr59 => ?_
          refine Run.q (e := vIv) (gv := vIv) (ok_impl_LogTwoI _) fun r60 hr60 => ?_
          refine Run.q (e := vIv) (gv := vIv) (ok_impl_SubI _ _) fun r61 hr61 => ?_
          refine Run.q (e := vIv) (gv := vIv) (ok_impl_Integer _) fun r62 hr62 => ?_
          refine Run.u 400 E_ok mixed Tryz.func141 ?_
          refine Run.z [true] ?_
          refine Run.q (e := vIv) (gv := vIv) (ok_impl_Integer _) fun r63 hr63 => ?_
          refine Run.q (e := vIv) (gv := vIv) (ok_impl_MulI _ _) fun r64 hr64 => ?_
          refine Run.q (e := vIv) (gv := vIv) (ok_impl_Integer _) fun r65 hr65 => ?_
          refine Run.q (e := vIv) (gv := vIv) (ok_impl_DivI _ _) fun r66 hr66 => ?_
          refine Run.q (e := vIv) (gv := vIv) (ok_impl_AddI _ _) fun r67 hr67 => ?_
          refine Run.u 400 E_ok mixed Tryz.func141 ?_
          refine Run.z [true] ?_
          refine Run.q (e := vIv) (gv := vIv) (ok_impl_Integer _) fun r68 hr68 => ?_
          refine Run.q (e := vIv) (gv := vIv) (ok_impl_MulI _ _) fun r69 hr69 => ?_
          refine Run.q (e := vIv) (gv := vIv) (ok_impl_Integer _) fun r70 hr70 => ?_
          refine Run.q (e := vIv) (gv := vIv) (ok_impl_DivI _ _) fun r71 hr71 => ?_
          refine Run.q (e := vIv) (gv := vIv) (ok_impl_AddI _ _) fun r72 hr72 => ?_
          refine Run.u 400 E_ok mixed Tryz.func141 ?_
          refine Run.z [true] ?_
          refine Run.q (e := vIv) (gv := vIv) (ok_impl_Integer _) fun r73 hr73 => ?_
          refine Run.q (e := vIv) (gv := vIv) (ok_impl_MulI _ _) fun r74 hr74 => ?_
          refine Run.q (e := vIv) (gv := vIv) (ok_impl_Integer _) fun r75 hr75 => ?_
          refine Run.q (e := vIv) (gv := vIv) (ok_impl_DivI _ _) fun r76 hr76 => ?_
          refine Run.q (e := vIv) (gv := vIv) (ok_impl_AddI _ _) fun r77 hr77 => ?_
          refine Run.u 400 E_ok mixed Tryz.func141 ?_
          refine Run.z [true] ?_
          refine Run.q (e := vIv) (gv := vIv) (ok_impl_Integer _) fun r78 hr78 => ?_
          refine Run.q (e := vIv) (gv := vIv) (ok_impl_MulI _ _) fun r79 hr79 => ?_
          refine Run.q (e := vIv) (gv := vIv) (ok_impl_Integer _) fun r80 hr80 => ?_
          refine Run.q (e := vIv) (gv := vIv) (ok_impl_DivI _ _) fun r81 hr81 => ?_
          refine Run.q (e := vIv) (gv := vIv) (ok_impl_AddI _ _) fun r82 hr82 => ?_
          refine Run.u 400 E_ok mixed Tryz.func141 ?_
          refine Run.z [true] ?_
          refine Run.q (e := vIv) (gv := vIv) (ok_impl_Integer _) fun r83 hr83 => ?_
          refine Run.q (e := vIv) (gv := vIv) (ok_impl_MulI _ _) fun r84 hr84 => ?_
          refine Run.q (e := vIv) (gv := vIv) (ok_impl_Integer _) fun r85 hr85 => ?_
          refine Run.q (e := vIv) (gv := vIv) (ok_impl_DivI _ _) fun r86 hr86 => ?_
          refine Run.q (e := vIv) (gv := vIv) (ok_impl_AddI _ _) fun r87 hr87 => ?_
          refine Run.u 400 E_ok mixed Tryz.func141 ?_
          refine Run.z [true] ?_
          refine Run.q (e := vIv) (gv := vIv) (ok_impl_Integer _) fun r88 hr88 => ?_
          refine Run.q (e := vIv) (gv := vIv) (ok_impl_MulI _ _) fun r89 hr89 => ?_
          refine Run.q (e := vIv) (gv := vIv) (ok_impl_Integer _) fun r90 hr90 => ?_
          refine Run.q (e := vIv) (gv := vIv) (ok_impl_DivI _ _) fun r91 hr91 => ?_
          refine Run.q (e := vIv) (gv := vIv) (ok_impl_AddI _ _) fun r92 hr92 => ?_
          refine Run.u 400 E_ok mixed Tryz.func141 ?_
          refine Run.z [true] ?_
          refine Run.q (e := vIv) (gv := vIv) (ok_impl_Integer _) fun r93 hr93 => ?_
          refine Run.q (e := vIv) (gv := vIv) (ok_impl_MulI _ _) fun r94 hr94 => ?_
          refine Run.q (e := vIv) (gv := vIv) (ok_impl_Integer _) fun r95 hr95 => ?_
          refine Run.q (e := vIv) (gv := vIv) (ok_impl_DivI _ _) fun r96 hr96 => ?_
          refine Run.q (e := vIv) (gv := vIv) (ok_impl_AddI _ _) fun r97 hr97 => ?_
          refine Run.u 400 E_ok mixed Tryz.func141 ?_
          refine Run.z [true] ?_
          refine Run.q (e := vIv) (gv := vIv) (ok_impl_Integer _) fun r98 hr98 => ?_
          refine Run.q (e := vIv) (gv := vIv) (ok_impl_MulI _ _) fun r99 hr99 => ?_
          refine Run.q (e := vIv) (gv := vIv) (ok_impl_Integer _) fun r100 hr100 => ?_
          refine Run.q (e := vIv) (gv := vIv) (ok_impl_DivI _ _) fun r101 hr101 => ?_
          refine Run.q (e := vIv) (gv := vIv) (ok_impl_AddI _ _) fun r102 hr102 => ?_
          refine Run.u 400 E_ok mixed Tryz.func141 ?_
          refine Run.z [true] ?_
          refine Run.q (e := vIv) (gv := vIv) (ok_impl_Integer _) fun r103 hr103 => ?_
          refine Run.q (e := vIv) (gv := vIv) (ok_impl_MulI _ _) fun r104 hr104 => ?_
          refine Run.q (e := vIv) (gv := vIv) (ok_impl_Integer _) fun r105 hr105 => ?_
          refine Run.q (e := vIv) (gv := vIv) (ok_impl_DivI _ _) fun r106 hr106 => ?_
          refine Run.q (e := vIv) (gv := vIv) (ok_impl_AddI _ _) fun r107 hr107 => ?_
          refine Run.u 400 E_ok mixed Tryz.func141 ?_
          refine Run.z [false] ?_
          refine Run.q (e := vIv) (gv := vIv) (ok_impl_widened _ _) fun r108 hr108 => ?_
          refine Run.q (e := vIv) (gv := vIv) (ok_impl_scaled _ _ (by have z := expk_range a0 h6 h4; first | exact z.1 | exact z.2.1 | exact z.2.2.1 | exact z.2.2.2) (by have z := expk_range a0 h6 h4; first | exact z.1 | exact z.2.1 | exact z.2.2.1 | exact z.2.2.2)) fun r109 hr109 => ?_
          exact Run.x 0

theorem ok_impl_HalfI (a0 : Iv) : Fun Tryz.prog 140 [] #[vIv a0] (vIv (F_impl_HalfI a0)) [] := by
  refine Fun.ofH 400 E_ok mixed Tryz.func140 (by kernel_rfl) (by kernel_rfl) ?_
  unfold F_impl_HalfI
  refine Run.q (e := vB) (gv := vIv) (ok_impl_IsWhole _) fun r1 _ => ?_
  refine Run.y (gv := vIv) (fun _ => ?_) (fun _ => ?_)
  · refine Run.q (e := vIv) (gv := vIv) (ok_impl_Whole) fun r2 _ => ?_
    exact Run.x 0
  · refine Run.z [true, true] ?_
    exact Run.x 0

theorem ok_impl_SinhI_1 (a0 : I64) : Fun Tryz.prog 139 [] #[vI a0] (vIv (F_impl_SinhI_1 a0)) [] := by
  refine Fun.ofH 400 E_ok mixed Tryz.func139 (by kernel_rfl) (by kernel_rfl) ?_
  unfold F_impl_SinhI_1
  refine Run.q (e := vIv) (gv := vIv) (ok_impl_ExpAt _) fun r1 _ => ?_
  refine Run.q (e := vIv) (gv := vIv) (ok_impl_ExpAt _) fun r2 _ => ?_
  refine Run.q (e := vIv) (gv := vIv) (ok_impl_SubI _ _) fun r3 _ => ?_
  refine Run.q (e := vIv) (gv := vIv) (ok_impl_HalfI _) fun r4 _ => ?_
  exact Run.x 0

theorem ok_impl_monotonic__impl_SinhI_1 (a0 : Iv) : Fun Tryz.prog 138 [] #[vIv a0, .func (.func 139) #[] #[]] (vIv (F_impl_monotonic__impl_SinhI_1 a0)) [] := by
  refine Fun.ofH 400 E_ok mixed Tryz.func138 (by kernel_rfl) (by kernel_rfl) ?_
  unfold F_impl_monotonic__impl_SinhI_1
  refine Run.q (e := vB) (gv := vIv) (ok_impl_IsWhole _) fun r1 _ => ?_
  refine Run.y (gv := vIv) (fun _ => ?_) (fun _ => ?_)
  · refine Run.q (e := vIv) (gv := vIv) (ok_impl_Whole) fun r2 _ => ?_
    exact Run.x 0
  · refine Run.q (e := vIv) (gv := vIv) (ok_impl_SinhI_1 _) fun r3 _ => ?_
    refine Run.q (e := vIv) (gv := vIv) (ok_impl_SinhI_1 _) fun r4 _ => ?_
    refine Run.q (e := vB) (gv := vIv) (ok_impl_areBounded _ _) fun r5 _ => ?_
    refine Run.y (gv := vIv) (fun _ => ?_) (fun _ => ?_)
    · refine Run.q (e := vIv) (gv := vIv) (ok_impl_Whole) fun r6 _ => ?_
      exact Run.x 0
    · refine Run.q (e := vIv) (gv := vIv) (ok_impl_bounded _ _ _) fun r7 _ => ?_
      exact Run.x 0

theorem ok_impl_SinhI (a0 : Iv) : Fun Tryz.prog 48 [] #[vIv a0] (vIv (F_impl_SinhI a0)) [] := by
  refine Fun.ofH 400 E_ok mixed Tryz.func48 (by kernel_rfl) (by kernel_rfl) ?_
  unfold F_impl_SinhI
  refine Run.q (e := vIv) (gv := vIv) (ok_impl_monotonic__impl_SinhI_1 _) fun r1 _ => ?_
  exact Run.x 0

theorem ok_impl_halfCircle : Fun Tryz.prog 135 [] #[] (vIv (F_impl_halfCircle)) [] := by
  refine Fun.ofH 400 E_ok mixed Tryz.func135 (by kernel_rfl) (by kernel_rfl) ?_
  unfold F_impl_halfCircle
  refine Run.q (e := vIv) (gv := vIv) (ok_impl_TurnI _) fun r1 _ => ?_
  refine Run.q (e := vIv) (gv := vIv) (ok_impl_TurnI _) fun r2 _ => ?_
  exact Run.x 0

theorem ok_impl_isOpen (a0 : I64) : Fun Tryz.prog 228 [] #[vI a0] (vB (F_impl_isOpen a0)) [] := by
  refine Fun.ofH 400 E_ok mixed Tryz.func228 (by kernel_rfl) (by kernel_rfl) ?_
  unfold F_impl_isOpen
  refine Run.y (gv := vB) (fun _ => ?_) (fun _ => ?_)
  · refine Run.z [true, true] ?_
    exact Run.x 0
  · refine Run.z [false, false] ?_
    exact Run.x 0

theorem ok_impl_WideSqrt_L0 : ∀ (fu : Nat) (a0 : Wd) (x_root : U64) (x_i : I64) (q0 : x_i.val ≤ 63) (hm : (x_i.val + 1).toNat < fu) (t : Array Value) (ht : maskA t [0, 6, 7, 8, 9, 10, 11, 12, 13, 14, 15, 16, 17, 18, 19, 20, 21, 22, 23, 24, 25, 26, 27, 28, 29, 30, 31, 32, 33, 34, 35, 36, 37, 38, 39, 40, 41, 42, 43, 44, 45] = #[undef, .pointer (some ⟨0, 0, none⟩), .int .u64 0, .bool false, .int .u64 x_root.val, .int .i64 x_i.val, undef, undef, undef, undef, undef, undef, undef, undef, undef, undef, undef, undef, undef, undef, undef, undef, undef, undef, undef, undef, undef, undef, undef, undef, undef, undef, undef, undef, undef, undef, undef, undef, undef, undef, undef, undef, undef, undef, undef, undef]), Cfg Tryz.prog 282 (loopAt Tryz.f282 0) t [(#[.int .i64 a0.hi.val, .int .u64 a0.lo.val], 103)] (RvH [] (vT_U_B (F_impl_WideSqrt_L0 fu a0 x_root x_i))) := by
  intro fu
  induction fu with
  | zero => intro a0 x_root x_i q0 hm; exact absurd hm (Nat.not_lt_zero _)
  | succ fu ih =>
    intro a0 x_root x_i q0 hm t ht
    refine Cfg.round E_ok mixed Tryz.func282 ht fun g => ?_
    unfold F_impl_WideSqrt_L0
    refine Run.y (gv := vT_U_B) (fun h2 => ?_) (fun h2 => ?_)
    · refine Run.k (c := (decide (0 ≤ x_i.val))) (by kernel_rfl) (by simp only [w64_val, wu64_val, c64_val, cu64_val, decide_eq_true_eq] at *; omega) ?_
      refine Run.q (e := vT_U_U) (gv := vT_U_B) (ok_bits_Mul64 _ _) fun r3 hr3 => ?_
      refine Run.y (gv := vT_U_B) (fun h4 => ?_) (fun h4 => ?_)
      · refine Run.z [true, true, true, true, true, true, true, true] ?_
        exact Run.l (by kernel_rfl) (by kernel_rfl) (by kernel_rfl) (by kernel_rfl) (ih a0 (ior .u64 x_root.val (ishl .u64 1 x_i.val).val) (w64 (x_i.val - 1)) (by have q1 := x_i.lo; simp only [w64_val, wu64_val, c64_val, cu64_val, decide_eq_true_eq] at *; omega) (by have q1 := x_i.lo; simp only [w64_val, wu64_val, c64_val, cu64_val, decide_eq_true_eq] at *; omega))
      · refine Run.z [false, false, false, false, false] ?_
        refine Run.y (gv := vT_U_B) (fun h5 => ?_) (fun h5 => ?_)
        · refine Run.z [true, true, true, false, true, false] ?_
          refine Run.y (gv := vT_U_B) (fun h6 => ?_) (fun h6 => ?_)
          · exact Run.l (by kernel_rfl) (by kernel_rfl) (by kernel_rfl) (by kernel_rfl) (ih a0 (ior .u64 x_root.val (ishl .u64 1 x_i.val).val) (w64 (x_i.val - 1)) (by have q1 := x_i.lo; simp only [w64_val, wu64_val, c64_val, cu64_val, decide_eq_true_eq] at *; omega) (by have q1 := x_i.lo; simp only [w64_val, wu64_val, c64_val, cu64_val, decide_eq_true_eq] at *; omega))
          · exact Run.l (by kernel_rfl) (by kernel_rfl) (by kernel_rfl) (by kernel_rfl) (ih a0 x_root (w64 (x_i.val - 1)) (by have q1 := x_i.lo; simp only [w64_val, wu64_val, c64_val, cu64_val, decide_eq_true_eq] at *; omega) (by have q1 := x_i.lo; simp only [w64_val, wu64_val, c64_val, cu64_val, decide_eq_true_eq] at *; omega))
        · refine Run.z [false, false, false, false, false, false, false] ?_
          exact Run.l (by kernel_rfl) (by kernel_rfl) (by kernel_rfl) (by kernel_rfl) (ih a0 x_root (w64 (x_i.val - 1)) (by have q1 := x_i.lo; simp only [w64_val, wu64_val, c64_val, cu64_val, decide_eq_true_eq] at *; omega) (by have q1 := x_i.lo; simp only [w64_val, wu64_val, c64_val, cu64_val, decide_eq_true_eq] at *; omega))
    · exact Run.x 0

theorem ok_impl_WideSqrt (a0 : Wd) : Fun Tryz.prog 282 [] #[vWd a0] (vT_U_B (F_impl_WideSqrt a0)) [] := by
  refine Fun.ofH 400 E_ok mixed Tryz.func282 (by kernel_rfl) (by kernel_rfl) ?_
  unfold F_impl_WideSqrt
  refine Run.y (gv := vT_U_B) (fun h1 => ?_) (fun h1 => ?_)
  · exact Run.x 0
  · exact Run.l (by kernel_rfl) (by kernel_rfl) (by kernel_rfl) (by kernel_rfl) (ok_impl_WideSqrt_L0 65 a0 (cu64 0) (c64 63) (by decide) (by decide))

theorem ok_impl_SqrtFloor (a0 : I64) (a1 : I64) : Fun Tryz.prog 239 [] #[vI a0, vI a1] (vT_I_B (F_impl_SqrtFloor a0 a1)) [] := by
  refine Fun.ofH 400 E_ok mixed Tryz.func239 (by kernel_rfl) (by kernel_rfl) ?_
  unfold F_impl_SqrtFloor
  refine Run.y (gv := vT_I_B) (fun _ => ?_) (fun _ => ?_)
  · refine Run.z [true, true, true] ?_
    exact Run.x 0
  · refine Run.z [false, false] ?_
    refine Run.y (gv := vT_I_B) (fun _ => ?_) (fun _ => ?_)
    · exact Run.x 0
    · refine Run.q (e := vWd) (gv := vT_I_B) (ok_impl_WideMul _ _) fun r1 _ => ?_
      refine Run.q (e := vT_U_B) (gv := vT_I_B) (ok_impl_WideSqrt _) fun r2 _ => ?_
      exact Run.x 0

theorem ok_impl_SqrtDown (a0 : I64) : Fun Tryz.prog 166 [] #[vI a0] (vT_I_B (F_impl_SqrtDown a0)) [] := by
  refine Fun.ofH 400 E_ok mixed Tryz.func166 (by kernel_rfl) (by kernel_rfl) ?_
  unfold F_impl_SqrtDown
  refine Run.q (e := vB) (gv := vT_I_B) (ok_impl_ValidFix _) fun r1 _ => ?_
  refine Run.y (gv := vT_I_B) (fun _ => ?_) (fun _ => ?_)
  · exact Run.x 0
  · refine Run.q (e := vT_I_B) (gv := vT_I_B) (ok_impl_SqrtFloor _ _) fun r2 _ => ?_
    refine Run.q (e := vT_I_B) (gv := vT_I_B) (ok_impl_fixed _ _) fun r3 _ => ?_
    exact Run.x 0

theorem ok_impl_SqrtUp (a0 : I64) : Fun Tryz.prog 167 [] #[vI a0] (vT_I_B (F_impl_SqrtUp a0)) [] := by
  refine Fun.ofH 400 E_ok mixed Tryz.func167 (by kernel_rfl) (by kernel_rfl) ?_
  unfold F_impl_SqrtUp
  refine Run.q (e := vT_I_B) (gv := vT_I_B) (ok_impl_SqrtDown _) fun r1 _ => ?_
  refine Run.y (gv := vT_I_B) (fun _ => ?_) (fun _ => ?_)
  · refine Run.z [true, true] ?_
    refine Run.q (e := vWd) (gv := vT_I_B) (ok_impl_WideMul _ _) fun r2 _ => ?_
    refine Run.z [true, true] ?_
    refine Run.q (e := vWd) (gv := vT_I_B) (ok_impl_WideMul _ _) fun r3 _ => ?_
    refine Run.z [true, true] ?_
    refine Run.y (gv := vT_I_B) (fun _ => ?_) (fun _ => ?_)
    · refine Run.q (e := vT_I_B) (gv := vT_I_B) (ok_impl_fixed _ _) fun r4 _ => ?_
      exact Run.x 0
    · refine Run.q (e := vT_I_B) (gv := vT_I_B) (ok_impl_fixed _ _) fun r5 _ => ?_
      exact Run.x 0
  · refine Run.z [false, false, false, false, false, false, false] ?_
    refine Run.q (e := vT_I_B) (gv := vT_I_B) (ok_impl_fixed _ _) fun r6 _ => ?_
    exact Run.x 0

theorem ok_impl_SqrtI (a0 : Iv) : Fun Tryz.prog 64 [] #[vIv a0] (vIv (F_impl_SqrtI a0)) [] := by
  refine Fun.ofH 400 E_ok mixed Tryz.func64 (by kernel_rfl) (by kernel_rfl) ?_
  unfold F_impl_SqrtI
  refine Run.q (e := vB) (gv := vIv) (ok_impl_IsWhole _) fun r1 _ => ?_
  refine Run.y (gv := vIv) (fun _ => ?_) (fun _ => ?_)
  · refine Run.z [true, true, true, true] ?_
    refine Run.q (e := vIv) (gv := vIv) (ok_impl_Whole) fun r2 _ => ?_
    exact Run.x 0
  · refine Run.z [false, false, false] ?_
    refine Run.y (gv := vIv) (fun _ => ?_) (fun _ => ?_)
    · refine Run.q (e := vIv) (gv := vIv) (ok_impl_Whole) fun r3 _ => ?_
      exact Run.x 0
    · refine Run.q (e := vT_I_B) (gv := vIv) (ok_impl_SqrtDown _) fun r4 _ => ?_
      refine Run.q (e := vT_I_B) (gv := vIv) (ok_impl_SqrtUp _) fun r5 _ => ?_
      refine Run.y (gv := vIv) (fun _ => ?_) (fun _ => ?_)
      · refine Run.z [true] ?_
        refine Run.q (e := vIv) (gv := vIv) (ok_impl_bounded _ _ _) fun r6 _ => ?_
        exact Run.x 0
      · refine Run.z [false] ?_
        refine Run.q (e := vIv) (gv := vIv) (ok_impl_bounded _ _ _) fun r7 _ => ?_
        exact Run.x 0

theorem ok_impl_halved (a0 : Iv) : Fun Tryz.prog 279 [] #[vIv a0] (vIv (F_impl_halved a0)) [] := by
  refine Fun.ofH 400 E_ok mixed Tryz.func279 (by kernel_rfl) (by kernel_rfl) ?_
  unfold F_impl_halved
  refine Run.q (e := vIv) (gv := vIv) (ok_impl_Integer _) fun r1 _ => ?_
  refine Run.q (e := vIv) (gv := vIv) (ok_impl_Integer _) fun r2 _ => ?_
  refine Run.q (e := vIv) (gv := vIv) (ok_impl_SqrI _) fun r3 _ => ?_
  refine Run.q (e := vIv) (gv := vIv) (ok_impl_AddI _ _) fun r4 _ => ?_
  refine Run.q (e := vIv) (gv := vIv) (ok_impl_SqrtI _) fun r5 _ => ?_
  refine Run.q (e := vIv) (gv := vIv) (ok_impl_AddI _ _) fun r6 _ => ?_
  refine Run.q (e := vIv) (gv := vIv) (ok_impl_DivI _ _) fun r7 _ => ?_
  exact Run.x 0

theorem ok_impl_FixFloor (a0 : I64) (a1 : I64) : Fun Tryz.prog 146 [] #[vI a0, vI a1] (vT_I_B (F_impl_FixFloor a0 a1)) [] := by
  refine Fun.ofH 400 E_ok mixed Tryz.func146 (by kernel_rfl) (by kernel_rfl) ?_
  unfold F_impl_FixFloor
  refine Run.q (e := vT_I_B) (gv := vT_I_B) (ok_impl_MulDivFloor _ _ _) fun r1 _ => ?_
  refine Run.q (e := vT_I_B) (gv := vT_I_B) (ok_impl_fixed _ _) fun r2 _ => ?_
  exact Run.x 0

theorem ok_impl_mulDivCeil (a0 : I64) (a1 : I64) (a2 : I64) : Fun Tryz.prog 84 [] #[vI a0, vI a1, vI a2] (vT_I_B (F_impl_mulDivCeil a0 a1 a2)) [] := by
  refine Fun.ofH 400 E_ok mixed Tryz.func84 (by kernel_rfl) (by kernel_rfl) ?_
  unfold F_impl_mulDivCeil
  refine Run.q (e := vWd) (gv := vT_I_B) (ok_impl_WideMul _ _) fun r1 _ => ?_
  refine Run.q (e := vT_Wd_I_B) (gv := vT_I_B) (ok_impl_WideDiv _ _) fun r2 _ => ?_
  refine Run.y (gv := vT_I_B) (fun _ => ?_) (fun _ => ?_)
  · exact Run.x 0
  · refine Run.q (e := vT_I_B) (gv := vT_I_B) (ok_impl_WideInt _) fun r3 _ => ?_
    refine Run.y (gv := vT_I_B) (fun _ => ?_) (fun _ => ?_)
    · refine Run.z [true, true, true, true, true] ?_
      exact Run.x 0
    · refine Run.z [false, false] ?_
      refine Run.y (gv := vT_I_B) (fun _ => ?_) (fun _ => ?_)
      · refine Run.z [true, false, true, false] ?_
        refine Run.y (gv := vT_I_B) (fun _ => ?_) (fun _ => ?_)
        · exact Run.x 0
        · refine Run.y (gv := vT_I_B) (fun _ => ?_) (fun _ => ?_)
          · exact Run.x 0
          · exact Run.x 0
      · refine Run.z [false, false, false, false, false] ?_
        refine Run.y (gv := vT_I_B) (fun _ => ?_) (fun _ => ?_)
        · exact Run.x 0
        · exact Run.x 0

theorem ok_impl_FixCeil (a0 : I64) (a1 : I64) : Fun Tryz.prog 147 [] #[vI a0, vI a1] (vT_I_B (F_impl_FixCeil a0 a1)) [] := by
  refine Fun.ofH 400 E_ok mixed Tryz.func147 (by kernel_rfl) (by kernel_rfl) ?_
  unfold F_impl_FixCeil
  refine Run.q (e := vT_I_B) (gv := vT_I_B) (ok_impl_mulDivCeil _ _ _) fun r1 _ => ?_
  refine Run.q (e := vT_I_B) (gv := vT_I_B) (ok_impl_fixed _ _) fun r2 _ => ?_
  exact Run.x 0

theorem ok_impl_Quotient (a0 : I64) (a1 : I64) : Fun Tryz.prog 53 [] #[vI a0, vI a1] (vIv (F_impl_Quotient a0 a1)) [] := by
  refine Fun.ofH 400 E_ok mixed Tryz.func53 (by kernel_rfl) (by kernel_rfl) ?_
  unfold F_impl_Quotient
  refine Run.y (gv := vIv) (fun _ => ?_) (fun _ => ?_)
  · refine Run.y (gv := vIv) (fun _ => ?_) (fun _ => ?_)
    · refine Run.z [true, true, true] ?_
      refine Run.q (e := vIv) (gv := vIv) (ok_impl_Whole) fun r1 _ => ?_
      exact Run.x 0
    · refine Run.z [false, false] ?_
      refine Run.y (gv := vIv) (fun _ => ?_) (fun _ => ?_)
      · refine Run.q (e := vIv) (gv := vIv) (ok_impl_Whole) fun r2 _ => ?_
        exact Run.x 0
      · refine Run.q (e := vT_I_B) (gv := vIv) (ok_impl_FixFloor _ _) fun r3 _ => ?_
        refine Run.q (e := vT_I_B) (gv := vIv) (ok_impl_FixCeil _ _) fun r4 _ => ?_
        refine Run.y (gv := vIv) (fun _ => ?_) (fun _ => ?_)
        · refine Run.z [true] ?_
          refine Run.q (e := vIv) (gv := vIv) (ok_impl_bounded _ _ _) fun r5 _ => ?_
          exact Run.x 0
        · refine Run.z [false] ?_
          refine Run.q (e := vIv) (gv := vIv) (ok_impl_bounded _ _ _) fun r6 _ => ?_
          exact Run.x 0
  · refine Run.q (e := vT_I_B) (gv := vIv) (ok_impl_FixFloor _ _) fun r7 _ => ?_
    refine Run.q (e := vT_I_B) (gv := vIv) (ok_impl_FixCeil _ _) fun r8 _ => ?_
    refine Run.y (gv := vIv) (fun _ => ?_) (fun _ => ?_)
    · refine Run.z [true] ?_
      refine Run.q (e := vIv) (gv := vIv) (ok_impl_bounded _ _ _) fun r9 _ => ?_
      exact Run.x 0
    · refine Run.z [false] ?_
      refine Run.q (e := vIv) (gv := vIv) (ok_impl_bounded _ _ _) fun r10 _ => ?_
      exact Run.x 0

theorem ok_impl_ArcSeries (a0 : Iv) : Fun Tryz.prog 278 [] #[vIv a0] (vIv (F_impl_ArcSeries a0)) [] := by
  refine Fun.ofH 400 E_ok mixed Tryz.func278 (by kernel_rfl) (by kernel_rfl) ?_
  unfold F_impl_ArcSeries
  refine Run.q (e := vB) (gv := vIv) (ok_impl_InsideI _ _) fun r1 _ => ?_
  refine Run.y (gv := vIv) (fun _ => ?_) (fun _ => ?_)
  · refine Run.q (e := vIv) (gv := vIv) (ok_impl_Whole) fun r2 _ => ?_
    exact Run.x 0
  · refine Run.q (e := vIv) (gv := vIv) (ok_impl_SqrI _) fun r3 _ => ?_
    refine Run.q (e := vIv) (gv := vIv) (ok_impl_Quotient _ _) fun r4 _ => ?_
    refine Run.u 400 E_ok mixed Tryz.func278 ?_
    refine Run.z [true] ?_
    refine Run.q (e := vIv) (gv := vIv) (ok_impl_Quotient _ _) fun r5 _ => ?_
    refine Run.q (e := vIv) (gv := vIv) (ok_impl_MulI _ _) fun r6 _ => ?_
    refine Run.q (e := vIv) (gv := vIv) (ok_impl_SubI _ _) fun r7 _ => ?_
    refine Run.u 400 E_ok mixed Tryz.func278 ?_
    refine Run.z [true] ?_
    refine Run.q (e := vIv) (gv := vIv) (ok_impl_Quotient _ _) fun r8 _ => ?_
    refine Run.q (e := vIv) (gv := vIv) (ok_impl_MulI _ _) fun r9 _ => ?_
    refine Run.q (e := vIv) (gv := vIv) (ok_impl_SubI _ _) fun r10 _ => ?_
    refine Run.u 400 E_ok mixed Tryz.func278 ?_
    refine Run.z [true] ?_
    refine Run.q (e := vIv) (gv := vIv) (ok_impl_Quotient _ _) fun r11 _ => ?_
    refine Run.q (e := vIv) (gv := vIv) (ok_impl_MulI _ _) fun r12 _ => ?_
    refine Run.q (e := vIv) (gv := vIv) (ok_impl_SubI _ _) fun r13 _ => ?_
    refine Run.u 400 E_ok mixed Tryz.func278 ?_
    refine Run.z [true] ?_
    refine Run.q (e := vIv) (gv := vIv) (ok_impl_Quotient _ _) fun r14 _ => ?_
    refine Run.q (e := vIv) (gv := vIv) (ok_impl_MulI _ _) fun r15 _ => ?_
    refine Run.q (e := vIv) (gv := vIv) (ok_impl_SubI _ _) fun r16 _ => ?_
    refine Run.u 400 E_ok mixed Tryz.func278 ?_
    refine Run.z [true] ?_
    refine Run.q (e := vIv) (gv := vIv) (ok_impl_Quotient _ _) fun r17 _ => ?_
    refine Run.q (e := vIv) (gv := vIv) (ok_impl_MulI _ _) fun r18 _ => ?_
    refine Run.q (e := vIv) (gv := vIv) (ok_impl_SubI _ _) fun r19 _ => ?_
    refine Run.u 400 E_ok mixed Tryz.func278 ?_
    refine Run.z [true] ?_
    refine Run.q (e := vIv) (gv := vIv) (ok_impl_Quotient _ _) fun r20 _ => ?_
    refine Run.q (e := vIv) (gv := vIv) (ok_impl_MulI _ _) fun r21 _ => ?_
    refine Run.q (e := vIv) (gv := vIv) (ok_impl_SubI _ _) fun r22 _ => ?_
    refine Run.u 400 E_ok mixed Tryz.func278 ?_
    refine Run.z [true] ?_
    refine Run.q (e := vIv) (gv := vIv) (ok_impl_Quotient _ _) fun r23 _ => ?_
    refine Run.q (e := vIv) (gv := vIv) (ok_impl_MulI _ _) fun r24 _ => ?_
    refine Run.q (e := vIv) (gv := vIv) (ok_impl_SubI _ _) fun r25 _ => ?_
    refine Run.u 400 E_ok mixed Tryz.func278 ?_
    refine Run.z [true] ?_
    refine Run.q (e := vIv) (gv := vIv) (ok_impl_Quotient _ _) fun r26 _ => ?_
    refine Run.q (e := vIv) (gv := vIv) (ok_impl_MulI _ _) fun r27 _ => ?_
    refine Run.q (e := vIv) (gv := vIv) (ok_impl_SubI _ _) fun r28 _ => ?_
    refine Run.u 400 E_ok mixed Tryz.func278 ?_
    refine Run.z [true] ?_
    refine Run.q (e := vIv) (gv := vIv) (ok_impl_Quotient _ _) fun r29 _ => ?_
    refine Run.q (e := vIv) (gv := vIv) (ok_impl_MulI _ _) fun r30 _ => ?_
    refine Run.q (e := vIv) (gv := vIv) (ok_impl_SubI _ _) fun r31 _ => ?_
    refine Run.u 400 E_ok mixed Tryz.func278 ?_
    refine Run.z [true] ?_
    refine Run.q (e := vIv) (gv := vIv) (ok_impl_Quotient _ _) fun r32 _ => ?_
    refine Run.q (e := vIv) (gv := vIv) (ok_impl_MulI _ _) fun r33 _ => ?_
    refine Run.q (e := vIv) (gv := vIv) (ok_impl_SubI _ _) fun r34 _ => ?_
    refine Run.u 400 E_ok mixed Tryz.func278 ?_
    refine Run.z [false] ?_
    refine Run.q (e := vIv) (gv := vIv) (ok_impl_MulI _ _) fun r35 _ => ?_
    refine Run.q (e := vIv) (gv := vIv) (ok_impl_tiny) fun r36 _ => ?_
    refine Run.q (e := vIv) (gv := vIv) (ok_impl_AddI _ _) fun r37 _ => ?_
    exact Run.x 0

theorem ok_impl_fourfold (a0 : Iv) : Fun Tryz.prog 229 [] #[vIv a0] (vIv (F_impl_fourfold a0)) [] := by
  refine Fun.ofH 400 E_ok mixed Tryz.func229 (by kernel_rfl) (by kernel_rfl) ?_
  unfold F_impl_fourfold
  refine Run.q (e := vIv) (gv := vIv) (ok_impl_halved _) fun r1 _ => ?_
  refine Run.q (e := vIv) (gv := vIv) (ok_impl_halved _) fun r2 _ => ?_
  refine Run.q (e := vIv) (gv := vIv) (ok_impl_ArcSeries _) fun r3 _ => ?_
  refine Run.q (e := vIv) (gv := vIv) (ok_impl_DoubleI _) fun r4 _ => ?_
  refine Run.q (e := vIv) (gv := vIv) (ok_impl_DoubleI _) fun r5 _ => ?_
  exact Run.x 0

theorem ok_impl_AtanAt_r : ∀ (fu : Nat) (a0 : I64) (hm : min (0 - a0.val).toNat 1 < fu), Fun Tryz.prog 137 [] #[vI a0] (vIv (F_impl_AtanAt_r fu a0)) [] := by
  intro fu
  induction fu with
  | zero => intro a0 hm; exact absurd hm (Nat.not_lt_zero _)
  | succ fu ih =>
    intro a0 hm
    refine Fun.ofH 400 E_ok mixed Tryz.func137 (by kernel_rfl) (by kernel_rfl) ?_
    unfold F_impl_AtanAt_r
    unfold F_impl_AtanAt_b
    refine Run.q (e := vB) (gv := vIv) (ok_impl_isOpen _) fun r1 hr1 => ?_
    refine Run.y (gv := vIv) (fun h2 => ?_) (fun h2 => ?_)
    · refine Run.q (e := vIv) (gv := vIv) (ok_impl_halfCircle) fun r3 hr3 => ?_
      exact Run.x 0
    · refine Run.y (gv := vIv) (fun h4 => ?_) (fun h4 => ?_)
      · refine Run.q (e := vIv) (gv := vIv) (ih (w64 (0 - a0.val)) (by rw [hr1] at h2; simp [F_impl_isOpen, c64_val] at h2; simp only [w64_val, decide_eq_true_eq, decide_eq_false_iff_not] at *; omega)) fun r5 hr5 => ?_
        refine Run.q (e := vIv) (gv := vIv) (ok_impl_NegI _) fun r6 hr6 => ?_
        exact Run.x 0
      · refine Run.y (gv := vIv) (fun h7 => ?_) (fun h7 => ?_)
        · refine Run.q (e := vIv) (gv := vIv) (ok_impl_TurnI _) fun r8 hr8 => ?_
          refine Run.q (e := vIv) (gv := vIv) (ok_impl_Integer _) fun r9 hr9 => ?_
          refine Run.q (e := vIv) (gv := vIv) (ok_impl_at _) fun r10 hr10 => ?_
          refine Run.q (e := vIv) (gv := vIv) (ok_impl_DivI _ _) fun r11 hr11 => ?_
          refine Run.q (e := vIv) (gv := vIv) (ok_impl_fourfold _) fun r12 hr12 => ?_
          refine Run.q (e := vIv) (gv := vIv) (ok_impl_SubI _ _) fun r13 hr13 => ?_
          exact Run.x 0
        · refine Run.q (e := vIv) (gv := vIv) (ok_impl_at _) fun r14 hr14 => ?_
          refine Run.q (e := vIv) (gv := vIv) (ok_impl_fourfold _) fun r15 hr15 => ?_
          exact Run.x 0
theorem ok_impl_AtanAt (a0 : I64) : Fun Tryz.prog 137 [] #[vI a0] (vIv (F_impl_AtanAt a0)) [] := ok_impl_AtanAt_r 2 a0 (by omega)

theorem ok_impl_AtanI (a0 : Iv) : Fun Tryz.prog 47 [] #[vIv a0] (vIv (F_impl_AtanI a0)) [] := by
  refine Fun.ofH 400 E_ok mixed Tryz.func47 (by kernel_rfl) (by kernel_rfl) ?_
  unfold F_impl_AtanI
  refine Run.q (e := vB) (gv := vIv) (ok_impl_IsWhole _) fun r1 _ => ?_
  refine Run.y (gv := vIv) (fun _ => ?_) (fun _ => ?_)
  · refine Run.q (e := vIv) (gv := vIv) (ok_impl_halfCircle) fun r2 _ => ?_
    exact Run.x 0
  · refine Run.q (e := vIv) (gv := vIv) (ok_impl_AtanAt _) fun r3 _ => ?_
    refine Run.q (e := vIv) (gv := vIv) (ok_impl_AtanAt _) fun r4 _ => ?_
    refine Run.q (e := vIv) (gv := vIv) (ok_impl_HullI _ _) fun r5 _ => ?_
    exact Run.x 0

theorem ok_impl_CircleAt (a0 : I64) : Fun Tryz.prog 235 [] #[vI a0] (vIv (F_impl_CircleAt a0)) [] := by
  refine Fun.ofH 400 E_ok mixed Tryz.func235 (by kernel_rfl) (by kernel_rfl) ?_
  unfold F_impl_CircleAt
  refine Run.q (e := vB) (gv := vIv) (ok_impl_within _ _ _) fun r1 _ => ?_
  refine Run.y (gv := vIv) (fun _ => ?_) (fun _ => ?_)
  · refine Run.q (e := vIv) (gv := vIv) (ok_impl_Whole) fun r2 _ => ?_
    exact Run.x 0
  · refine Run.q (e := vT_I_B) (gv := vIv) (ok_impl_SqrtFloor _ _) fun r3 _ => ?_
    refine Run.q (e := vWd) (gv := vIv) (ok_impl_WideMul _ _) fun r4 _ => ?_
    refine Run.q (e := vWd) (gv := vIv) (ok_impl_WideMul _ _) fun r5 _ => ?_
    refine Run.y (gv := vIv) (fun _ => ?_) (fun _ => ?_)
    · refine Run.q (e := vIv) (gv := vIv) (ok_impl_at _) fun r6 _ => ?_
      exact Run.x 0
    · exact Run.x 0

theorem ok_impl_AsinAt (a0 : I64) : Fun Tryz.prog 145 [] #[vI a0] (vIv (F_impl_AsinAt a0)) [] := by
  refine Fun.ofH 400 E_ok mixed Tryz.func145 (by kernel_rfl) (by kernel_rfl) ?_
  unfold F_impl_AsinAt
  refine Run.q (e := vB) (gv := vIv) (ok_impl_within _ _ _) fun r1 _ => ?_
  refine Run.y (gv := vIv) (fun _ => ?_) (fun _ => ?_)
  · refine Run.q (e := vIv) (gv := vIv) (ok_impl_Whole) fun r2 _ => ?_
    exact Run.x 0
  · refine Run.q (e := vIv) (gv := vIv) (ok_impl_at _) fun r3 _ => ?_
    refine Run.q (e := vIv) (gv := vIv) (ok_impl_Integer _) fun r4 _ => ?_
    refine Run.q (e := vIv) (gv := vIv) (ok_impl_CircleAt _) fun r5 _ => ?_
    refine Run.q (e := vIv) (gv := vIv) (ok_impl_AddI _ _) fun r6 _ => ?_
    refine Run.q (e := vIv) (gv := vIv) (ok_impl_DivI _ _) fun r7 _ => ?_
    refine Run.q (e := vIv) (gv := vIv) (ok_impl_AtanI _) fun r8 _ => ?_
    refine Run.q (e := vIv) (gv := vIv) (ok_impl_DoubleI _) fun r9 _ => ?_
    refine Run.q (e := vIv) (gv := vIv) (ok_impl_halfCircle) fun r10 _ => ?_
    refine Run.q (e := vT_Iv_B) (gv := vIv) (ok_impl_MeetI _ _) fun r11 _ => ?_
    exact Run.x 0

theorem ok_impl_AsinI (a0 : Iv) : Fun Tryz.prog 52 [] #[vIv a0] (vIv (F_impl_AsinI a0)) [] := by
  refine Fun.ofH 400 E_ok mixed Tryz.func52 (by kernel_rfl) (by kernel_rfl) ?_
  unfold F_impl_AsinI
  refine Run.q (e := vIv) (gv := vIv) (ok_impl_ring) fun r1 _ => ?_
  refine Run.q (e := vT_Iv_B) (gv := vIv) (ok_impl_MeetI _ _) fun r2 _ => ?_
  refine Run.y (gv := vIv) (fun _ => ?_) (fun _ => ?_)
  · refine Run.q (e := vIv) (gv := vIv) (ok_impl_Whole) fun r3 _ => ?_
    exact Run.x 0
  · refine Run.q (e := vIv) (gv := vIv) (ok_impl_AsinAt _) fun r4 _ => ?_
    refine Run.q (e := vIv) (gv := vIv) (ok_impl_AsinAt _) fun r5 _ => ?_
    refine Run.q (e := vIv) (gv := vIv) (ok_impl_HullI _ _) fun r6 _ => ?_
    exact Run.x 0

theorem ok_impl_CylinderInverse (a0 : Pj) (a1 : Pn) : Fun Tryz.prog 22 [] #[vPj a0, vPn a1] (vT_Iv_Iv_I (F_impl_CylinderInverse a0 a1)) [] := by
  refine Fun.ofH 400 E_ok mixed Tryz.func22 (by kernel_rfl) (by kernel_rfl) ?_
  unfold F_impl_CylinderInverse
  refine Run.q (e := vB) (gv := vT_Iv_Iv_I) (ok_impl_ValidProjection _) fun r1 _ => ?_
  refine Run.y (gv := vT_Iv_Iv_I) (fun _ => ?_) (fun _ => ?_)
  · refine Run.z [true, true, true, true, true] ?_
    exact Run.x 0
  · refine Run.z [false, false] ?_
    refine Run.q (e := vB) (gv := vT_Iv_Iv_I) (ok_impl_isCylindrical _) fun r2 _ => ?_
    refine Run.z [false, false] ?_
    refine Run.y (gv := vT_Iv_Iv_I) (fun _ => ?_) (fun _ => ?_)
    · exact Run.x 0
    · refine Run.q (e := vIv) (gv := vT_Iv_Iv_I) (ok_impl_RadiansOf _) fun r3 _ => ?_
      refine Run.q (e := vIv) (gv := vT_Iv_Iv_I) (ok_impl_CosI _) fun r4 _ => ?_
      refine Run.y (gv := vT_Iv_Iv_I) (fun _ => ?_) (fun _ => ?_)
      · refine Run.q (e := vIv) (gv := vT_Iv_Iv_I) (ok_impl_DivI _ _) fun r5 _ => ?_
        refine Run.q (e := vT_Iv_Iv_I) (gv := vT_Iv_Iv_I) (ok_impl_onEarth _ _ _) fun r6 _ => ?_
        exact Run.x 0
      · refine Run.y (gv := vT_Iv_Iv_I) (fun _ => ?_) (fun _ => ?_)
        · refine Run.q (e := vIv) (gv := vT_Iv_Iv_I) (ok_impl_SinhI _) fun r7 _ => ?_
          refine Run.q (e := vIv) (gv := vT_Iv_Iv_I) (ok_impl_AtanI _) fun r8 _ => ?_
          refine Run.q (e := vT_Iv_Iv_I) (gv := vT_Iv_Iv_I) (ok_impl_onEarth _ _ _) fun r9 _ => ?_
          exact Run.x 0
        · refine Run.y (gv := vT_Iv_Iv_I) (fun _ => ?_) (fun _ => ?_)
          · refine Run.q (e := vIv) (gv := vT_Iv_Iv_I) (ok_impl_MulI _ _) fun r10 _ => ?_
            refine Run.q (e := vIv) (gv := vT_Iv_Iv_I) (ok_impl_ring) fun r11 _ => ?_
            refine Run.q (e := vB) (gv := vT_Iv_Iv_I) (ok_impl_OverlapI _ _) fun r12 _ => ?_
            refine Run.y (gv := vT_Iv_Iv_I) (fun _ => ?_) (fun _ => ?_)
            · exact Run.x 0
            · refine Run.q (e := vIv) (gv := vT_Iv_Iv_I) (ok_impl_AsinI _) fun r13 _ => ?_
              refine Run.q (e := vIv) (gv := vT_Iv_Iv_I) (ok_impl_DivI _ _) fun r14 _ => ?_
              refine Run.q (e := vT_Iv_Iv_I) (gv := vT_Iv_Iv_I) (ok_impl_onEarth _ _ _) fun r15 _ => ?_
              exact Run.x 0
          · refine Run.q (e := vIv) (gv := vT_Iv_Iv_I) (ok_impl_Quotient _ _) fun r16 _ => ?_
            refine Run.q (e := vIv) (gv := vT_Iv_Iv_I) (ok_impl_Quotient _ _) fun r17 _ => ?_
            refine Run.q (e := vIv) (gv := vT_Iv_Iv_I) (ok_impl_MulI _ _) fun r18 _ => ?_
            refine Run.q (e := vIv) (gv := vT_Iv_Iv_I) (ok_impl_SinhI _) fun r19 _ => ?_
            refine Run.q (e := vIv) (gv := vT_Iv_Iv_I) (ok_impl_AtanI _) fun r20 _ => ?_
            refine Run.q (e := vIv) (gv := vT_Iv_Iv_I) (ok_impl_MulI _ _) fun r21 _ => ?_
            refine Run.q (e := vT_Iv_Iv_I) (gv := vT_Iv_Iv_I) (ok_impl_onEarth _ _ _) fun r22 _ => ?_
            exact Run.x 0

theorem ok_impl_isAzimuthalOne (a0 : Pj) : Fun Tryz.prog 55 [] #[vPj a0] (vB (F_impl_isAzimuthalOne a0)) [] := by
  refine Fun.ofH 400 E_ok mixed Tryz.func55 (by kernel_rfl) (by kernel_rfl) ?_
  unfold F_impl_isAzimuthalOne
  refine Run.q (e := vB) (gv := vB) (ok_impl_ValidProjection _) fun r1 _ => ?_
  refine Run.y (gv := vB) (fun _ => ?_) (fun _ => ?_)
  · refine Run.z [true, true] ?_
    refine Run.q (e := vB) (gv := vB) (ok_impl_isAzimuthal _) fun r2 _ => ?_
    refine Run.z [true] ?_
    exact Run.x 0
  · refine Run.z [false, false, false] ?_
    exact Run.x 0

theorem ok_impl_WideAdd (a0 : Wd) (a1 : Wd) : Fun Tryz.prog 281 [] #[vWd a0, vWd a1] (vT_Wd_B (F_impl_WideAdd a0 a1)) [] := by
  refine Fun.ofH 400 E_ok mixed Tryz.func281 (by kernel_rfl) (by kernel_rfl) ?_
  unfold F_impl_WideAdd
  refine Run.k (c := (decide (0 ≤ (a0.lo.val : Int)) && (decide (0 ≤ (a1.lo.val : Int)) && (decide (0 ≤ (0 : Int)) && decide ((0 : Int) ≤ 1))))) (by kernel_rfl) (by simp only [Bool.and_eq_true, decide_eq_true_eq]; exact ⟨U64.lo a0.lo, U64.lo a1.lo, U64.lo (cu64 0), (by decide)⟩) ?_
  refine Run.k (c := (decide (0 ≤ ((wu64 a0.hi.val).val : Int)) && (decide (0 ≤ ((wu64 a1.hi.val).val : Int)) && (decide (0 ≤ ((adc_hi a0.lo a1.lo (cu64 0)).val : Int)) && decide (((adc_hi a0.lo a1.lo (cu64 0)).val : Int) ≤ 1))))) (by kernel_rfl) (by simp only [Bool.and_eq_true, decide_eq_true_eq]; exact ⟨U64.lo (wu64 a0.hi.val), U64.lo (wu64 a1.hi.val), U64.lo (adc_hi a0.lo a1.lo (cu64 0)), (adc_hi_le _ _ _ (by decide))⟩) ?_
  refine Run.y (gv := vT_Wd_B) (fun _ => ?_) (fun _ => ?_)
  · exact Run.x 0
  · exact Run.x 0

theorem ok_impl_rootOfSquares (a0 : I64) (a1 : I64) (a2 : I64) : Fun Tryz.prog 236 [] #[vI a0, vI a1, vI a2] (vT_I_I (F_impl_rootOfSquares a0 a1 a2)) [] := by
  refine Fun.ofH 400 E_ok mixed Tryz.func236 (by kernel_rfl) (by kernel_rfl) ?_
  unfold F_impl_rootOfSquares
  refine Run.q (e := vWd) (gv := vT_I_I) (ok_impl_WideMul _ _) fun r1 _ => ?_
  refine Run.q (e := vWd) (gv := vT_I_I) (ok_impl_WideMul _ _) fun r2 _ => ?_
  refine Run.q (e := vT_Wd_B) (gv := vT_I_I) (ok_impl_WideAdd _ _) fun r3 _ => ?_
  refine Run.q (e := vWd) (gv := vT_I_I) (ok_impl_WideMul _ _) fun r4 _ => ?_
  refine Run.q (e := vT_Wd_B) (gv := vT_I_I) (ok_impl_WideAdd _ _) fun r5 _ => ?_
  refine Run.q (e := vT_U_B) (gv := vT_I_I) (ok_impl_WideSqrt _) fun r6 _ => ?_
  refine Run.q (e := vWd) (gv := vT_I_I) (ok_impl_WideMul _ _) fun r7 _ => ?_
  refine Run.y (gv := vT_I_I) (fun _ => ?_) (fun _ => ?_)
  · exact Run.x 0
  · exact Run.x 0

theorem ok_impl_NormV (a0 : Vc) : Fun Tryz.prog 153 [] #[vVc a0] (vIv (F_impl_NormV a0)) [] := by
  refine Fun.ofH 400 E_ok mixed Tryz.func153 (by kernel_rfl) (by kernel_rfl) ?_
  unfold F_impl_NormV
  refine Run.q (e := vB) (gv := vIv) (ok_impl_areBounded _ _) fun r1 _ => ?_
  refine Run.y (gv := vIv) (fun _ => ?_) (fun _ => ?_)
  · refine Run.z [true, true, true, true] ?_
    refine Run.q (e := vIv) (gv := vIv) (ok_impl_Whole) fun r2 _ => ?_
    exact Run.x 0
  · refine Run.z [false, false] ?_
    refine Run.q (e := vB) (gv := vIv) (ok_impl_IsWhole _) fun r3 _ => ?_
    refine Run.z [false] ?_
    refine Run.y (gv := vIv) (fun _ => ?_) (fun _ => ?_)
    · refine Run.q (e := vIv) (gv := vIv) (ok_impl_Whole) fun r4 _ => ?_
      exact Run.x 0
    · refine Run.q (e := vIv) (gv := vIv) (ok_impl_AbsI _) fun r5 _ => ?_
      refine Run.q (e := vIv) (gv := vIv) (ok_impl_AbsI _) fun r6 _ => ?_
      refine Run.q (e := vIv) (gv := vIv) (ok_impl_AbsI _) fun r7 _ => ?_
      refine Run.q (e := vT_I_I) (gv := vIv) (ok_impl_rootOfSquares _ _ _) fun r8 _ => ?_
      refine Run.q (e := vT_I_I) (gv := vIv) (ok_impl_rootOfSquares _ _ _) fun r9 _ => ?_
      refine Run.q (e := vIv) (gv := vIv) (ok_impl_bounded _ _ _) fun r10 _ => ?_
      exact Run.x 0

theorem ok_impl_fromAxis (a0 : Vc) : Fun Tryz.prog 56 [] #[vVc a0] (vIv (F_impl_fromAxis a0)) [] := by
  refine Fun.ofH 400 E_ok mixed Tryz.func56 (by kernel_rfl) (by kernel_rfl) ?_
  unfold F_impl_fromAxis
  refine Run.q (e := vIv) (gv := vIv) (ok_impl_NormV _) fun r1 _ => ?_
  exact Run.x 0

theorem ok_impl_PiI : Fun Tryz.prog 75 [] #[] (vIv (F_impl_PiI)) [] := by
  refine Fun.ofH 400 E_ok mixed Tryz.func75 (by kernel_rfl) (by kernel_rfl) ?_
  unfold F_impl_PiI
  refine Run.q (e := vIv) (gv := vIv) (ok_impl_TurnI _) fun r1 _ => ?_
  exact Run.x 0

theorem ok_impl_greatestRadius (a0 : I64) : Fun Tryz.prog 57 [] #[vI a0] (vT_Iv_B (F_impl_greatestRadius a0)) [] := by
  refine Fun.ofH 400 E_ok mixed Tryz.func57 (by kernel_rfl) (by kernel_rfl) ?_
  unfold F_impl_greatestRadius
  refine Run.y (gv := vT_Iv_B) (fun _ => ?_) (fun _ => ?_)
  · refine Run.q (e := vIv) (gv := vT_Iv_B) (ok_impl_Integer _) fun r1 _ => ?_
    exact Run.x 0
  · refine Run.y (gv := vT_Iv_B) (fun _ => ?_) (fun _ => ?_)
    · refine Run.q (e := vIv) (gv := vT_Iv_B) (ok_impl_PiI) fun r2 _ => ?_
      exact Run.x 0
    · refine Run.y (gv := vT_Iv_B) (fun _ => ?_) (fun _ => ?_)
      · refine Run.q (e := vIv) (gv := vT_Iv_B) (ok_impl_Integer _) fun r3 _ => ?_
        exact Run.x 0
      · exact Run.x 0

theorem ok_impl_LessI (a0 : Iv) (a1 : Iv) : Fun Tryz.prog 58 [] #[vIv a0, vIv a1] (vI (F_impl_LessI a0 a1)) [] := by
  refine Fun.ofH 400 E_ok mixed Tryz.func58 (by kernel_rfl) (by kernel_rfl) ?_
  unfold F_impl_LessI
  refine Run.q (e := vB) (gv := vI) (ok_impl_areBounded _ _) fun r1 _ => ?_
  refine Run.y (gv := vI) (fun _ => ?_) (fun _ => ?_)
  · exact Run.x 0
  · refine Run.y (gv := vI) (fun _ => ?_) (fun _ => ?_)
    · exact Run.x 0
    · refine Run.y (gv := vI) (fun _ => ?_) (fun _ => ?_)
      · exact Run.x 0
      · exact Run.x 0

theorem ok_impl_oneLess (a0 : Iv) : Fun Tryz.prog 155 [] #[vIv a0] (vIv (F_impl_oneLess a0)) [] := by
  refine Fun.ofH 400 E_ok mixed Tryz.func155 (by kernel_rfl) (by kernel_rfl) ?_
  unfold F_impl_oneLess
  refine Run.q (e := vIv) (gv := vIv) (ok_impl_Integer _) fun r1 _ => ?_
  refine Run.q (e := vIv) (gv := vIv) (ok_impl_SubI _ _) fun r2 _ => ?_
  exact Run.x 0

theorem ok_impl_MaxI (a0 : Iv) (a1 : Iv) : Fun Tryz.prog 156 [] #[vIv a0, vIv a1] (vIv (F_impl_MaxI a0 a1)) [] := by
  refine Fun.ofH 400 E_ok mixed Tryz.func156 (by kernel_rfl) (by kernel_rfl) ?_
  unfold F_impl_MaxI
  refine Run.q (e := vB) (gv := vIv) (ok_impl_areBounded _ _) fun r1 _ => ?_
  refine Run.y (gv := vIv) (fun _ => ?_) (fun _ => ?_)
  · refine Run.q (e := vIv) (gv := vIv) (ok_impl_Whole) fun r2 _ => ?_
    exact Run.x 0
  · exact Run.x 0

theorem ok_impl_isPositive (a0 : Iv) : Fun Tryz.prog 157 [] #[vIv a0] (vB (F_impl_isPositive a0)) [] := by
  refine Fun.ofH 400 E_ok mixed Tryz.func157 (by kernel_rfl) (by kernel_rfl) ?_
  unfold F_impl_isPositive
  refine Run.q (e := vB) (gv := vB) (ok_impl_ValidInterval _) fun r1 _ => ?_
  refine Run.y (gv := vB) (fun _ => ?_) (fun _ => ?_)
  · refine Run.z [true, true, true] ?_
    exact Run.x 0
  · refine Run.z [false, false, false] ?_
    exact Run.x 0

theorem ok_impl_SinI (a0 : Iv) : Fun Tryz.prog 79 [] #[vIv a0] (vIv (F_impl_SinI a0)) [] := by
  refine Fun.ofH 400 E_ok mixed Tryz.func79 (by kernel_rfl) (by kernel_rfl) ?_
  unfold F_impl_SinI
  refine Run.q (e := vIv) (gv := vIv) (ok_impl_circleHull _ _) fun r1 _ => ?_
  exact Run.x 0

theorem ok_impl_inverseFactors (a0 : I64) (a1 : Iv) : Fun Tryz.prog 59 [] #[vI a0, vIv a1] (vT_Iv_Iv (F_impl_inverseFactors a0 a1)) [] := by
  refine Fun.ofH 400 E_ok mixed Tryz.func59 (by kernel_rfl) (by kernel_rfl) ?_
  unfold F_impl_inverseFactors
  refine Run.q (e := vIv) (gv := vT_Iv_Iv) (ok_impl_SqrI _) fun r1 _ => ?_
  refine Run.q (e := vIv) (gv := vT_Iv_Iv) (ok_impl_HalfI _) fun r2 _ => ?_
  refine Run.q (e := vIv) (gv := vT_Iv_Iv) (ok_impl_HalfI _) fun r3 _ => ?_
  refine Run.y (gv := vT_Iv_Iv) (fun _ => ?_) (fun _ => ?_)
  · refine Run.q (e := vIv) (gv := vT_Iv_Iv) (ok_impl_Integer _) fun r4 _ => ?_
    refine Run.q (e := vIv) (gv := vT_Iv_Iv) (ok_impl_Integer _) fun r5 _ => ?_
    refine Run.q (e := vIv) (gv := vT_Iv_Iv) (ok_impl_AddI _ _) fun r6 _ => ?_
    refine Run.q (e := vIv) (gv := vT_Iv_Iv) (ok_impl_SqrtI _) fun r7 _ => ?_
    refine Run.q (e := vIv) (gv := vT_Iv_Iv) (ok_impl_DivI _ _) fun r8 _ => ?_
    exact Run.x 0
  · refine Run.y (gv := vT_Iv_Iv) (fun _ => ?_) (fun _ => ?_)
    · refine Run.q (e := vIv) (gv := vT_Iv_Iv) (ok_impl_Integer _) fun r9 _ => ?_
      refine Run.q (e := vIv) (gv := vT_Iv_Iv) (ok_impl_Integer _) fun r10 _ => ?_
      refine Run.q (e := vIv) (gv := vT_Iv_Iv) (ok_impl_AddI _ _) fun r11 _ => ?_
      refine Run.q (e := vIv) (gv := vT_Iv_Iv) (ok_impl_DivI _ _) fun r12 _ => ?_
      refine Run.q (e := vIv) (gv := vT_Iv_Iv) (ok_impl_oneLess _) fun r13 _ => ?_
      refine Run.q (e := vIv) (gv := vT_Iv_Iv) (ok_impl_MulI _ _) fun r14 _ => ?_
      exact Run.x 0
    · refine Run.y (gv := vT_Iv_Iv) (fun _ => ?_) (fun _ => ?_)
      · refine Run.q (e := vIv) (gv := vT_Iv_Iv) (ok_impl_Integer _) fun r15 _ => ?_
        refine Run.q (e := vIv) (gv := vT_Iv_Iv) (ok_impl_Integer _) fun r16 _ => ?_
        refine Run.q (e := vIv) (gv := vT_Iv_Iv) (ok_impl_oneLess _) fun r17 _ => ?_
        refine Run.q (e := vIv) (gv := vT_Iv_Iv) (ok_impl_MaxI _ _) fun r18 _ => ?_
        refine Run.q (e := vIv) (gv := vT_Iv_Iv) (ok_impl_SqrtI _) fun r19 _ => ?_
        exact Run.x 0
      · refine Run.y (gv := vT_Iv_Iv) (fun _ => ?_) (fun _ => ?_)
        · refine Run.q (e := vIv) (gv := vT_Iv_Iv) (ok_impl_Integer _) fun r20 _ => ?_
          refine Run.q (e := vIv) (gv := vT_Iv_Iv) (ok_impl_oneLess _) fun r21 _ => ?_
          refine Run.q (e := vIv) (gv := vT_Iv_Iv) (ok_impl_MaxI _ _) fun r22 _ => ?_
          refine Run.q (e := vIv) (gv := vT_Iv_Iv) (ok_impl_SqrtI _) fun r23 _ => ?_
          refine Run.q (e := vIv) (gv := vT_Iv_Iv) (ok_impl_HalfI _) fun r24 _ => ?_
          refine Run.q (e := vIv) (gv := vT_Iv_Iv) (ok_impl_oneLess _) fun r25 _ => ?_
          exact Run.x 0
        · refine Run.q (e := vB) (gv := vT_Iv_Iv) (ok_impl_isPositive _) fun r26 _ => ?_
          refine Run.y (gv := vT_Iv_Iv) (fun _ => ?_) (fun _ => ?_)
          · refine Run.q (e := vIv) (gv := vT_Iv_Iv) (ok_impl_SinI _) fun r27 _ => ?_
            refine Run.q (e := vIv) (gv := vT_Iv_Iv) (ok_impl_DivI _ _) fun r28 _ => ?_
            refine Run.q (e := vIv) (gv := vT_Iv_Iv) (ok_impl_CosI _) fun r29 _ => ?_
            exact Run.x 0
          · refine Run.q (e := vIv) (gv := vT_Iv_Iv) (ok_impl_CosI _) fun r30 _ => ?_
            refine Run.q (e := vIv) (gv := vT_Iv_Iv) (ok_impl_Integer _) fun r31 _ => ?_
            refine Run.q (e := vIv) (gv := vT_Iv_Iv) (ok_impl_HullI _ _) fun r32 _ => ?_
            refine Run.q (e := vIv) (gv := vT_Iv_Iv) (ok_impl_CosI _) fun r33 _ => ?_
            exact Run.x 0

theorem ok_impl_Projection_centre (a0 : Pj) : Fun Tryz.prog 159 [] #[vPj a0] (vPt (F_impl_Projection_centre a0)) [] := by
  refine Fun.ofH 400 E_ok mixed Tryz.func159 (by kernel_rfl) (by kernel_rfl) ?_
  unfold F_impl_Projection_centre
  exact Run.x 0

theorem ok_impl_LatOf (a0 : Pt) : Fun Tryz.prog 158 [] #[vPt a0] (vIv (F_impl_LatOf a0)) [] := by
  refine Fun.ofH 400 E_ok mixed Tryz.func158 (by kernel_rfl) (by kernel_rfl) ?_
  unfold F_impl_LatOf
  refine Run.q (e := vB) (gv := vIv) (ok_impl_ValidPoint _) fun r1 _ => ?_
  refine Run.y (gv := vIv) (fun _ => ?_) (fun _ => ?_)
  · refine Run.q (e := vIv) (gv := vIv) (ok_impl_Whole) fun r2 _ => ?_
    exact Run.x 0
  · refine Run.q (e := vIv) (gv := vIv) (ok_impl_RadiansOf _) fun r3 _ => ?_
    exact Run.x 0

theorem ok_impl_DirectionAt (a0 : I64) (a1 : I64) : Fun Tryz.prog 168 [] #[vI a0, vI a1] (vIv (F_impl_DirectionAt a0 a1)) [] := by
  refine Fun.ofH 400 E_ok mixed Tryz.func168 (by kernel_rfl) (by kernel_rfl) ?_
  unfold F_impl_DirectionAt
  refine Run.q (e := vB) (gv := vIv) (ok_impl_isOpen _) fun r1 _ => ?_
  refine Run.y (gv := vIv) (fun _ => ?_) (fun _ => ?_)
  · refine Run.z [true, true, true, true, true, true, true, true, true] ?_
    refine Run.q (e := vIv) (gv := vIv) (ok_impl_Whole) fun r2 _ => ?_
    exact Run.x 0
  · refine Run.z [false] ?_
    refine Run.q (e := vB) (gv := vIv) (ok_impl_isOpen _) fun r3 _ => ?_
    refine Run.z [false, false] ?_
    refine Run.y (gv := vIv) (fun _ => ?_) (fun _ => ?_)
    · refine Run.z [true, true, true, true, true] ?_
      refine Run.q (e := vIv) (gv := vIv) (ok_impl_Whole) fun r4 _ => ?_
      exact Run.x 0
    · refine Run.z [false, false] ?_
      refine Run.y (gv := vIv) (fun _ => ?_) (fun _ => ?_)
      · refine Run.z [true, false, true, false] ?_
        refine Run.y (gv := vIv) (fun _ => ?_) (fun _ => ?_)
        · refine Run.q (e := vIv) (gv := vIv) (ok_impl_Whole) fun r5 _ => ?_
          exact Run.x 0
        · refine Run.q (e := vI) (gv := vIv) (ok_impl_abs _) fun r6 _ => ?_
          refine Run.q (e := vI) (gv := vIv) (ok_impl_abs _) fun r7 _ => ?_
          refine Run.y (gv := vIv) (fun _ => ?_) (fun _ => ?_)
          · refine Run.q (e := vIv) (gv := vIv) (ok_impl_TurnI _) fun r8 _ => ?_
            refine Run.y (gv := vIv) (fun _ => ?_) (fun _ => ?_)
            · refine Run.q (e := vIv) (gv := vIv) (ok_impl_TurnI _) fun r9 _ => ?_
              refine Run.q (e := vIv) (gv := vIv) (ok_impl_at _) fun r10 _ => ?_
              refine Run.q (e := vIv) (gv := vIv) (ok_impl_at _) fun r11 _ => ?_
              refine Run.q (e := vIv) (gv := vIv) (ok_impl_DivI _ _) fun r12 _ => ?_
              refine Run.q (e := vIv) (gv := vIv) (ok_impl_AtanI _) fun r13 _ => ?_
              refine Run.q (e := vIv) (gv := vIv) (ok_impl_SubI _ _) fun r14 _ => ?_
              exact Run.x 0
            · refine Run.q (e := vIv) (gv := vIv) (ok_impl_at _) fun r15 _ => ?_
              refine Run.q (e := vIv) (gv := vIv) (ok_impl_at _) fun r16 _ => ?_
              refine Run.q (e := vIv) (gv := vIv) (ok_impl_DivI _ _) fun r17 _ => ?_
              refine Run.q (e := vIv) (gv := vIv) (ok_impl_AtanI _) fun r18 _ => ?_
              refine Run.q (e := vIv) (gv := vIv) (ok_impl_SubI _ _) fun r19 _ => ?_
              exact Run.x 0
          · refine Run.q (e := vIv) (gv := vIv) (ok_impl_at _) fun r20 _ => ?_
            refine Run.q (e := vIv) (gv := vIv) (ok_impl_at _) fun r21 _ => ?_
            refine Run.q (e := vIv) (gv := vIv) (ok_impl_DivI _ _) fun r22 _ => ?_
            refine Run.q (e := vIv) (gv := vIv) (ok_impl_AtanI _) fun r23 _ => ?_
            refine Run.y (gv := vIv) (fun _ => ?_) (fun _ => ?_)
            · exact Run.x 0
            · refine Run.y (gv := vIv) (fun _ => ?_) (fun _ => ?_)
              · refine Run.q (e := vIv) (gv := vIv) (ok_impl_TurnI _) fun r24 _ => ?_
                refine Run.q (e := vIv) (gv := vIv) (ok_impl_AddI _ _) fun r25 _ => ?_
                exact Run.x 0
              · refine Run.q (e := vIv) (gv := vIv) (ok_impl_TurnI _) fun r26 _ => ?_
                refine Run.q (e := vIv) (gv := vIv) (ok_impl_AddI _ _) fun r27 _ => ?_
                exact Run.x 0
      · refine Run.z [false, false, false, false, false] ?_
        refine Run.q (e := vI) (gv := vIv) (ok_impl_abs _) fun r28 _ => ?_
        refine Run.q (e := vI) (gv := vIv) (ok_impl_abs _) fun r29 _ => ?_
        refine Run.y (gv := vIv) (fun _ => ?_) (fun _ => ?_)
        · refine Run.q (e := vIv) (gv := vIv) (ok_impl_TurnI _) fun r30 _ => ?_
          refine Run.y (gv := vIv) (fun _ => ?_) (fun _ => ?_)
          · refine Run.q (e := vIv) (gv := vIv) (ok_impl_TurnI _) fun r31 _ => ?_
            refine Run.q (e := vIv) (gv := vIv) (ok_impl_at _) fun r32 _ => ?_
            refine Run.q (e := vIv) (gv := vIv) (ok_impl_at _) fun r33 _ => ?_
            refine Run.q (e := vIv) (gv := vIv) (ok_impl_DivI _ _) fun r34 _ => ?_
            refine Run.q (e := vIv) (gv := vIv) (ok_impl_AtanI _) fun r35 _ => ?_
            refine Run.q (e := vIv) (gv := vIv) (ok_impl_SubI _ _) fun r36 _ => ?_
            exact Run.x 0
          · refine Run.q (e := vIv) (gv := vIv) (ok_impl_at _) fun r37 _ => ?_
            refine Run.q (e := vIv) (gv := vIv) (ok_impl_at _) fun r38 _ => ?_
            refine Run.q (e := vIv) (gv := vIv) (ok_impl_DivI _ _) fun r39 _ => ?_
            refine Run.q (e := vIv) (gv := vIv) (ok_impl_AtanI _) fun r40 _ => ?_
            refine Run.q (e := vIv) (gv := vIv) (ok_impl_SubI _ _) fun r41 _ => ?_
            exact Run.x 0
        · refine Run.q (e := vIv) (gv := vIv) (ok_impl_at _) fun r42 _ => ?_
          refine Run.q (e := vIv) (gv := vIv) (ok_impl_at _) fun r43 _ => ?_
          refine Run.q (e := vIv) (gv := vIv) (ok_impl_DivI _ _) fun r44 _ => ?_
          refine Run.q (e := vIv) (gv := vIv) (ok_impl_AtanI _) fun r45 _ => ?_
          refine Run.y (gv := vIv) (fun _ => ?_) (fun _ => ?_)
          · exact Run.x 0
          · refine Run.y (gv := vIv) (fun _ => ?_) (fun _ => ?_)
            · refine Run.q (e := vIv) (gv := vIv) (ok_impl_TurnI _) fun r46 _ => ?_
              refine Run.q (e := vIv) (gv := vIv) (ok_impl_AddI _ _) fun r47 _ => ?_
              exact Run.x 0
            · refine Run.q (e := vIv) (gv := vIv) (ok_impl_TurnI _) fun r48 _ => ?_
              refine Run.q (e := vIv) (gv := vIv) (ok_impl_AddI _ _) fun r49 _ => ?_
              exact Run.x 0

end Go.Proofs.YtjbdilphncpceaaGreat.Abs
