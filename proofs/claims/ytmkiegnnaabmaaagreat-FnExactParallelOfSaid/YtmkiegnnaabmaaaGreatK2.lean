/- The program's functions are these; part 2 (written by w.py). -/
import Derived.Test.YtmkiegnnaabmaaaGreatK1
import Derived.Test.YtmkiegnnaabmaaaGreatF3
set_option linter.unusedVariables false
set_option linter.unusedSimpArgs false
namespace Go.Proofs.YtmkiegnnaabmaaaGreat.Abs
open Go Go.RowKit

theorem len_impl_turnsIn_L0 (a0 : Iv) : ∀ (fu : Nat) (x_k : I64) (acc : List I64), (F_impl_turnsIn_L0 fu a0 x_k acc).length ≤ acc.length + fu := by
  intro fu
  induction fu with
  | zero => intro x_k acc; exact Nat.le_refl _
  | succ fu ih =>
    intro x_k acc
    unfold F_impl_turnsIn_L0
    simp only [bindP]
    have h1 := ih (w64 (x_k.val + 1)) (acc ++ [x_k])
    have h2 := ih (w64 (x_k.val + 1)) acc
    rw [List.length_append] at h1
    simp only [List.length_cons, List.length_nil] at h1
    cases decide (x_k.val ≤ (w64 ((F_impl_QuarterOf a0.hi).val + 1)).val)
    · rw [cond_false]; omega
    · rw [cond_true]
      cases F_impl_OverlapI (F_impl_TurnI x_k) a0
      · rw [cond_false]; omega
      · rw [cond_true]; omega
theorem len_impl_turnsIn (a0 : Iv) : (F_impl_turnsIn a0).length ≤ 4000 := by
  have qb := impl_quarter_bounds a0.lo
  unfold F_impl_turnsIn
  simp only [bindP]
  have := len_impl_turnsIn_L0 a0 ((2000 - (w64 ((F_impl_QuarterOf a0.lo).val - 1)).val).toNat + 1) (w64 ((F_impl_QuarterOf a0.lo).val - 1)) []
  have e1 : (w64 ((F_impl_QuarterOf a0.lo).val - 1)).val = (F_impl_QuarterOf a0.lo).val - 1 := by rw [w64_val]; omega
  simp only [List.length_nil, Nat.zero_add] at this
  refine Nat.le_trans this ?_
  omega
theorem ok_impl_turnsIn_L0 (a0 : Iv) : ∀ (fu : Nat) (x_k : I64) (acc : List I64) (v : Value) (X : List Blk) (hv : LS 2 acc v ((#[.int .i64 a0.lo.val, .int .i64 a0.hi.val], 23) :: X)) (hm : (2000 - x_k.val).toNat < fu) (hk : -1100 ≤ x_k.val) (hlen : (acc.length : Int) ≤ x_k.val + 1100)
    (t : Array Value) (ht : maskA t [0, 2, 5, 6, 7, 8, 9, 10, 11, 12, 13, 14, 15, 16, 17, 18, 19, 20, 21, 22, 23, 24, 25] = #[undef, .pointer (some ⟨0, 0, none⟩), undef, v, .int .i64 x_k.val, undef, undef, undef, undef, undef, undef, undef, undef, undef, undef, undef, undef, undef, undef, undef, undef, undef, undef, undef, undef, undef]),
    Cfg Tryz.prog 143 (loopAt Tryz.f143 0) t ((#[.int .i64 a0.lo.val, .int .i64 a0.hi.val], 23) :: X) (LS 2 (F_impl_turnsIn_L0 fu a0 x_k acc)) := by
  intro fu
  induction fu with
  | zero => intro x_k acc v X hv hm; exact absurd hm (Nat.not_lt_zero _)
  | succ fu ih =>
    intro x_k acc v X hv hm hk hlen t ht
    refine Cfg.round E_ok mixed Tryz.func143 ht fun q => ?_
    unfold F_impl_turnsIn_L0
    have qb := impl_quarter_bounds a0.hi
    refine Run.c (by kernel_rfl) (by kernel_rfl) (ok_impl_QuarterOf a0.hi) rfl ?_
    simp only [bindP]
    generalize F_impl_QuarterOf a0.hi = r1 at *
    refine Run.i (c := decide (x_k.val ≤ (w64 (r1.val + 1)).val)) (by kernel_rfl) (fun h1 => ?_) (fun h1 => ?_)
    · rw [h1, cond_true]
      simp only [w64_val, decide_eq_true_eq] at h1
      refine Run.c (by kernel_rfl) (by kernel_rfl) (ok_impl_TurnI x_k) rfl ?_
      generalize F_impl_TurnI x_k = r2
      refine Run.c (by kernel_rfl) (by kernel_rfl) (ok_impl_OverlapI r2 a0) rfl ?_
      generalize F_impl_OverlapI r2 a0 = r3
      have e1 : (w64 (x_k.val + 1)).val = x_k.val + 1 := by rw [w64_val]; omega
      refine Run.i (c := r3) (by kernel_rfl) (fun h2 => ?_) (fun h2 => ?_)
      · rw [h2, cond_true]
        refine Run.h (td := appAt Tryz.f143 0) (H := (#[.int .i64 a0.lo.val, .int .i64 a0.hi.val], 23) :: X) (by kernel_rfl) (by kernel_rfl) rfl (by kernel_rfl) ?_
        refine Cfg.app (T := 69) (e := 2) (d1 := 21) (d2 := 22) (d3 := 23) (d4 := 24) (s := 3) (x := 4) (L := acc) (v := v) (z := x_k) (by kernel_rfl) (by kernel_rfl) (by kernel_rfl) (by kernel_rfl) (by decide) (by kernel_rfl) (by kernel_rfl) (by kernel_rfl) hv (by omega) fun v4 H4 hv4 hs4 => ?_
        obtain ⟨X4, rfl⟩ := head_same hs4 (show (23 : Nat) ≠ 2 by decide)
        refine exec_cfg E_ok mixed Tryz.func143 400 _ _ _ _ ?_
        exact Run.l (by kernel_rfl) (by kernel_rfl) (by kernel_rfl) (by kernel_rfl) (ih (w64 (x_k.val + 1)) (acc ++ [x_k]) v4 X4 hv4 (by omega) (by omega) (by rw [List.length_append]; simp only [List.length_cons, List.length_nil]; omega))
      · rw [h2, cond_false]
        exact Run.l (by kernel_rfl) (by kernel_rfl) (by kernel_rfl) (by kernel_rfl) (ih (w64 (x_k.val + 1)) acc v X hv (by omega) (by omega) (by omega))
    · rw [h1, cond_false]
      exact Run.rl (v := v) (by kernel_rfl) (by kernel_rfl) hv
theorem ok_impl_turnsIn (a0 : Iv) : FunR Tryz.prog 143 [] #[vIv a0] (Lone 2 (F_impl_turnsIn a0)) := by
  refine FunR.lone (FunR.of 400 E_ok mixed Tryz.func143 (by kernel_rfl) ?_)
  unfold F_impl_turnsIn
  have qb := impl_quarter_bounds a0.lo
  refine Run.c (by kernel_rfl) (by kernel_rfl) (ok_impl_QuarterOf a0.lo) rfl ?_
  simp only [bindP]
  generalize F_impl_QuarterOf a0.lo = r1 at *
  have e1 : (w64 (r1.val - 1)).val = r1.val - 1 := by rw [w64_val]; omega
  exact Run.l (by kernel_rfl) (by kernel_rfl) (by kernel_rfl) (by kernel_rfl) (ok_impl_turnsIn_L0 a0 _ (w64 (r1.val - 1)) [] (.slice none 0 0) [] (.inl ⟨rfl, rfl⟩) (by omega) (by omega) (by simp only [List.length_nil]; omega))

theorem ok_impl_circleHull_L0 : ∀ (fu : Nat) (cp_r7 : Nat) (pd_r7 : List Value) (a1 : I64) (r7 : List I64) (a0 : Iv) (x_24 : I64) (y_2 : Iv) (q0 : 0 ≤ x_24.val) (q1 : ((r7.length : Nat) : Int) ≤ 4000) (hm : (((r7.length : Nat) : Int) - x_24.val).toNat < fu) (t : Array Value) (ht : maskA t [0, 2, 3, 6, 7, 8, 9, 10, 11, 12, 13, 14, 15, 16, 17, 18, 19, 20, 21, 25, 26, 27, 28, 29, 30, 31, 32, 33, 34, 35, 36, 37, 38, 39, 40, 41, 42, 43] = #[undef, .int .i64 a1.val, undef, undef, .pointer (some ⟨1, 0, none⟩), .pointer (some ⟨2, 0, none⟩), undef, undef, undef, undef, undef, undef, undef, undef, undef, undef, undef, undef, undef, undef, undef, undef, .slice (some ⟨3, 0, some 0⟩) r7.length cp_r7, .int .i64 (((r7.length : Nat) : Int)), .int .i64 x_24.val, undef, undef, undef, undef, undef, undef, undef, undef, undef, undef, undef, undef, undef, undef, undef, undef, undef, undef, undef]), Cfg Tryz.prog 96 (loopAt Tryz.f96 0) t [(#[.int .i64 a0.lo.val, .int .i64 a0.hi.val], 23), (#[.int .i64 0, .int .i64 0], 23), (#[.int .i64 y_2.lo.val, .int .i64 y_2.hi.val], 23), (rowOf r7 pd_r7, 2)] (RvH [] (vIv (F_impl_circleHull_L0 fu a1 r7 a0 x_24 y_2))) := by
  intro fu
  induction fu with
  | zero => intro cp_r7 pd_r7 a1 r7 a0 x_24 y_2 q0 q1 hm; exact absurd hm (Nat.not_lt_zero _)
  | succ fu ih =>
    intro cp_r7 pd_r7 a1 r7 a0 x_24 y_2 q0 q1 hm t ht
    refine Cfg.round E_ok mixed Tryz.func96 ht fun g => ?_
    unfold F_impl_circleHull_L0
    refine Run.jk (gv := vIv) (by kernel_rfl) (fun h8 => ?_) (fun h8 => ?_)
    · refine Run.k (c := (decide (0 ≤ x_24.val ∧ x_24.val < ((r7.length : Nat) : Int)))) (by kernel_rfl) (by simp only [w64_val, wu64_val, c64_val, cu64_val, decide_eq_true_eq, decide_eq_false_iff_not, cond_true, cond_false] at *; omega) ?_
      refine Run.ld (by kernel_rfl) (listAt_ok (L := r7) (pad := pd_r7) (i := x_24) (by simp only [w64_val, wu64_val, c64_val, cu64_val, decide_eq_true_eq, decide_eq_false_iff_not, cond_true, cond_false] at *; omega)) ?_
      refine Run.jk (gv := vIv) (by kernel_rfl) (fun h9 => ?_) (fun h9 => ?_)
      · refine Run.bk (e := vIv) (gv := vIv) (by kernel_rfl) (by kernel_rfl) (ok_impl_Integer _) (fun _ => rfl) fun r10 hr10 => ?_
        refine Run.bk (e := vIv) (gv := vIv) (by kernel_rfl) (by kernel_rfl) (ok_impl_HullI _ _) (fun _ => rfl) fun r11 hr11 => ?_
        exact Run.l (by kernel_rfl) (by kernel_rfl) (by kernel_rfl) (by kernel_rfl) (ih cp_r7 pd_r7 a1 r7 a0 (w64 (x_24.val + 1)) r11 (by first | omega | (simp only [w64_val, wu64_val, c64_val, cu64_val, decide_eq_true_eq, decide_eq_false_iff_not, cond_true, cond_false] at *; omega)) (by first | omega | (simp only [w64_val, wu64_val, c64_val, cu64_val, decide_eq_true_eq, decide_eq_false_iff_not, cond_true, cond_false] at *; omega)) (by first | omega | (simp only [w64_val, wu64_val, c64_val, cu64_val, decide_eq_true_eq, decide_eq_false_iff_not, cond_true, cond_false] at *; omega)))
      · refine Run.jk (gv := vIv) (by kernel_rfl) (fun h12 => ?_) (fun h12 => ?_)
        · refine Run.bk (e := vIv) (gv := vIv) (by kernel_rfl) (by kernel_rfl) (ok_impl_Integer _) (fun _ => rfl) fun r13 hr13 => ?_
          refine Run.bk (e := vIv) (gv := vIv) (by kernel_rfl) (by kernel_rfl) (ok_impl_HullI _ _) (fun _ => rfl) fun r14 hr14 => ?_
          exact Run.l (by kernel_rfl) (by kernel_rfl) (by kernel_rfl) (by kernel_rfl) (ih cp_r7 pd_r7 a1 r7 a0 (w64 (x_24.val + 1)) r14 (by first | omega | (simp only [w64_val, wu64_val, c64_val, cu64_val, decide_eq_true_eq, decide_eq_false_iff_not, cond_true, cond_false] at *; omega)) (by first | omega | (simp only [w64_val, wu64_val, c64_val, cu64_val, decide_eq_true_eq, decide_eq_false_iff_not, cond_true, cond_false] at *; omega)) (by first | omega | (simp only [w64_val, wu64_val, c64_val, cu64_val, decide_eq_true_eq, decide_eq_false_iff_not, cond_true, cond_false] at *; omega)))
        · exact Run.l (by kernel_rfl) (by kernel_rfl) (by kernel_rfl) (by kernel_rfl) (ih cp_r7 pd_r7 a1 r7 a0 (w64 (x_24.val + 1)) y_2 (by first | omega | (simp only [w64_val, wu64_val, c64_val, cu64_val, decide_eq_true_eq, decide_eq_false_iff_not, cond_true, cond_false] at *; omega)) (by first | omega | (simp only [w64_val, wu64_val, c64_val, cu64_val, decide_eq_true_eq, decide_eq_false_iff_not, cond_true, cond_false] at *; omega)) (by first | omega | (simp only [w64_val, wu64_val, c64_val, cu64_val, decide_eq_true_eq, decide_eq_false_iff_not, cond_true, cond_false] at *; omega)))
    · exact Run.rh (k := 0) (by kernel_rfl) (by kernel_rfl)

theorem ok_impl_circleHull (a0 : Iv) (a1 : I64) : Fun Tryz.prog 96 [] #[vIv a0, vI a1] (vIv (F_impl_circleHull a0 a1)) [] := by
  refine Fun.ofH 400 E_ok mixed Tryz.func96 (by kernel_rfl) (by kernel_rfl) ?_
  unfold F_impl_circleHull
  refine Run.bk (e := vB) (gv := vIv) (by kernel_rfl) (by kernel_rfl) (ok_impl_areAngles _) (fun _ => rfl) fun r1 hr1 => ?_
  refine Run.jk (gv := vIv) (by kernel_rfl) (fun h2 => ?_) (fun h2 => ?_)
  · refine Run.bk (e := vIv) (gv := vIv) (by kernel_rfl) (by kernel_rfl) (ok_impl_ring) (fun _ => rfl) fun r3 hr3 => ?_
    exact Run.rh (k := 0) (by kernel_rfl) (by kernel_rfl)
  · refine Run.bk (e := vIv) (gv := vIv) (by kernel_rfl) (by kernel_rfl) (ok_impl_circleValue _ _) (fun _ => rfl) fun r4 hr4 => ?_
    refine Run.bk (e := vIv) (gv := vIv) (by kernel_rfl) (by kernel_rfl) (ok_impl_circleValue _ _) (fun _ => rfl) fun r5 hr5 => ?_
    refine Run.bk (e := vIv) (gv := vIv) (by kernel_rfl) (by kernel_rfl) (ok_impl_HullI _ _) (fun _ => rfl) fun r6 hr6 => ?_
    refine Run.bl (gv := vIv) (by kernel_rfl) (by kernel_rfl) (ok_impl_turnsIn _) (by kernel_rfl) (fun r7 hr7 nr7 => ?_) (fun r7 hr7 cp_r7 pd_r7 => ?_)
    · subst nr7
      change Run _ _ (RvH [] (vIv (r6))) _
      refine Run.u 400 E_ok mixed Tryz.func96 ?_
      refine Run.p [false] (by kernel_rfl) ?_
      exact Run.rh (k := 0) (by kernel_rfl) (by kernel_rfl)
    · have hl_r7 : ((r7.length : Nat) : Int) ≤ 4000 := by rw [hr7]; exact Int.ofNat_le.2 (len_impl_turnsIn _)
      exact Run.l (by kernel_rfl) (by kernel_rfl) (by kernel_rfl) (by kernel_rfl) (ok_impl_circleHull_L0 (((r7.length : Nat) : Int).toNat + 1) cp_r7 pd_r7 a1 r7 a0 (c64 0) r6 (by first | omega | (simp only [w64_val, wu64_val, c64_val, cu64_val, decide_eq_true_eq, decide_eq_false_iff_not, cond_true, cond_false] at *; omega)) (by first | omega | (simp only [w64_val, wu64_val, c64_val, cu64_val, decide_eq_true_eq, decide_eq_false_iff_not, cond_true, cond_false] at *; omega)) (by first | omega | (simp only [w64_val, wu64_val, c64_val, cu64_val, decide_eq_true_eq, decide_eq_false_iff_not, cond_true, cond_false] at *; omega)))

theorem ok_impl_SinI (a0 : Iv) : Fun Tryz.prog 37 [] #[vIv a0] (vIv (F_impl_SinI a0)) [] := by
  refine Fun.ofH 400 E_ok mixed Tryz.func37 (by kernel_rfl) (by kernel_rfl) ?_
  unfold F_impl_SinI
  refine Run.bH (e := vIv) (gv := vIv) (by kernel_rfl) (by kernel_rfl) (ok_impl_circleHull _ _) (fun _ => rfl) fun r1 => ?_
  exact Run.rh (k := 0) (by kernel_rfl) (by kernel_rfl)

theorem ok_impl_leftSide (a0 : I64) (a1 : I64) : Fun Tryz.prog 76 [] #[vI a0, vI a1] (vIv (F_impl_leftSide a0 a1)) [] := by
  refine Fun.ofH 400 E_ok mixed Tryz.func76 (by kernel_rfl) (by kernel_rfl) ?_
  unfold F_impl_leftSide
  refine Run.bH (e := vIv) (gv := vIv) (by kernel_rfl) (by kernel_rfl) (ok_impl_at _) (fun _ => rfl) fun r1 => ?_
  refine Run.jH (gv := vIv) (by kernel_rfl) (?_) (?_)
  · refine Run.bH (e := vIv) (gv := vIv) (by kernel_rfl) (by kernel_rfl) (ok_impl_at _) (fun _ => rfl) fun r2 => ?_
    refine Run.bH (e := vIv) (gv := vIv) (by kernel_rfl) (by kernel_rfl) (ok_impl_SinI _) (fun _ => rfl) fun r3 => ?_
    refine Run.bH (e := vIv) (gv := vIv) (by kernel_rfl) (by kernel_rfl) (ok_impl_AddI _ _) (fun _ => rfl) fun r4 => ?_
    exact Run.rh (k := 0) (by kernel_rfl) (by kernel_rfl)
  · refine Run.bH (e := vIv) (gv := vIv) (by kernel_rfl) (by kernel_rfl) (ok_impl_SinI _) (fun _ => rfl) fun r5 => ?_
    refine Run.bH (e := vIv) (gv := vIv) (by kernel_rfl) (by kernel_rfl) (ok_impl_AddI _ _) (fun _ => rfl) fun r6 => ?_
    exact Run.rh (k := 0) (by kernel_rfl) (by kernel_rfl)

theorem ok_impl_parameterAt_L1 : ∀ (fu : Nat) (a0 : I64) (a1 : I64) (x_low : I64) (x_lowq : I64) (x_high : I64) (q0 : 0 ≤ x_lowq.val) (q1 : x_lowq.val ≤ x_high.val) (q2 : x_high.val ≤ 6746518853) (hm : (x_high.val - x_lowq.val).toNat < fu) (t : Array Value) (ht : maskA t [2, 3, 7, 9, 10, 11, 12, 13, 14, 15, 16, 17, 18, 19, 20, 21, 22, 23, 24, 25, 26, 27, 28, 29, 30, 31, 32, 33, 34, 35, 36, 37, 38, 39, 40, 41, 42, 43, 44, 45, 46, 47, 48, 49, 50, 51, 52, 53, 54, 55, 56, 57, 58, 59, 60, 61] = #[.int .i64 a0.val, .int .i64 a1.val, undef, undef, .pointer (some ⟨0, 0, none⟩), .int .i64 x_lowq.val, .int .i64 x_high.val, undef, .pointer (some ⟨1, 0, none⟩), undef, undef, undef, undef, undef, undef, undef, undef, undef, undef, undef, undef, undef, undef, undef, undef, undef, undef, undef, undef, undef, undef, undef, undef, undef, undef, undef, undef, undef, undef, undef, undef, undef, undef, undef, undef, undef, undef, undef, undef, undef, undef, undef, undef, undef, undef, undef, undef, undef, undef, undef, undef, undef]), Cfg Tryz.prog 27 (loopAt Tryz.f27 1) t [(#[.int .i64 0, .int .i64 0], 23), (#[.int .i64 x_low.val, .int .i64 0], 23)] (RvH [] (vIv (F_impl_parameterAt_L1 fu a0 a1 x_low x_lowq x_high))) := by
  intro fu
  induction fu with
  | zero => intro a0 a1 x_low x_lowq x_high q0 q1 q2 hm; exact absurd hm (Nat.not_lt_zero _)
  | succ fu ih =>
    intro a0 a1 x_low x_lowq x_high q0 q1 q2 hm t ht
    refine Cfg.round E_ok mixed Tryz.func27 ht fun g => ?_
    unfold F_impl_parameterAt_L1
    refine Run.jk (gv := vIv) (by kernel_rfl) (fun h12 => ?_) (fun h12 => ?_)
    · refine Run.p [true] (by kernel_rfl) ?_
      refine Run.bk (e := vIv) (gv := vIv) (by kernel_rfl) (by kernel_rfl) (ok_impl_leftSide _ _) (fun _ => rfl) fun r13 hr13 => ?_
      refine Run.jk (gv := vIv) (by kernel_rfl) (fun h14 => ?_) (fun h14 => ?_)
      · exact Run.l (by kernel_rfl) (by kernel_rfl) (by kernel_rfl) (by kernel_rfl) (ih a0 a1 x_low x_lowq (ishr (w64 (x_lowq.val + x_high.val)) 1) (by first | exact Nat.lt_succ_self _ | (simp only [shr1_val, w64_val, c64_val, decide_eq_true_eq, decide_eq_false_iff_not, cond_true, cond_false] at *; omega)) (by first | exact Nat.lt_succ_self _ | (simp only [shr1_val, w64_val, c64_val, decide_eq_true_eq, decide_eq_false_iff_not, cond_true, cond_false] at *; omega)) (by first | exact Nat.lt_succ_self _ | (simp only [shr1_val, w64_val, c64_val, decide_eq_true_eq, decide_eq_false_iff_not, cond_true, cond_false] at *; omega)) (by first | exact Nat.lt_succ_self _ | (simp only [shr1_val, w64_val, c64_val, decide_eq_true_eq, decide_eq_false_iff_not, cond_true, cond_false] at *; omega)))
      · exact Run.l (by kernel_rfl) (by kernel_rfl) (by kernel_rfl) (by kernel_rfl) (ih a0 a1 x_low (ishr (w64 (x_lowq.val + x_high.val)) 1) x_high (by first | exact Nat.lt_succ_self _ | (simp only [shr1_val, w64_val, c64_val, decide_eq_true_eq, decide_eq_false_iff_not, cond_true, cond_false] at *; omega)) (by first | exact Nat.lt_succ_self _ | (simp only [shr1_val, w64_val, c64_val, decide_eq_true_eq, decide_eq_false_iff_not, cond_true, cond_false] at *; omega)) (by first | exact Nat.lt_succ_self _ | (simp only [shr1_val, w64_val, c64_val, decide_eq_true_eq, decide_eq_false_iff_not, cond_true, cond_false] at *; omega)) (by first | exact Nat.lt_succ_self _ | (simp only [shr1_val, w64_val, c64_val, decide_eq_true_eq, decide_eq_false_iff_not, cond_true, cond_false] at *; omega)))
    · exact Run.rh (k := 0) (by kernel_rfl) (by kernel_rfl)

theorem ok_impl_parameterAt_L0 : ∀ (fu : Nat) (a0 : I64) (a1 : I64) (x_low : I64) (x_high : I64) (q0 : 0 ≤ x_low.val) (q1 : x_low.val ≤ x_high.val) (q2 : x_high.val ≤ 6746518853) (hm : (x_high.val - x_low.val).toNat < fu) (t : Array Value) (ht : maskA t [2, 3, 7, 8, 9, 10, 11, 12, 13, 14, 15, 16, 17, 18, 19, 20, 21, 22, 23, 24, 25, 26, 27, 28, 29, 30, 31, 32, 33, 34, 35, 36, 37, 38, 39, 40, 41, 42, 43, 44, 45, 46, 47, 48, 49, 50, 51, 52, 53, 54, 55, 56, 57, 58, 59, 60, 61] = #[.int .i64 a0.val, .int .i64 a1.val, undef, undef, .pointer (some ⟨0, 0, none⟩), .int .i64 x_low.val, .int .i64 x_high.val, undef, undef, undef, undef, undef, undef, undef, undef, undef, undef, undef, undef, undef, undef, undef, undef, undef, undef, undef, undef, undef, undef, undef, undef, undef, undef, undef, undef, undef, undef, undef, undef, undef, undef, undef, undef, undef, undef, undef, undef, undef, undef, undef, undef, undef, undef, undef, undef, undef, undef, undef, undef, undef, undef, undef]), Cfg Tryz.prog 27 (loopAt Tryz.f27 0) t [(#[.int .i64 0, .int .i64 0], 23)] (RvH [] (vIv (F_impl_parameterAt_L0 fu a0 a1 x_low x_high))) := by
  intro fu
  induction fu with
  | zero => intro a0 a1 x_low x_high q0 q1 q2 hm; exact absurd hm (Nat.not_lt_zero _)
  | succ fu ih =>
    intro a0 a1 x_low x_high q0 q1 q2 hm t ht
    refine Cfg.round E_ok mixed Tryz.func27 ht fun g => ?_
    unfold F_impl_parameterAt_L0
    refine Run.jk (gv := vIv) (by kernel_rfl) (fun h8 => ?_) (fun h8 => ?_)
    · refine Run.p [true] (by kernel_rfl) ?_
      refine Run.bk (e := vIv) (gv := vIv) (by kernel_rfl) (by kernel_rfl) (ok_impl_leftSide _ _) (fun _ => rfl) fun r9 hr9 => ?_
      refine Run.jk (gv := vIv) (by kernel_rfl) (fun h10 => ?_) (fun h10 => ?_)
      · exact Run.l (by kernel_rfl) (by kernel_rfl) (by kernel_rfl) (by kernel_rfl) (ih a0 a1 (ishr (w64 (x_low.val + x_high.val)) 1) x_high (by first | exact Nat.lt_succ_self _ | (simp only [shr1_val, w64_val, c64_val, decide_eq_true_eq, decide_eq_false_iff_not, cond_true, cond_false] at *; omega)) (by first | exact Nat.lt_succ_self _ | (simp only [shr1_val, w64_val, c64_val, decide_eq_true_eq, decide_eq_false_iff_not, cond_true, cond_false] at *; omega)) (by first | exact Nat.lt_succ_self _ | (simp only [shr1_val, w64_val, c64_val, decide_eq_true_eq, decide_eq_false_iff_not, cond_true, cond_false] at *; omega)) (by first | exact Nat.lt_succ_self _ | (simp only [shr1_val, w64_val, c64_val, decide_eq_true_eq, decide_eq_false_iff_not, cond_true, cond_false] at *; omega)))
      · exact Run.l (by kernel_rfl) (by kernel_rfl) (by kernel_rfl) (by kernel_rfl) (ih a0 a1 x_low (ishr (w64 (x_low.val + x_high.val)) 1) (by first | exact Nat.lt_succ_self _ | (simp only [shr1_val, w64_val, c64_val, decide_eq_true_eq, decide_eq_false_iff_not, cond_true, cond_false] at *; omega)) (by first | exact Nat.lt_succ_self _ | (simp only [shr1_val, w64_val, c64_val, decide_eq_true_eq, decide_eq_false_iff_not, cond_true, cond_false] at *; omega)) (by first | exact Nat.lt_succ_self _ | (simp only [shr1_val, w64_val, c64_val, decide_eq_true_eq, decide_eq_false_iff_not, cond_true, cond_false] at *; omega)) (by first | exact Nat.lt_succ_self _ | (simp only [shr1_val, w64_val, c64_val, decide_eq_true_eq, decide_eq_false_iff_not, cond_true, cond_false] at *; omega)))
    · refine Run.bk (e := vI) (gv := vIv) (by kernel_rfl) (by kernel_rfl) (ok_impl_quarter) (fun _ => rfl) fun r11 hr11 => ?_
      exact Run.l (by kernel_rfl) (by kernel_rfl) (by kernel_rfl) (by kernel_rfl) (ok_impl_parameterAt_L1 ((r11.val - x_low.val).toNat + 1) a0 a1 x_low x_low r11 (by first | exact Nat.lt_succ_self _ | (have z := impl_quarter1; (first | rw [← hr7] at z | rw [← hr11] at z); (try simp only [c64_val]); omega)) (by first | exact Nat.lt_succ_self _ | (have z := impl_quarter1; (first | rw [← hr7] at z | rw [← hr11] at z); (try simp only [c64_val]); omega)) (by first | exact Nat.lt_succ_self _ | (have z := impl_quarter1; (first | rw [← hr7] at z | rw [← hr11] at z); (try simp only [c64_val]); omega)) (by first | exact Nat.lt_succ_self _ | (have z := impl_quarter1; (first | rw [← hr7] at z | rw [← hr11] at z); (try simp only [c64_val]); omega)))

theorem ok_impl_parameterAt_r : ∀ (fu : Nat) (a0 : I64) (a1 : I64) (hm : min (0 - a1.val).toNat 1 < fu), Fun Tryz.prog 27 [] #[vI a0, vI a1] (vIv (F_impl_parameterAt_r fu a0 a1)) [] := by
  intro fu
  induction fu with
  | zero => intro a0 a1 hm; exact absurd hm (Nat.not_lt_zero _)
  | succ fu ih =>
    intro a0 a1 hm
    refine Fun.ofH 400 E_ok mixed Tryz.func27 (by kernel_rfl) (by kernel_rfl) ?_
    unfold F_impl_parameterAt_r
    refine Run.bk (e := vB) (gv := vIv) (by kernel_rfl) (by kernel_rfl) (ok_impl_ValidFix _) (fun _ => rfl) fun r1 hr1 => ?_
    refine Run.jk (gv := vIv) (by kernel_rfl) (fun h2 => ?_) (fun h2 => ?_)
    · refine Run.bk (e := vIv) (gv := vIv) (by kernel_rfl) (by kernel_rfl) (ok_impl_halfCircle) (fun _ => rfl) fun r3 hr3 => ?_
      exact Run.rh (k := 0) (by kernel_rfl) (by kernel_rfl)
    · refine Run.jk (gv := vIv) (by kernel_rfl) (fun h4 => ?_) (fun h4 => ?_)
      · refine Run.bk (e := vIv) (gv := vIv) (by kernel_rfl) (by kernel_rfl) (ih a0 (w64 (0 - a1.val)) (by have q := a1.lo; rw [hr1] at h2; simp [F_impl_ValidFix, F_impl_within, bindP, c64_val] at h2; simp only [w64_val, decide_eq_true_eq, decide_eq_false_iff_not] at *; omega)) (fun _ => rfl) fun r5 hr5 => ?_
        refine Run.bk (e := vIv) (gv := vIv) (by kernel_rfl) (by kernel_rfl) (ok_impl_NegI _) (fun _ => rfl) fun r6 hr6 => ?_
        exact Run.rh (k := 0) (by kernel_rfl) (by kernel_rfl)
      · refine Run.bk (e := vI) (gv := vIv) (by kernel_rfl) (by kernel_rfl) (ok_impl_quarter) (fun _ => rfl) fun r7 hr7 => ?_
        exact Run.l (by kernel_rfl) (by kernel_rfl) (by kernel_rfl) (by kernel_rfl) (ok_impl_parameterAt_L0 ((r7.val - (c64 0).val).toNat + 1) a0 a1 (c64 0) r7 (by first | exact Nat.lt_succ_self _ | (have z := impl_quarter1; (first | rw [← hr7] at z | rw [← hr11] at z); (try simp only [c64_val]); omega)) (by first | exact Nat.lt_succ_self _ | (have z := impl_quarter1; (first | rw [← hr7] at z | rw [← hr11] at z); (try simp only [c64_val]); omega)) (by first | exact Nat.lt_succ_self _ | (have z := impl_quarter1; (first | rw [← hr7] at z | rw [← hr11] at z); (try simp only [c64_val]); omega)) (by first | exact Nat.lt_succ_self _ | (have z := impl_quarter1; (first | rw [← hr7] at z | rw [← hr11] at z); (try simp only [c64_val]); omega)))
theorem ok_impl_parameterAt (a0 : I64) (a1 : I64) : Fun Tryz.prog 27 [] #[vI a0, vI a1] (vIv (F_impl_parameterAt a0 a1)) [] := ok_impl_parameterAt_r 2 a0 a1 (by omega)

theorem ok_impl_EckertAt (a0 : I64) : Fun Tryz.prog 10 [] #[vI a0] (vIv (F_impl_EckertAt a0)) [] := by
  refine Fun.ofH 400 E_ok mixed Tryz.func10 (by kernel_rfl) (by kernel_rfl) ?_
  unfold F_impl_EckertAt
  refine Run.bH (e := vIv) (gv := vIv) (by kernel_rfl) (by kernel_rfl) (ok_impl_parameterAt _ _) (fun _ => rfl) fun r1 => ?_
  exact Run.rh (k := 0) (by kernel_rfl) (by kernel_rfl)

theorem ok_laws_eqInterval (a0 : Iv) (a1 : Iv) : Fun Tryz.prog 11 [] #[vIv a0, vIv a1] (vB (F_laws_eqInterval a0 a1)) [] := by
  refine Fun.ofH 400 E_ok mixed Tryz.func11 (by kernel_rfl) (by kernel_rfl) ?_
  unfold F_laws_eqInterval
  refine Run.jH (gv := vB) (by kernel_rfl) (?_) (?_)
  · exact Run.rh (k := 0) (by kernel_rfl) (by kernel_rfl)
  · refine Run.jH (gv := vB) (by kernel_rfl) (?_) (?_)
    · exact Run.rh (k := 0) (by kernel_rfl) (by kernel_rfl)
    · exact Run.rh (k := 0) (by kernel_rfl) (by kernel_rfl)

theorem ok_laws_FnExactEckertAt (a0 : I64) : Fun Tryz.prog 3 [] #[vI a0] (vB (F_laws_FnExactEckertAt a0)) [] := by
  refine Fun.ofH 400 E_ok mixed Tryz.func3 (by kernel_rfl) (by kernel_rfl) ?_
  unfold F_laws_FnExactEckertAt
  refine Run.bH (e := vIv) (gv := vB) (by kernel_rfl) (by kernel_rfl) (ok_spec_EckertAt _) (fun _ => rfl) fun r1 => ?_
  refine Run.bH (e := vIv) (gv := vB) (by kernel_rfl) (by kernel_rfl) (ok_impl_EckertAt _) (fun _ => rfl) fun r2 => ?_
  refine Run.bH (e := vB) (gv := vB) (by kernel_rfl) (by kernel_rfl) (ok_laws_eqInterval _ _) (fun _ => rfl) fun r3 => ?_
  refine Run.jH (gv := vB) (by kernel_rfl) (?_) (?_)
  · exact Run.rh (k := 0) (by kernel_rfl) (by kernel_rfl)
  · exact Run.rh (k := 0) (by kernel_rfl) (by kernel_rfl)

theorem ok_spec_MollweideAt (a0 : I64) : Fun Tryz.prog 12 [] #[vI a0] (vIv (F_spec_MollweideAt a0)) [] := by
  refine Fun.ofH 400 E_ok mixed Tryz.func12 (by kernel_rfl) (by kernel_rfl) ?_
  unfold F_spec_MollweideAt
  refine Run.bH (e := vIv) (gv := vIv) (by kernel_rfl) (by kernel_rfl) (ok_spec_l20At _ _) (fun _ => rfl) fun r1 => ?_
  exact Run.rh (k := 0) (by kernel_rfl) (by kernel_rfl)

theorem ok_impl_MollweideAt (a0 : I64) : Fun Tryz.prog 13 [] #[vI a0] (vIv (F_impl_MollweideAt a0)) [] := by
  refine Fun.ofH 400 E_ok mixed Tryz.func13 (by kernel_rfl) (by kernel_rfl) ?_
  unfold F_impl_MollweideAt
  refine Run.bH (e := vIv) (gv := vIv) (by kernel_rfl) (by kernel_rfl) (ok_impl_parameterAt _ _) (fun _ => rfl) fun r1 => ?_
  exact Run.rh (k := 0) (by kernel_rfl) (by kernel_rfl)

theorem ok_laws_FnExactMollweideAt (a0 : I64) : Fun Tryz.prog 4 [] #[vI a0] (vB (F_laws_FnExactMollweideAt a0)) [] := by
  refine Fun.ofH 400 E_ok mixed Tryz.func4 (by kernel_rfl) (by kernel_rfl) ?_
  unfold F_laws_FnExactMollweideAt
  refine Run.bH (e := vIv) (gv := vB) (by kernel_rfl) (by kernel_rfl) (ok_spec_MollweideAt _) (fun _ => rfl) fun r1 => ?_
  refine Run.bH (e := vIv) (gv := vB) (by kernel_rfl) (by kernel_rfl) (ok_impl_MollweideAt _) (fun _ => rfl) fun r2 => ?_
  refine Run.bH (e := vB) (gv := vB) (by kernel_rfl) (by kernel_rfl) (ok_laws_eqInterval _ _) (fun _ => rfl) fun r3 => ?_
  refine Run.jH (gv := vB) (by kernel_rfl) (?_) (?_)
  · exact Run.rh (k := 0) (by kernel_rfl) (by kernel_rfl)
  · exact Run.rh (k := 0) (by kernel_rfl) (by kernel_rfl)

theorem ok_laws_toInterval (a0 : Iv) : Fun Tryz.prog 15 [] #[vIv a0] (vIv (F_laws_toInterval a0)) [] := by
  refine Fun.ofH 400 E_ok mixed Tryz.func15 (by kernel_rfl) (by kernel_rfl) ?_
  unfold F_laws_toInterval
  exact Run.rh (k := 0) (by kernel_rfl) (by kernel_rfl)

theorem ok_spec_PiI : Fun Tryz.prog 84 [] #[] (vIv (F_spec_PiI)) [] := by
  refine Fun.ofH 400 E_ok mixed Tryz.func84 (by kernel_rfl) (by kernel_rfl) ?_
  unfold F_spec_PiI
  refine Run.bk (e := vIv) (gv := vIv) (by kernel_rfl) (by kernel_rfl) (ok_spec_l05Turn _ (by decide)) (fun _ => rfl) fun r1 hr1 => ?_
  exact Run.rh (k := 0) (by kernel_rfl) (by kernel_rfl)

theorem ok_spec_l20Right (a0 : I64) : Fun Tryz.prog 29 [] #[vI a0] (vIv (F_spec_l20Right a0)) [] := by
  refine Fun.ofH 400 E_ok mixed Tryz.func29 (by kernel_rfl) (by kernel_rfl) ?_
  unfold F_spec_l20Right
  refine Run.jH (gv := vIv) (by kernel_rfl) (?_) (?_)
  · refine Run.bH (e := vIv) (gv := vIv) (by kernel_rfl) (by kernel_rfl) (ok_spec_PiI) (fun _ => rfl) fun r1 => ?_
    exact Run.rh (k := 0) (by kernel_rfl) (by kernel_rfl)
  · refine Run.bH (e := vIv) (gv := vIv) (by kernel_rfl) (by kernel_rfl) (ok_spec_Integer _) (fun _ => rfl) fun r2 => ?_
    refine Run.bH (e := vIv) (gv := vIv) (by kernel_rfl) (by kernel_rfl) (ok_spec_TurnI _) (fun _ => rfl) fun r3 => ?_
    refine Run.bH (e := vIv) (gv := vIv) (by kernel_rfl) (by kernel_rfl) (ok_spec_AddI _ _) (fun _ => rfl) fun r4 => ?_
    exact Run.rh (k := 0) (by kernel_rfl) (by kernel_rfl)

theorem ok_spec_ThetaOf (a0 : I64) (a1 : Iv) : Fun Tryz.prog 14 [] #[vI a0, vIv a1] (vIv (F_spec_ThetaOf a0 a1)) [] := by
  refine Fun.ofH 400 E_ok mixed Tryz.func14 (by kernel_rfl) (by kernel_rfl) ?_
  unfold F_spec_ThetaOf
  refine Run.jH (gv := vIv) (by kernel_rfl) (?_) (?_)
  · exact Run.rh (k := 0) (by kernel_rfl) (by kernel_rfl)
  · refine Run.jH (gv := vIv) (by kernel_rfl) (?_) (?_)
    · refine Run.p [true] (by kernel_rfl) ?_
      refine Run.bH (e := vIv) (gv := vIv) (by kernel_rfl) (by kernel_rfl) (ok_spec_l20Right _) (fun _ => rfl) fun r1 => ?_
      refine Run.bH (e := vIv) (gv := vIv) (by kernel_rfl) (by kernel_rfl) (ok_spec_SinI _) (fun _ => rfl) fun r2 => ?_
      refine Run.bH (e := vIv) (gv := vIv) (by kernel_rfl) (by kernel_rfl) (ok_spec_MulI _ _) (fun _ => rfl) fun r3 => ?_
      refine Run.bH (e := vIv) (gv := vIv) (by kernel_rfl) (by kernel_rfl) (ok_spec_l20At _ _) (fun _ => rfl) fun r4 => ?_
      refine Run.bH (e := vIv) (gv := vIv) (by kernel_rfl) (by kernel_rfl) (ok_spec_l20At _ _) (fun _ => rfl) fun r5 => ?_
      refine Run.bH (e := vIv) (gv := vIv) (by kernel_rfl) (by kernel_rfl) (ok_spec_HullI _ _) (fun _ => rfl) fun r6 => ?_
      exact Run.rh (k := 0) (by kernel_rfl) (by kernel_rfl)
    · refine Run.jH (gv := vIv) (by kernel_rfl) (?_) (?_)
      · refine Run.bH (e := vIv) (gv := vIv) (by kernel_rfl) (by kernel_rfl) (ok_spec_l20Right _) (fun _ => rfl) fun r7 => ?_
        refine Run.bH (e := vIv) (gv := vIv) (by kernel_rfl) (by kernel_rfl) (ok_spec_SinI _) (fun _ => rfl) fun r8 => ?_
        refine Run.bH (e := vIv) (gv := vIv) (by kernel_rfl) (by kernel_rfl) (ok_spec_MulI _ _) (fun _ => rfl) fun r9 => ?_
        refine Run.bH (e := vIv) (gv := vIv) (by kernel_rfl) (by kernel_rfl) (ok_spec_l20At _ _) (fun _ => rfl) fun r10 => ?_
        refine Run.bH (e := vIv) (gv := vIv) (by kernel_rfl) (by kernel_rfl) (ok_spec_l20At _ _) (fun _ => rfl) fun r11 => ?_
        refine Run.bH (e := vIv) (gv := vIv) (by kernel_rfl) (by kernel_rfl) (ok_spec_HullI _ _) (fun _ => rfl) fun r12 => ?_
        exact Run.rh (k := 0) (by kernel_rfl) (by kernel_rfl)
      · refine Run.bH (e := vIv) (gv := vIv) (by kernel_rfl) (by kernel_rfl) (ok_spec_Whole) (fun _ => rfl) fun r13 => ?_
        exact Run.rh (k := 0) (by kernel_rfl) (by kernel_rfl)

theorem ok_impl_isPseudo (a0 : I64) : Fun Tryz.prog 33 [] #[vI a0] (vB (F_impl_isPseudo a0)) [] := by
  refine Fun.ofH 400 E_ok mixed Tryz.func33 (by kernel_rfl) (by kernel_rfl) ?_
  unfold F_impl_isPseudo
  refine Run.bH (e := vB) (gv := vB) (by kernel_rfl) (by kernel_rfl) (ok_impl_within _ _ _) (fun _ => rfl) fun r1 => ?_
  exact Run.rh (k := 0) (by kernel_rfl) (by kernel_rfl)

theorem ok_impl_PiI : Fun Tryz.prog 93 [] #[] (vIv (F_impl_PiI)) [] := by
  refine Fun.ofH 400 E_ok mixed Tryz.func93 (by kernel_rfl) (by kernel_rfl) ?_
  unfold F_impl_PiI
  refine Run.bH (e := vIv) (gv := vIv) (by kernel_rfl) (by kernel_rfl) (ok_impl_TurnI _) (fun _ => rfl) fun r1 => ?_
  exact Run.rh (k := 0) (by kernel_rfl) (by kernel_rfl)

theorem ok_impl_leftFactor (a0 : I64) : Fun Tryz.prog 36 [] #[vI a0] (vIv (F_impl_leftFactor a0)) [] := by
  refine Fun.ofH 400 E_ok mixed Tryz.func36 (by kernel_rfl) (by kernel_rfl) ?_
  unfold F_impl_leftFactor
  refine Run.jH (gv := vIv) (by kernel_rfl) (?_) (?_)
  · refine Run.bH (e := vIv) (gv := vIv) (by kernel_rfl) (by kernel_rfl) (ok_impl_PiI) (fun _ => rfl) fun r1 => ?_
    exact Run.rh (k := 0) (by kernel_rfl) (by kernel_rfl)
  · refine Run.bH (e := vIv) (gv := vIv) (by kernel_rfl) (by kernel_rfl) (ok_impl_Integer _) (fun _ => rfl) fun r2 => ?_
    refine Run.bH (e := vIv) (gv := vIv) (by kernel_rfl) (by kernel_rfl) (ok_impl_TurnI _) (fun _ => rfl) fun r3 => ?_
    refine Run.bH (e := vIv) (gv := vIv) (by kernel_rfl) (by kernel_rfl) (ok_impl_AddI _ _) (fun _ => rfl) fun r4 => ?_
    exact Run.rh (k := 0) (by kernel_rfl) (by kernel_rfl)

theorem ok_impl_ThetaOf (a0 : I64) (a1 : Iv) : Fun Tryz.prog 16 [] #[vI a0, vIv a1] (vIv (F_impl_ThetaOf a0 a1)) [] := by
  refine Fun.ofH 400 E_ok mixed Tryz.func16 (by kernel_rfl) (by kernel_rfl) ?_
  unfold F_impl_ThetaOf
  refine Run.bH (e := vB) (gv := vIv) (by kernel_rfl) (by kernel_rfl) (ok_impl_isPseudo _) (fun _ => rfl) fun r1 => ?_
  refine Run.jH (gv := vIv) (by kernel_rfl) (?_) (?_)
  · refine Run.bH (e := vIv) (gv := vIv) (by kernel_rfl) (by kernel_rfl) (ok_impl_Whole) (fun _ => rfl) fun r2 => ?_
    exact Run.rh (k := 0) (by kernel_rfl) (by kernel_rfl)
  · refine Run.jH (gv := vIv) (by kernel_rfl) (?_) (?_)
    · exact Run.rh (k := 0) (by kernel_rfl) (by kernel_rfl)
    · refine Run.bH (e := vIv) (gv := vIv) (by kernel_rfl) (by kernel_rfl) (ok_impl_leftFactor _) (fun _ => rfl) fun r3 => ?_
      refine Run.bH (e := vIv) (gv := vIv) (by kernel_rfl) (by kernel_rfl) (ok_impl_SinI _) (fun _ => rfl) fun r4 => ?_
      refine Run.bH (e := vIv) (gv := vIv) (by kernel_rfl) (by kernel_rfl) (ok_impl_MulI _ _) (fun _ => rfl) fun r5 => ?_
      refine Run.bH (e := vIv) (gv := vIv) (by kernel_rfl) (by kernel_rfl) (ok_impl_parameterAt _ _) (fun _ => rfl) fun r6 => ?_
      refine Run.bH (e := vIv) (gv := vIv) (by kernel_rfl) (by kernel_rfl) (ok_impl_parameterAt _ _) (fun _ => rfl) fun r7 => ?_
      refine Run.bH (e := vIv) (gv := vIv) (by kernel_rfl) (by kernel_rfl) (ok_impl_HullI _ _) (fun _ => rfl) fun r8 => ?_
      exact Run.rh (k := 0) (by kernel_rfl) (by kernel_rfl)

theorem ok_laws_FnExactThetaOf (a0 : I64) (a1 : Iv) : Fun Tryz.prog 5 [] #[vI a0, vIv a1] (vB (F_laws_FnExactThetaOf a0 a1)) [] := by
  refine Fun.ofH 400 E_ok mixed Tryz.func5 (by kernel_rfl) (by kernel_rfl) ?_
  unfold F_laws_FnExactThetaOf
  refine Run.bH (e := vIv) (gv := vB) (by kernel_rfl) (by kernel_rfl) (ok_laws_toInterval _) (fun _ => rfl) fun r1 => ?_
  refine Run.bH (e := vIv) (gv := vB) (by kernel_rfl) (by kernel_rfl) (ok_spec_ThetaOf _ _) (fun _ => rfl) fun r2 => ?_
  refine Run.bH (e := vIv) (gv := vB) (by kernel_rfl) (by kernel_rfl) (ok_laws_toInterval _) (fun _ => rfl) fun r3 => ?_
  refine Run.bH (e := vIv) (gv := vB) (by kernel_rfl) (by kernel_rfl) (ok_impl_ThetaOf _ _) (fun _ => rfl) fun r4 => ?_
  refine Run.bH (e := vB) (gv := vB) (by kernel_rfl) (by kernel_rfl) (ok_laws_eqInterval _ _) (fun _ => rfl) fun r5 => ?_
  refine Run.jH (gv := vB) (by kernel_rfl) (?_) (?_)
  · exact Run.rh (k := 0) (by kernel_rfl) (by kernel_rfl)
  · exact Run.rh (k := 0) (by kernel_rfl) (by kernel_rfl)

theorem ok_laws_toProjection (a0 : Pj) : Fun Tryz.prog 18 [] #[vPj a0] (vPj (F_laws_toProjection a0)) [] := by
  refine Fun.ofH 400 E_ok mixed Tryz.func18 (by kernel_rfl) (by kernel_rfl) ?_
  unfold F_laws_toProjection
  exact Run.rh (k := 0) (by kernel_rfl) (by kernel_rfl)

theorem ok_laws_toPoint (a0 : Pt) : Fun Tryz.prog 19 [] #[vPt a0] (vPt (F_laws_toPoint a0)) [] := by
  refine Fun.ofH 400 E_ok mixed Tryz.func19 (by kernel_rfl) (by kernel_rfl) ?_
  unfold F_laws_toPoint
  exact Run.rh (k := 0) (by kernel_rfl) (by kernel_rfl)

theorem ok_spec_l11Ok (a0 : Pt) : Fun Tryz.prog 40 [] #[vPt a0] (vB (F_spec_l11Ok a0)) [] := by
  refine Fun.ofH 400 E_ok mixed Tryz.func40 (by kernel_rfl) (by kernel_rfl) ?_
  unfold F_spec_l11Ok
  refine Run.bH (e := vB) (gv := vB) (by kernel_rfl) (by kernel_rfl) (ok_spec_l00In _ _ _) (fun _ => rfl) fun r1 => ?_
  refine Run.jH (gv := vB) (by kernel_rfl) (?_) (?_)
  · refine Run.p [true, true] (by kernel_rfl) ?_
    refine Run.bH (e := vB) (gv := vB) (by kernel_rfl) (by kernel_rfl) (ok_spec_l00In _ _ _) (fun _ => rfl) fun r2 => ?_
    refine Run.p [true] (by kernel_rfl) ?_
    exact Run.rh (k := 0) (by kernel_rfl) (by kernel_rfl)
  · refine Run.p [false, false, false] (by kernel_rfl) ?_
    exact Run.rh (k := 0) (by kernel_rfl) (by kernel_rfl)

theorem ok_spec_l17Standard (a0 : I64) : Fun Tryz.prog 172 [] #[vI a0] (vB (F_spec_l17Standard a0)) [] := by
  refine Fun.ofH 400 E_ok mixed Tryz.func172 (by kernel_rfl) (by kernel_rfl) ?_
  unfold F_spec_l17Standard
  refine Run.bH (e := vB) (gv := vB) (by kernel_rfl) (by kernel_rfl) (ok_spec_l00In _ _ _) (fun _ => rfl) fun r1 => ?_
  exact Run.rh (k := 0) (by kernel_rfl) (by kernel_rfl)

theorem ok_spec_l17Ok (a0 : Pj) : Fun Tryz.prog 144 [] #[vPj a0] (vB (F_spec_l17Ok a0)) [] := by
  refine Fun.ofH 400 E_ok mixed Tryz.func144 (by kernel_rfl) (by kernel_rfl) ?_
  unfold F_spec_l17Ok
  refine Run.bH (e := vB) (gv := vB) (by kernel_rfl) (by kernel_rfl) (ok_spec_l11Ok _) (fun _ => rfl) fun r1 => ?_
  refine Run.jH (gv := vB) (by kernel_rfl) (?_) (?_)
  · refine Run.p [true, true, true, true, true, true, true, true, true, true] (by kernel_rfl) ?_
    exact Run.rh (k := 0) (by kernel_rfl) (by kernel_rfl)
  · refine Run.p [false, false] (by kernel_rfl) ?_
    refine Run.bH (e := vB) (gv := vB) (by kernel_rfl) (by kernel_rfl) (ok_spec_l17Standard _) (fun _ => rfl) fun r2 => ?_
    refine Run.p [false, false] (by kernel_rfl) ?_
    refine Run.jH (gv := vB) (by kernel_rfl) (?_) (?_)
    · refine Run.p [true, true, true, true, true] (by kernel_rfl) ?_
      exact Run.rh (k := 0) (by kernel_rfl) (by kernel_rfl)
    · refine Run.p [false, false] (by kernel_rfl) ?_
      refine Run.bH (e := vB) (gv := vB) (by kernel_rfl) (by kernel_rfl) (ok_spec_l17Standard _) (fun _ => rfl) fun r3 => ?_
      refine Run.p [false, false] (by kernel_rfl) ?_
      refine Run.jH (gv := vB) (by kernel_rfl) (?_) (?_)
      · exact Run.rh (k := 0) (by kernel_rfl) (by kernel_rfl)
      · refine Run.jH (gv := vB) (by kernel_rfl) (?_) (?_)
        · refine Run.p [true] (by kernel_rfl) ?_
          refine Run.jH (gv := vB) (by kernel_rfl) (?_) (?_)
          · refine Run.p [true, true, true] (by kernel_rfl) ?_
            exact Run.rh (k := 0) (by kernel_rfl) (by kernel_rfl)
          · refine Run.p [false, false, false] (by kernel_rfl) ?_
            exact Run.rh (k := 0) (by kernel_rfl) (by kernel_rfl)
        · refine Run.jH (gv := vB) (by kernel_rfl) (?_) (?_)
          · refine Run.jH (gv := vB) (by kernel_rfl) (?_) (?_)
            · refine Run.p [true, true, true] (by kernel_rfl) ?_
              exact Run.rh (k := 0) (by kernel_rfl) (by kernel_rfl)
            · refine Run.p [false, false, false] (by kernel_rfl) ?_
              exact Run.rh (k := 0) (by kernel_rfl) (by kernel_rfl)
          · refine Run.jH (gv := vB) (by kernel_rfl) (?_) (?_)
            · refine Run.p [true] (by kernel_rfl) ?_
              refine Run.jH (gv := vB) (by kernel_rfl) (?_) (?_)
              · refine Run.p [true, true, true] (by kernel_rfl) ?_
                refine Run.jH (gv := vB) (by kernel_rfl) (?_) (?_)
                · refine Run.p [true, true, true] (by kernel_rfl) ?_
                  exact Run.rh (k := 0) (by kernel_rfl) (by kernel_rfl)
                · refine Run.p [false, false, false] (by kernel_rfl) ?_
                  exact Run.rh (k := 0) (by kernel_rfl) (by kernel_rfl)
              · refine Run.p [false, false, false, false, false, false, false] (by kernel_rfl) ?_
                exact Run.rh (k := 0) (by kernel_rfl) (by kernel_rfl)
            · refine Run.jH (gv := vB) (by kernel_rfl) (?_) (?_)
              · refine Run.p [true] (by kernel_rfl) ?_
                refine Run.jH (gv := vB) (by kernel_rfl) (?_) (?_)
                · refine Run.p [true, true, true] (by kernel_rfl) ?_
                  refine Run.jH (gv := vB) (by kernel_rfl) (?_) (?_)
                  · refine Run.p [true, true, true] (by kernel_rfl) ?_
                    exact Run.rh (k := 0) (by kernel_rfl) (by kernel_rfl)
                  · refine Run.p [false, false, false] (by kernel_rfl) ?_
                    exact Run.rh (k := 0) (by kernel_rfl) (by kernel_rfl)
                · refine Run.p [false, false, false, false, false, false, false] (by kernel_rfl) ?_
                  exact Run.rh (k := 0) (by kernel_rfl) (by kernel_rfl)
              · refine Run.jH (gv := vB) (by kernel_rfl) (?_) (?_)
                · refine Run.p [true] (by kernel_rfl) ?_
                  refine Run.jH (gv := vB) (by kernel_rfl) (?_) (?_)
                  · refine Run.p [true, true, true] (by kernel_rfl) ?_
                    refine Run.jH (gv := vB) (by kernel_rfl) (?_) (?_)
                    · refine Run.p [true, true, true] (by kernel_rfl) ?_
                      exact Run.rh (k := 0) (by kernel_rfl) (by kernel_rfl)
                    · refine Run.p [false, false, false] (by kernel_rfl) ?_
                      exact Run.rh (k := 0) (by kernel_rfl) (by kernel_rfl)
                  · refine Run.p [false, false, false, false, false, false, false] (by kernel_rfl) ?_
                    exact Run.rh (k := 0) (by kernel_rfl) (by kernel_rfl)
                · refine Run.jH (gv := vB) (by kernel_rfl) (?_) (?_)
                  · refine Run.p [true] (by kernel_rfl) ?_
                    refine Run.jH (gv := vB) (by kernel_rfl) (?_) (?_)
                    · refine Run.p [true, true, true] (by kernel_rfl) ?_
                      refine Run.jH (gv := vB) (by kernel_rfl) (?_) (?_)
                      · refine Run.p [true, true, true] (by kernel_rfl) ?_
                        exact Run.rh (k := 0) (by kernel_rfl) (by kernel_rfl)
                      · refine Run.p [false, false, false] (by kernel_rfl) ?_
                        exact Run.rh (k := 0) (by kernel_rfl) (by kernel_rfl)
                    · refine Run.p [false, false, false, false, false, false, false] (by kernel_rfl) ?_
                      exact Run.rh (k := 0) (by kernel_rfl) (by kernel_rfl)
                  · refine Run.jH (gv := vB) (by kernel_rfl) (?_) (?_)
                    · refine Run.jH (gv := vB) (by kernel_rfl) (?_) (?_)
                      · refine Run.p [true, true, true] (by kernel_rfl) ?_
                        refine Run.jH (gv := vB) (by kernel_rfl) (?_) (?_)
                        · refine Run.p [true, true, true] (by kernel_rfl) ?_
                          exact Run.rh (k := 0) (by kernel_rfl) (by kernel_rfl)
                        · refine Run.p [false, false, false] (by kernel_rfl) ?_
                          exact Run.rh (k := 0) (by kernel_rfl) (by kernel_rfl)
                      · refine Run.p [false, false, false, false, false, false, false] (by kernel_rfl) ?_
                        exact Run.rh (k := 0) (by kernel_rfl) (by kernel_rfl)
                    · refine Run.jH (gv := vB) (by kernel_rfl) (?_) (?_)
                      · refine Run.p [true] (by kernel_rfl) ?_
                        refine Run.jH (gv := vB) (by kernel_rfl) (?_) (?_)
                        · refine Run.p [true, true, true] (by kernel_rfl) ?_
                          exact Run.rh (k := 0) (by kernel_rfl) (by kernel_rfl)
                        · refine Run.p [false, false, false] (by kernel_rfl) ?_
                          exact Run.rh (k := 0) (by kernel_rfl) (by kernel_rfl)
                      · refine Run.jH (gv := vB) (by kernel_rfl) (?_) (?_)
                        · refine Run.p [true] (by kernel_rfl) ?_
                          refine Run.jH (gv := vB) (by kernel_rfl) (?_) (?_)
                          · refine Run.p [true, true, true] (by kernel_rfl) ?_
                            exact Run.rh (k := 0) (by kernel_rfl) (by kernel_rfl)
                          · refine Run.p [false, false, false] (by kernel_rfl) ?_
                            exact Run.rh (k := 0) (by kernel_rfl) (by kernel_rfl)
                        · refine Run.jH (gv := vB) (by kernel_rfl) (?_) (?_)
                          · refine Run.p [true] (by kernel_rfl) ?_
                            refine Run.jH (gv := vB) (by kernel_rfl) (?_) (?_)
                            · refine Run.p [true, true, true] (by kernel_rfl) ?_
                              exact Run.rh (k := 0) (by kernel_rfl) (by kernel_rfl)
                            · refine Run.p [false, false, false] (by kernel_rfl) ?_
                              exact Run.rh (k := 0) (by kernel_rfl) (by kernel_rfl)
                          · refine Run.jH (gv := vB) (by kernel_rfl) (?_) (?_)
                            · refine Run.p [true] (by kernel_rfl) ?_
                              refine Run.jH (gv := vB) (by kernel_rfl) (?_) (?_)
                              · refine Run.p [true, true, true] (by kernel_rfl) ?_
                                exact Run.rh (k := 0) (by kernel_rfl) (by kernel_rfl)
                              · refine Run.p [false, false, false] (by kernel_rfl) ?_
                                exact Run.rh (k := 0) (by kernel_rfl) (by kernel_rfl)
                            · refine Run.jH (gv := vB) (by kernel_rfl) (?_) (?_)
                              · refine Run.p [true] (by kernel_rfl) ?_
                                refine Run.jH (gv := vB) (by kernel_rfl) (?_) (?_)
                                · refine Run.p [true, true, true] (by kernel_rfl) ?_
                                  exact Run.rh (k := 0) (by kernel_rfl) (by kernel_rfl)
                                · refine Run.p [false, false, false] (by kernel_rfl) ?_
                                  exact Run.rh (k := 0) (by kernel_rfl) (by kernel_rfl)
                              · refine Run.jH (gv := vB) (by kernel_rfl) (?_) (?_)
                                · refine Run.jH (gv := vB) (by kernel_rfl) (?_) (?_)
                                  · refine Run.p [true, true, true] (by kernel_rfl) ?_
                                    exact Run.rh (k := 0) (by kernel_rfl) (by kernel_rfl)
                                  · refine Run.p [false, false, false] (by kernel_rfl) ?_
                                    exact Run.rh (k := 0) (by kernel_rfl) (by kernel_rfl)
                                · refine Run.jH (gv := vB) (by kernel_rfl) (?_) (?_)
                                  · refine Run.p [true] (by kernel_rfl) ?_
                                    refine Run.jH (gv := vB) (by kernel_rfl) (?_) (?_)
                                    · refine Run.p [true, true] (by kernel_rfl) ?_
                                      exact Run.rh (k := 0) (by kernel_rfl) (by kernel_rfl)
                                    · refine Run.p [false, false] (by kernel_rfl) ?_
                                      exact Run.rh (k := 0) (by kernel_rfl) (by kernel_rfl)
                                  · refine Run.jH (gv := vB) (by kernel_rfl) (?_) (?_)
                                    · refine Run.p [true] (by kernel_rfl) ?_
                                      refine Run.jH (gv := vB) (by kernel_rfl) (?_) (?_)
                                      · refine Run.p [true, true] (by kernel_rfl) ?_
                                        exact Run.rh (k := 0) (by kernel_rfl) (by kernel_rfl)
                                      · refine Run.p [false, false] (by kernel_rfl) ?_
                                        exact Run.rh (k := 0) (by kernel_rfl) (by kernel_rfl)
                                    · refine Run.jH (gv := vB) (by kernel_rfl) (?_) (?_)
                                      · refine Run.jH (gv := vB) (by kernel_rfl) (?_) (?_)
                                        · refine Run.p [true, true] (by kernel_rfl) ?_
                                          exact Run.rh (k := 0) (by kernel_rfl) (by kernel_rfl)
                                        · refine Run.p [false, false] (by kernel_rfl) ?_
                                          exact Run.rh (k := 0) (by kernel_rfl) (by kernel_rfl)
                                      · exact Run.rh (k := 0) (by kernel_rfl) (by kernel_rfl)

theorem ok_spec_ValidProjection (a0 : Pj) : Fun Tryz.prog 97 [] #[vPj a0] (vB (F_spec_ValidProjection a0)) [] := by
  refine Fun.ofH 400 E_ok mixed Tryz.func97 (by kernel_rfl) (by kernel_rfl) ?_
  unfold F_spec_ValidProjection
  refine Run.bH (e := vB) (gv := vB) (by kernel_rfl) (by kernel_rfl) (ok_spec_l17Ok _) (fun _ => rfl) fun r1 => ?_
  exact Run.rh (k := 0) (by kernel_rfl) (by kernel_rfl)

theorem ok_spec_l21Ok__pPj (b0 : Pj) : Fun Tryz.prog 39 [(#[.int .i64 b0.kind.val, .int .i64 b0.lat0.val, .int .i64 b0.lon0.val, .int .i64 b0.lat1.val, .int .i64 b0.lat2.val], 37)] #[.pointer (some ⟨0, 0, none⟩)] (vB (F_spec_l21Ok__pPj b0)) [(#[.int .i64 b0.kind.val, .int .i64 b0.lat0.val, .int .i64 b0.lon0.val, .int .i64 b0.lat1.val, .int .i64 b0.lat2.val], 37)] := by
  refine Fun.ofH 400 E_ok mixed Tryz.func39 (by kernel_rfl) (by kernel_rfl) ?_
  unfold F_spec_l21Ok__pPj
  refine Run.jH (gv := vB) (by kernel_rfl) (?_) (?_)
  · refine Run.p [true, true, true] (by kernel_rfl) ?_
    refine Run.bH (e := vB) (gv := vB) (by kernel_rfl) (by kernel_rfl) (ok_spec_ValidProjection _) (fun _ => rfl) fun r1 => ?_
    refine Run.p [true] (by kernel_rfl) ?_
    exact Run.rh (k := 1) (by kernel_rfl) (by kernel_rfl)
  · refine Run.p [false, false, false, false] (by kernel_rfl) ?_
    exact Run.rh (k := 1) (by kernel_rfl) (by kernel_rfl)

theorem ok_spec_l11Wrap (a0 : I64) : Fun Tryz.prog 62 [] #[vI a0] (vI (F_spec_l11Wrap a0)) [] := by
  refine Fun.ofH 400 E_ok mixed Tryz.func62 (by kernel_rfl) (by kernel_rfl) ?_
  unfold F_spec_l11Wrap
  refine Run.p [true] (by kernel_rfl) ?_
  refine Run.jH (gv := vI) (by kernel_rfl) (?_) (?_)
  · refine Run.jH (gv := vI) (by kernel_rfl) (?_) (?_)
    · exact Run.rh (k := 0) (by kernel_rfl) (by kernel_rfl)
    · exact Run.rh (k := 0) (by kernel_rfl) (by kernel_rfl)
  · refine Run.jH (gv := vI) (by kernel_rfl) (?_) (?_)
    · exact Run.rh (k := 0) (by kernel_rfl) (by kernel_rfl)
    · exact Run.rh (k := 0) (by kernel_rfl) (by kernel_rfl)

theorem ok_spec_l21Edge__pPj (b0 : Pj) (a0 : Pt) : Fun Tryz.prog 41 [(#[.int .i64 b0.kind.val, .int .i64 b0.lat0.val, .int .i64 b0.lon0.val, .int .i64 b0.lat1.val, .int .i64 b0.lat2.val], 37)] #[.pointer (some ⟨0, 0, none⟩), vPt a0] (vB (F_spec_l21Edge__pPj b0 a0)) [(#[.int .i64 b0.kind.val, .int .i64 b0.lat0.val, .int .i64 b0.lon0.val, .int .i64 b0.lat1.val, .int .i64 b0.lat2.val], 37)] := by
  refine Fun.ofH 400 E_ok mixed Tryz.func41 (by kernel_rfl) (by kernel_rfl) ?_
  unfold F_spec_l21Edge__pPj
  refine Run.bH (e := vI) (gv := vB) (by kernel_rfl) (by kernel_rfl) (ok_spec_l11Wrap _) (fun _ => rfl) fun r1 => ?_
  refine Run.jH (gv := vB) (by kernel_rfl) (?_) (?_)
  · refine Run.p [true, true] (by kernel_rfl) ?_
    refine Run.jH (gv := vB) (by kernel_rfl) (?_) (?_)
    · refine Run.p [true, true, true, true] (by kernel_rfl) ?_
      exact Run.rh (k := 1) (by kernel_rfl) (by kernel_rfl)
    · refine Run.p [false, true, false, true] (by kernel_rfl) ?_
      exact Run.rh (k := 1) (by kernel_rfl) (by kernel_rfl)
  · refine Run.p [false, false, false, false] (by kernel_rfl) ?_
    exact Run.rh (k := 1) (by kernel_rfl) (by kernel_rfl)

theorem ok_spec_RadiansOf_r : ∀ (fu : Nat) (a0 : I64) (hm : min (0 - a0.val).toNat 1 < fu), Fun Tryz.prog 61 [] #[vI a0] (vIv (F_spec_RadiansOf_r fu a0)) [] := by
  intro fu
  induction fu with
  | zero => intro a0 hm; exact absurd hm (Nat.not_lt_zero _)
  | succ fu ih =>
    intro a0 hm
    refine Fun.ofH 400 E_ok mixed Tryz.func61 (by kernel_rfl) (by kernel_rfl) ?_
    unfold F_spec_RadiansOf_r
    unfold F_spec_RadiansOf_b
    refine Run.bk (e := vB) (gv := vIv) (by kernel_rfl) (by kernel_rfl) (ok_spec_l00In _ _ _) (fun _ => rfl) fun r1 hr1 => ?_
    refine Run.jk (gv := vIv) (by kernel_rfl) (fun h2 => ?_) (fun h2 => ?_)
    · refine Run.bk (e := vIv) (gv := vIv) (by kernel_rfl) (by kernel_rfl) (ok_spec_Whole) (fun _ => rfl) fun r3 hr3 => ?_
      exact Run.rh (k := 0) (by kernel_rfl) (by kernel_rfl)
    · refine Run.jk (gv := vIv) (by kernel_rfl) (fun h4 => ?_) (fun h4 => ?_)
      · exact Run.rh (k := 0) (by kernel_rfl) (by kernel_rfl)
      · refine Run.jk (gv := vIv) (by kernel_rfl) (fun h5 => ?_) (fun h5 => ?_)
        · refine Run.bk (e := vIv) (gv := vIv) (by kernel_rfl) (by kernel_rfl) (ih (w64 (0 - a0.val)) (by rw [hr1] at h2; simp [F_spec_l00In, c64_val] at h2; simp only [w64_val, decide_eq_true_eq, decide_eq_false_iff_not] at *; omega)) (fun _ => rfl) fun r6 hr6 => ?_
          refine Run.bk (e := vIv) (gv := vIv) (by kernel_rfl) (by kernel_rfl) (ok_spec_NegI _) (fun _ => rfl) fun r7 hr7 => ?_
          exact Run.rh (k := 0) (by kernel_rfl) (by kernel_rfl)
        · refine Run.bk (e := vT_I_B) (gv := vIv) (by kernel_rfl) (by kernel_rfl) (ok_spec_MulDivFloor _ _ _) (fun _ => rfl) fun r8 hr8 => ?_
          refine Run.bk (e := vT_I_B) (gv := vIv) (by kernel_rfl) (by kernel_rfl) (ok_spec_MulDivFloor _ _ _) (fun _ => rfl) fun r9 hr9 => ?_
          exact Run.rh (k := 0) (by kernel_rfl) (by kernel_rfl)
theorem ok_spec_RadiansOf (a0 : I64) : Fun Tryz.prog 61 [] #[vI a0] (vIv (F_spec_RadiansOf a0)) [] := ok_spec_RadiansOf_r 2 a0 (by omega)

theorem ok_spec_CosI (a0 : Iv) : Fun Tryz.prog 105 [] #[vIv a0] (vIv (F_spec_CosI a0)) [] := by
  refine Fun.ofH 400 E_ok mixed Tryz.func105 (by kernel_rfl) (by kernel_rfl) ?_
  unfold F_spec_CosI
  refine Run.bH (e := vIv) (gv := vIv) (by kernel_rfl) (by kernel_rfl) (ok_spec_l06Over _ _) (fun _ => rfl) fun r1 => ?_
  exact Run.rh (k := 0) (by kernel_rfl) (by kernel_rfl)

theorem ok_spec_l21Turn__pPj (b0 : Pj) (a0 : Pt) : Fun Tryz.prog 106 [(#[.int .i64 b0.kind.val, .int .i64 b0.lat0.val, .int .i64 b0.lon0.val, .int .i64 b0.lat1.val, .int .i64 b0.lat2.val], 37)] #[.pointer (some ⟨0, 0, none⟩), vPt a0] (vIv (F_spec_l21Turn__pPj b0 a0)) [(#[.int .i64 b0.kind.val, .int .i64 b0.lat0.val, .int .i64 b0.lon0.val, .int .i64 b0.lat1.val, .int .i64 b0.lat2.val], 37)] := by
  refine Fun.ofH 400 E_ok mixed Tryz.func106 (by kernel_rfl) (by kernel_rfl) ?_
  unfold F_spec_l21Turn__pPj
  refine Run.bH (e := vI) (gv := vIv) (by kernel_rfl) (by kernel_rfl) (ok_spec_l11Wrap _) (fun _ => rfl) fun r1 => ?_
  refine Run.bH (e := vIv) (gv := vIv) (by kernel_rfl) (by kernel_rfl) (ok_spec_RadiansOf _) (fun _ => rfl) fun r2 => ?_
  exact Run.rh (k := 1) (by kernel_rfl) (by kernel_rfl)

theorem ok_spec_l21Side__pPj (b0 : Pj) (a0 : Pt) : Fun Tryz.prog 48 [(#[.int .i64 b0.kind.val, .int .i64 b0.lat0.val, .int .i64 b0.lon0.val, .int .i64 b0.lat1.val, .int .i64 b0.lat2.val], 37)] #[.pointer (some ⟨0, 0, none⟩), vPt a0] (vIv (F_spec_l21Side__pPj b0 a0)) [(#[.int .i64 b0.kind.val, .int .i64 b0.lat0.val, .int .i64 b0.lon0.val, .int .i64 b0.lat1.val, .int .i64 b0.lat2.val], 37)] := by
  refine Fun.ofH 400 E_ok mixed Tryz.func48 (by kernel_rfl) (by kernel_rfl) ?_
  unfold F_spec_l21Side__pPj
  refine Run.bH (e := vIv) (gv := vIv) (by kernel_rfl) (by kernel_rfl) (ok_spec_RadiansOf _) (fun _ => rfl) fun r1 => ?_
  refine Run.bH (e := vIv) (gv := vIv) (by kernel_rfl) (by kernel_rfl) (ok_spec_CosI _) (fun _ => rfl) fun r2 => ?_
  refine Run.sb (e := vIv) (gv := vIv) [0] (by kernel_rfl) (by kernel_rfl) (by kernel_rfl) (by decide) (by kernel_rfl) (ok_spec_l21Turn__pPj _ _) (fun _ => rfl) fun r3 => ?_
  refine Run.bH (e := vIv) (gv := vIv) (by kernel_rfl) (by kernel_rfl) (ok_spec_SinI _) (fun _ => rfl) fun r4 => ?_
  refine Run.bH (e := vIv) (gv := vIv) (by kernel_rfl) (by kernel_rfl) (ok_spec_MulI _ _) (fun _ => rfl) fun r5 => ?_
  exact Run.rh (k := 1) (by kernel_rfl) (by kernel_rfl)

theorem ok_spec_l02Root_L0 : ∀ (fu : Nat) (a0 : Wd) (x_out : U64) (x_i : I64) (q0 : x_i.val ≤ 63) (hm : (x_i.val + 1).toNat < fu) (t : Array Value) (ht : maskA t [0, 5, 6, 7, 8, 9, 10, 11, 12, 13, 14, 15, 16, 17, 18, 19, 20, 21, 22, 23, 24, 25, 26, 27, 28, 29, 30, 31, 32, 33, 34, 35, 36, 37, 38, 39, 40, 41, 42] = #[undef, .pointer (some ⟨0, 0, none⟩), .int .u64 0, .int .u64 x_out.val, .int .i64 x_i.val, undef, undef, undef, undef, undef, undef, undef, undef, undef, undef, undef, undef, undef, undef, undef, undef, undef, undef, undef, undef, undef, undef, undef, undef, undef, undef, undef, undef, undef, undef, undef, undef, undef, undef, undef, undef, undef, undef]), Cfg Tryz.prog 173 (loopAt Tryz.f173 0) t [(#[.int .i64 a0.hi.val, .int .u64 a0.lo.val], 87)] (RvH [] (vU (F_spec_l02Root_L0 fu a0 x_out x_i))) := by
  intro fu
  induction fu with
  | zero => intro a0 x_out x_i q0 hm; exact absurd hm (Nat.not_lt_zero _)
  | succ fu ih =>
    intro a0 x_out x_i q0 hm t ht
    refine Cfg.round E_ok mixed Tryz.func173 ht fun g => ?_
    unfold F_spec_l02Root_L0
    refine Run.jk (gv := vU) (by kernel_rfl) (fun h1 => ?_) (fun h1 => ?_)
    · refine Run.k (c := (decide (0 ≤ (wu64 x_i.val).val))) (by kernel_rfl) (by simp only [w64_val, wu64_val, c64_val, cu64_val, decide_eq_true_eq] at *; omega) ?_
      refine Run.bk (e := vT_U_U) (gv := vU) (by kernel_rfl) (by kernel_rfl) (ok_spec_l02Times _ _) (fun _ => rfl) fun r2 hr2 => ?_
      refine Run.jk (gv := vU) (by kernel_rfl) (fun h3 => ?_) (fun h3 => ?_)
      · refine Run.p [true, true, true, true, true, true, true, true] (by kernel_rfl) ?_
        exact Run.l (by kernel_rfl) (by kernel_rfl) (by kernel_rfl) (by kernel_rfl) (ih a0 (ior .u64 x_out.val (ishl .u64 1 (wu64 x_i.val).val).val) (w64 (x_i.val - 1)) (by have q1 := x_i.lo; simp only [w64_val, wu64_val, c64_val, cu64_val, decide_eq_true_eq] at *; omega) (by have q1 := x_i.lo; simp only [w64_val, wu64_val, c64_val, cu64_val, decide_eq_true_eq] at *; omega))
      · refine Run.p [false, false, false, false, false] (by kernel_rfl) ?_
        refine Run.jk (gv := vU) (by kernel_rfl) (fun h4 => ?_) (fun h4 => ?_)
        · refine Run.p [true, true, true, false, true, false] (by kernel_rfl) ?_
          refine Run.jk (gv := vU) (by kernel_rfl) (fun h5 => ?_) (fun h5 => ?_)
          · exact Run.l (by kernel_rfl) (by kernel_rfl) (by kernel_rfl) (by kernel_rfl) (ih a0 (ior .u64 x_out.val (ishl .u64 1 (wu64 x_i.val).val).val) (w64 (x_i.val - 1)) (by have q1 := x_i.lo; simp only [w64_val, wu64_val, c64_val, cu64_val, decide_eq_true_eq] at *; omega) (by have q1 := x_i.lo; simp only [w64_val, wu64_val, c64_val, cu64_val, decide_eq_true_eq] at *; omega))
          · exact Run.l (by kernel_rfl) (by kernel_rfl) (by kernel_rfl) (by kernel_rfl) (ih a0 x_out (w64 (x_i.val - 1)) (by have q1 := x_i.lo; simp only [w64_val, wu64_val, c64_val, cu64_val, decide_eq_true_eq] at *; omega) (by have q1 := x_i.lo; simp only [w64_val, wu64_val, c64_val, cu64_val, decide_eq_true_eq] at *; omega))
        · refine Run.p [false, false, false, false, false, false, false] (by kernel_rfl) ?_
          exact Run.l (by kernel_rfl) (by kernel_rfl) (by kernel_rfl) (by kernel_rfl) (ih a0 x_out (w64 (x_i.val - 1)) (by have q1 := x_i.lo; simp only [w64_val, wu64_val, c64_val, cu64_val, decide_eq_true_eq] at *; omega) (by have q1 := x_i.lo; simp only [w64_val, wu64_val, c64_val, cu64_val, decide_eq_true_eq] at *; omega))
    · exact Run.rh (k := 0) (by kernel_rfl) (by kernel_rfl)

theorem ok_spec_l02Root (a0 : Wd) : Fun Tryz.prog 173 [] #[vWd a0] (vU (F_spec_l02Root a0)) [] := by
  refine Fun.ofH 400 E_ok mixed Tryz.func173 (by kernel_rfl) (by kernel_rfl) ?_
  unfold F_spec_l02Root
  exact Run.l (by kernel_rfl) (by kernel_rfl) (by kernel_rfl) (by kernel_rfl) (ok_spec_l02Root_L0 65 a0 (cu64 0) (c64 63) (by decide) (by decide))

theorem ok_spec_SqrtFloor (a0 : I64) (a1 : I64) : Fun Tryz.prog 145 [] #[vI a0, vI a1] (vT_I_B (F_spec_SqrtFloor a0 a1)) [] := by
  refine Fun.ofH 400 E_ok mixed Tryz.func145 (by kernel_rfl) (by kernel_rfl) ?_
  unfold F_spec_SqrtFloor
  refine Run.jH (gv := vT_I_B) (by kernel_rfl) (?_) (?_)
  · refine Run.p [true, true, true] (by kernel_rfl) ?_
    exact Run.rh (k := 0) (by kernel_rfl) (by kernel_rfl)
  · refine Run.p [false, false] (by kernel_rfl) ?_
    refine Run.jH (gv := vT_I_B) (by kernel_rfl) (?_) (?_)
    · exact Run.rh (k := 0) (by kernel_rfl) (by kernel_rfl)
    · refine Run.bH (e := vWd) (gv := vT_I_B) (by kernel_rfl) (by kernel_rfl) (ok_spec_l02Mul _ _) (fun _ => rfl) fun r1 => ?_
      refine Run.bH (e := vU) (gv := vT_I_B) (by kernel_rfl) (by kernel_rfl) (ok_spec_l02Root _) (fun _ => rfl) fun r2 => ?_
      exact Run.rh (k := 0) (by kernel_rfl) (by kernel_rfl)

theorem ok_spec_l03SqrtDown (a0 : I64) : Fun Tryz.prog 102 [] #[vI a0] (vT_I_B (F_spec_l03SqrtDown a0)) [] := by
  refine Fun.ofH 400 E_ok mixed Tryz.func102 (by kernel_rfl) (by kernel_rfl) ?_
  unfold F_spec_l03SqrtDown
  refine Run.bH (e := vB) (gv := vT_I_B) (by kernel_rfl) (by kernel_rfl) (ok_spec_l00In _ _ _) (fun _ => rfl) fun r1 => ?_
  refine Run.jH (gv := vT_I_B) (by kernel_rfl) (?_) (?_)
  · exact Run.rh (k := 0) (by kernel_rfl) (by kernel_rfl)
  · refine Run.bH (e := vT_I_B) (gv := vT_I_B) (by kernel_rfl) (by kernel_rfl) (ok_spec_SqrtFloor _ _) (fun _ => rfl) fun r2 => ?_
    exact Run.rh (k := 0) (by kernel_rfl) (by kernel_rfl)

theorem ok_spec_l03SqrtUp (a0 : I64) : Fun Tryz.prog 103 [] #[vI a0] (vT_I_B (F_spec_l03SqrtUp a0)) [] := by
  refine Fun.ofH 400 E_ok mixed Tryz.func103 (by kernel_rfl) (by kernel_rfl) ?_
  unfold F_spec_l03SqrtUp
  refine Run.bH (e := vT_I_B) (gv := vT_I_B) (by kernel_rfl) (by kernel_rfl) (ok_spec_l03SqrtDown _) (fun _ => rfl) fun r1 => ?_
  refine Run.jH (gv := vT_I_B) (by kernel_rfl) (?_) (?_)
  · exact Run.rh (k := 0) (by kernel_rfl) (by kernel_rfl)
  · refine Run.bH (e := vT_I_B) (gv := vT_I_B) (by kernel_rfl) (by kernel_rfl) (ok_spec_MulFloor _ _ _) (fun _ => rfl) fun r2 => ?_
    refine Run.jH (gv := vT_I_B) (by kernel_rfl) (?_) (?_)
    · refine Run.p [true, true, true, true, true, true] (by kernel_rfl) ?_
      exact Run.rh (k := 0) (by kernel_rfl) (by kernel_rfl)
    · refine Run.p [false, false, false, false, false] (by kernel_rfl) ?_
      refine Run.jH (gv := vT_I_B) (by kernel_rfl) (?_) (?_)
      · exact Run.rh (k := 0) (by kernel_rfl) (by kernel_rfl)
      · exact Run.rh (k := 0) (by kernel_rfl) (by kernel_rfl)

theorem ok_spec_SqrtI (a0 : Iv) : Fun Tryz.prog 45 [] #[vIv a0] (vIv (F_spec_SqrtI a0)) [] := by
  refine Fun.ofH 400 E_ok mixed Tryz.func45 (by kernel_rfl) (by kernel_rfl) ?_
  unfold F_spec_SqrtI
  refine Run.bH (e := vB) (gv := vIv) (by kernel_rfl) (by kernel_rfl) (ok_spec_l04Ok _) (fun _ => rfl) fun r1 => ?_
  refine Run.jH (gv := vIv) (by kernel_rfl) (?_) (?_)
  · refine Run.p [true, true, true, true] (by kernel_rfl) ?_
    refine Run.bH (e := vIv) (gv := vIv) (by kernel_rfl) (by kernel_rfl) (ok_spec_l04Whole) (fun _ => rfl) fun r2 => ?_
    exact Run.rh (k := 0) (by kernel_rfl) (by kernel_rfl)
  · refine Run.p [false, false, false] (by kernel_rfl) ?_
    refine Run.jH (gv := vIv) (by kernel_rfl) (?_) (?_)
    · refine Run.bH (e := vIv) (gv := vIv) (by kernel_rfl) (by kernel_rfl) (ok_spec_l04Whole) (fun _ => rfl) fun r3 => ?_
      exact Run.rh (k := 0) (by kernel_rfl) (by kernel_rfl)
    · refine Run.bH (e := vT_I_B) (gv := vIv) (by kernel_rfl) (by kernel_rfl) (ok_spec_l03SqrtDown _) (fun _ => rfl) fun r4 => ?_
      refine Run.bH (e := vT_I_B) (gv := vIv) (by kernel_rfl) (by kernel_rfl) (ok_spec_l03SqrtUp _) (fun _ => rfl) fun r5 => ?_
      refine Run.bH (e := vIv) (gv := vIv) (by kernel_rfl) (by kernel_rfl) (ok_spec_l04Make _ _) (fun _ => rfl) fun r6 => ?_
      exact Run.rh (k := 0) (by kernel_rfl) (by kernel_rfl)

theorem ok_spec_IsWhole (a0 : Iv) : Fun Tryz.prog 63 [] #[vIv a0] (vB (F_spec_IsWhole a0)) [] := by
  refine Fun.ofH 400 E_ok mixed Tryz.func63 (by kernel_rfl) (by kernel_rfl) ?_
  unfold F_spec_IsWhole
  refine Run.bH (e := vB) (gv := vB) (by kernel_rfl) (by kernel_rfl) (ok_spec_l04Ok _) (fun _ => rfl) fun r1 => ?_
  exact Run.rh (k := 0) (by kernel_rfl) (by kernel_rfl)

theorem ok_spec_l15Known (a0 : Iv) : Fun Tryz.prog 42 [] #[vIv a0] (vT_Iv_I (F_spec_l15Known a0)) [] := by
  refine Fun.ofH 400 E_ok mixed Tryz.func42 (by kernel_rfl) (by kernel_rfl) ?_
  unfold F_spec_l15Known
  refine Run.bH (e := vB) (gv := vT_Iv_I) (by kernel_rfl) (by kernel_rfl) (ok_spec_IsWhole _) (fun _ => rfl) fun r1 => ?_
  refine Run.jH (gv := vT_Iv_I) (by kernel_rfl) (?_) (?_)
  · exact Run.rh (k := 0) (by kernel_rfl) (by kernel_rfl)
  · exact Run.rh (k := 0) (by kernel_rfl) (by kernel_rfl)

theorem ok_spec_TransverseScale (a0 : Pj) (a1 : Pt) : Fun Tryz.prog 17 [] #[vPj a0, vPt a1] (vT_Iv_I (F_spec_TransverseScale a0 a1)) [] := by
  refine Fun.ofH 400 E_ok mixed Tryz.func17 (by kernel_rfl) (by kernel_rfl) ?_
  unfold F_spec_TransverseScale
  refine Run.sb (e := vB) (gv := vT_Iv_I) [0] (by kernel_rfl) (by kernel_rfl) (by kernel_rfl) (by decide) (by kernel_rfl) (ok_spec_l21Ok__pPj _) (fun _ => rfl) fun r1 => ?_
  refine Run.jH (gv := vT_Iv_I) (by kernel_rfl) (?_) (?_)
  · refine Run.p [true, true, true, true] (by kernel_rfl) ?_
    exact Run.rh (k := 0) (by kernel_rfl) (by kernel_rfl)
  · refine Run.p [false] (by kernel_rfl) ?_
    refine Run.bH (e := vB) (gv := vT_Iv_I) (by kernel_rfl) (by kernel_rfl) (ok_spec_l11Ok _) (fun _ => rfl) fun r2 => ?_
    refine Run.p [false, false] (by kernel_rfl) ?_
    refine Run.jH (gv := vT_Iv_I) (by kernel_rfl) (?_) (?_)
    · exact Run.rh (k := 0) (by kernel_rfl) (by kernel_rfl)
    · refine Run.sb (e := vB) (gv := vT_Iv_I) [0] (by kernel_rfl) (by kernel_rfl) (by kernel_rfl) (by decide) (by kernel_rfl) (ok_spec_l21Edge__pPj _ _) (fun _ => rfl) fun r3 => ?_
      refine Run.jH (gv := vT_Iv_I) (by kernel_rfl) (?_) (?_)
      · exact Run.rh (k := 0) (by kernel_rfl) (by kernel_rfl)
      · refine Run.bH (e := vIv) (gv := vT_Iv_I) (by kernel_rfl) (by kernel_rfl) (ok_spec_Integer _) (fun _ => rfl) fun r4 => ?_
        refine Run.bH (e := vIv) (gv := vT_Iv_I) (by kernel_rfl) (by kernel_rfl) (ok_spec_Integer _) (fun _ => rfl) fun r5 => ?_
        refine Run.sb (e := vIv) (gv := vT_Iv_I) [0] (by kernel_rfl) (by kernel_rfl) (by kernel_rfl) (by decide) (by kernel_rfl) (ok_spec_l21Side__pPj _ _) (fun _ => rfl) fun r6 => ?_
        refine Run.bH (e := vIv) (gv := vT_Iv_I) (by kernel_rfl) (by kernel_rfl) (ok_spec_SqrI _) (fun _ => rfl) fun r7 => ?_
        refine Run.bH (e := vIv) (gv := vT_Iv_I) (by kernel_rfl) (by kernel_rfl) (ok_spec_SubI _ _) (fun _ => rfl) fun r8 => ?_
        refine Run.bH (e := vIv) (gv := vT_Iv_I) (by kernel_rfl) (by kernel_rfl) (ok_spec_SqrtI _) (fun _ => rfl) fun r9 => ?_
        refine Run.bH (e := vIv) (gv := vT_Iv_I) (by kernel_rfl) (by kernel_rfl) (ok_spec_DivI _ _) (fun _ => rfl) fun r10 => ?_
        refine Run.bH (e := vT_Iv_I) (gv := vT_Iv_I) (by kernel_rfl) (by kernel_rfl) (ok_spec_l15Known _) (fun _ => rfl) fun r11 => ?_
        exact Run.rh (k := 0) (by kernel_rfl) (by kernel_rfl)

theorem ok_impl_ValidPoint (a0 : Pt) : Fun Tryz.prog 65 [] #[vPt a0] (vB (F_impl_ValidPoint a0)) [] := by
  refine Fun.ofH 400 E_ok mixed Tryz.func65 (by kernel_rfl) (by kernel_rfl) ?_
  unfold F_impl_ValidPoint
  refine Run.bH (e := vB) (gv := vB) (by kernel_rfl) (by kernel_rfl) (ok_impl_within _ _ _) (fun _ => rfl) fun r1 => ?_
  refine Run.jH (gv := vB) (by kernel_rfl) (?_) (?_)
  · refine Run.p [true, true, true] (by kernel_rfl) ?_
    refine Run.jH (gv := vB) (by kernel_rfl) (?_) (?_)
    · refine Run.p [true, true, true] (by kernel_rfl) ?_
      exact Run.rh (k := 0) (by kernel_rfl) (by kernel_rfl)
    · refine Run.p [false, false, false] (by kernel_rfl) ?_
      exact Run.rh (k := 0) (by kernel_rfl) (by kernel_rfl)
  · refine Run.p [false, false, false, false, false, false, false] (by kernel_rfl) ?_
    exact Run.rh (k := 0) (by kernel_rfl) (by kernel_rfl)

theorem ok_impl_isStandard (a0 : I64) : Fun Tryz.prog 152 [] #[vI a0] (vB (F_impl_isStandard a0)) [] := by
  refine Fun.ofH 400 E_ok mixed Tryz.func152 (by kernel_rfl) (by kernel_rfl) ?_
  unfold F_impl_isStandard
  refine Run.bH (e := vB) (gv := vB) (by kernel_rfl) (by kernel_rfl) (ok_impl_within _ _ _) (fun _ => rfl) fun r1 => ?_
  exact Run.rh (k := 0) (by kernel_rfl) (by kernel_rfl)

theorem ok_impl_isAzimuthal (a0 : I64) : Fun Tryz.prog 153 [] #[vI a0] (vB (F_impl_isAzimuthal a0)) [] := by
  refine Fun.ofH 400 E_ok mixed Tryz.func153 (by kernel_rfl) (by kernel_rfl) ?_
  unfold F_impl_isAzimuthal
  refine Run.bH (e := vB) (gv := vB) (by kernel_rfl) (by kernel_rfl) (ok_impl_within _ _ _) (fun _ => rfl) fun r1 => ?_
  exact Run.rh (k := 0) (by kernel_rfl) (by kernel_rfl)

theorem ok_impl_isConic (a0 : I64) : Fun Tryz.prog 154 [] #[vI a0] (vB (F_impl_isConic a0)) [] := by
  refine Fun.ofH 400 E_ok mixed Tryz.func154 (by kernel_rfl) (by kernel_rfl) ?_
  unfold F_impl_isConic
  refine Run.bH (e := vB) (gv := vB) (by kernel_rfl) (by kernel_rfl) (ok_impl_within _ _ _) (fun _ => rfl) fun r1 => ?_
  exact Run.rh (k := 0) (by kernel_rfl) (by kernel_rfl)

theorem ok_impl_ValidProjection (a0 : Pj) : Fun Tryz.prog 124 [] #[vPj a0] (vB (F_impl_ValidProjection a0)) [] := by
  refine Fun.ofH 400 E_ok mixed Tryz.func124 (by kernel_rfl) (by kernel_rfl) ?_
  unfold F_impl_ValidProjection
  refine Run.bH (e := vB) (gv := vB) (by kernel_rfl) (by kernel_rfl) (ok_impl_within _ _ _) (fun _ => rfl) fun r1 => ?_
  refine Run.jH (gv := vB) (by kernel_rfl) (?_) (?_)
  · refine Run.p [true, true, true, true, true, true, true, true, true, true, true, true, true, true, true, true, true, true] (by kernel_rfl) ?_
    exact Run.rh (k := 0) (by kernel_rfl) (by kernel_rfl)
  · refine Run.p [false, false, false, false, false] (by kernel_rfl) ?_
    refine Run.bH (e := vB) (gv := vB) (by kernel_rfl) (by kernel_rfl) (ok_impl_ValidPoint _) (fun _ => rfl) fun r2 => ?_
    refine Run.p [false, false] (by kernel_rfl) ?_
    refine Run.jH (gv := vB) (by kernel_rfl) (?_) (?_)
    · refine Run.p [true, true, true, true, true, true, true, true, true, true] (by kernel_rfl) ?_
      exact Run.rh (k := 0) (by kernel_rfl) (by kernel_rfl)
    · refine Run.p [false, false] (by kernel_rfl) ?_
      refine Run.bH (e := vB) (gv := vB) (by kernel_rfl) (by kernel_rfl) (ok_impl_isStandard _) (fun _ => rfl) fun r3 => ?_
      refine Run.p [false, false] (by kernel_rfl) ?_
      refine Run.jH (gv := vB) (by kernel_rfl) (?_) (?_)
      · refine Run.p [true, true, true, true, true] (by kernel_rfl) ?_
        exact Run.rh (k := 0) (by kernel_rfl) (by kernel_rfl)
      · refine Run.p [false, false] (by kernel_rfl) ?_
        refine Run.bH (e := vB) (gv := vB) (by kernel_rfl) (by kernel_rfl) (ok_impl_isStandard _) (fun _ => rfl) fun r4 => ?_
        refine Run.p [false, false] (by kernel_rfl) ?_
        refine Run.jH (gv := vB) (by kernel_rfl) (?_) (?_)
        · exact Run.rh (k := 0) (by kernel_rfl) (by kernel_rfl)
        · refine Run.bH (e := vB) (gv := vB) (by kernel_rfl) (by kernel_rfl) (ok_impl_isAzimuthal _) (fun _ => rfl) fun r5 => ?_
          refine Run.jH (gv := vB) (by kernel_rfl) (?_) (?_)
          · refine Run.p [true, true, true, true, true, true, true] (by kernel_rfl) ?_
            refine Run.bH (e := vB) (gv := vB) (by kernel_rfl) (by kernel_rfl) (ok_impl_isConic _) (fun _ => rfl) fun r6 => ?_
            refine Run.jH (gv := vB) (by kernel_rfl) (?_) (?_)
            · refine Run.p [true, true, true, true, true, true, true, false, false, false, false, false, false, false, false, false, false, false, false, false, false, false, false] (by kernel_rfl) ?_
              refine Run.bH (e := vB) (gv := vB) (by kernel_rfl) (by kernel_rfl) (ok_impl_isConic _) (fun _ => rfl) fun r7 => ?_
              refine Run.p [false, false] (by kernel_rfl) ?_
              refine Run.jH (gv := vB) (by kernel_rfl) (?_) (?_)
              · refine Run.p [true, true, false, true, false] (by kernel_rfl) ?_
                refine Run.jH (gv := vB) (by kernel_rfl) (?_) (?_)
                · exact Run.rh (k := 0) (by kernel_rfl) (by kernel_rfl)
                · refine Run.bH (e := vB) (gv := vB) (by kernel_rfl) (by kernel_rfl) (ok_impl_isConic _) (fun _ => rfl) fun r8 => ?_
                  refine Run.jH (gv := vB) (by kernel_rfl) (?_) (?_)
                  · refine Run.p [true, true, true, true, true, true, true] (by kernel_rfl) ?_
                    exact Run.rh (k := 0) (by kernel_rfl) (by kernel_rfl)
                  · refine Run.p [false, false, false, false, false] (by kernel_rfl) ?_
                    refine Run.bH (e := vI) (gv := vB) (by kernel_rfl) (by kernel_rfl) (ok_impl_abs _) (fun _ => rfl) fun r9 => ?_
                    refine Run.p [false, false] (by kernel_rfl) ?_
                    exact Run.rh (k := 0) (by kernel_rfl) (by kernel_rfl)
              · refine Run.p [false, false, false, false, false, false] (by kernel_rfl) ?_
                refine Run.bH (e := vB) (gv := vB) (by kernel_rfl) (by kernel_rfl) (ok_impl_isConic _) (fun _ => rfl) fun r10 => ?_
                refine Run.jH (gv := vB) (by kernel_rfl) (?_) (?_)
                · refine Run.p [true, true, true, true, true, true, true] (by kernel_rfl) ?_
                  exact Run.rh (k := 0) (by kernel_rfl) (by kernel_rfl)
                · refine Run.p [false, false, false, false, false] (by kernel_rfl) ?_
                  refine Run.bH (e := vI) (gv := vB) (by kernel_rfl) (by kernel_rfl) (ok_impl_abs _) (fun _ => rfl) fun r11 => ?_
                  refine Run.p [false, false] (by kernel_rfl) ?_
                  exact Run.rh (k := 0) (by kernel_rfl) (by kernel_rfl)
            · refine Run.p [false, false, false] (by kernel_rfl) ?_
              refine Run.jH (gv := vB) (by kernel_rfl) (?_) (?_)
              · refine Run.p [true, true, true, false, false, false, false, false, false, false, false, false, false, false, false, false, false, false, false] (by kernel_rfl) ?_
                refine Run.bH (e := vB) (gv := vB) (by kernel_rfl) (by kernel_rfl) (ok_impl_isConic _) (fun _ => rfl) fun r12 => ?_
                refine Run.p [false, false] (by kernel_rfl) ?_
                refine Run.jH (gv := vB) (by kernel_rfl) (?_) (?_)
                · refine Run.p [true, true, false, true, false] (by kernel_rfl) ?_
                  refine Run.jH (gv := vB) (by kernel_rfl) (?_) (?_)
                  · exact Run.rh (k := 0) (by kernel_rfl) (by kernel_rfl)
                  · refine Run.bH (e := vB) (gv := vB) (by kernel_rfl) (by kernel_rfl) (ok_impl_isConic _) (fun _ => rfl) fun r13 => ?_
                    refine Run.jH (gv := vB) (by kernel_rfl) (?_) (?_)
                    · refine Run.p [true, true, true, true, true, true, true] (by kernel_rfl) ?_
                      exact Run.rh (k := 0) (by kernel_rfl) (by kernel_rfl)
                    · refine Run.p [false, false, false, false, false] (by kernel_rfl) ?_
                      refine Run.bH (e := vI) (gv := vB) (by kernel_rfl) (by kernel_rfl) (ok_impl_abs _) (fun _ => rfl) fun r14 => ?_
                      refine Run.p [false, false] (by kernel_rfl) ?_
                      exact Run.rh (k := 0) (by kernel_rfl) (by kernel_rfl)
                · refine Run.p [false, false, false, false, false, false] (by kernel_rfl) ?_
                  refine Run.bH (e := vB) (gv := vB) (by kernel_rfl) (by kernel_rfl) (ok_impl_isConic _) (fun _ => rfl) fun r15 => ?_
                  refine Run.jH (gv := vB) (by kernel_rfl) (?_) (?_)
                  · refine Run.p [true, true, true, true, true, true, true] (by kernel_rfl) ?_
                    exact Run.rh (k := 0) (by kernel_rfl) (by kernel_rfl)
                  · refine Run.p [false, false, false, false, false] (by kernel_rfl) ?_
                    refine Run.bH (e := vI) (gv := vB) (by kernel_rfl) (by kernel_rfl) (ok_impl_abs _) (fun _ => rfl) fun r16 => ?_
                    refine Run.p [false, false] (by kernel_rfl) ?_
                    exact Run.rh (k := 0) (by kernel_rfl) (by kernel_rfl)
              · refine Run.p [false, false, false, false, false, false, false, false, false, false] (by kernel_rfl) ?_
                refine Run.jH (gv := vB) (by kernel_rfl) (?_) (?_)
                · refine Run.p [true, true, false, true, false] (by kernel_rfl) ?_
                  refine Run.jH (gv := vB) (by kernel_rfl) (?_) (?_)
                  · refine Run.p [true, true, true, true, true, true, true] (by kernel_rfl) ?_
                    exact Run.rh (k := 0) (by kernel_rfl) (by kernel_rfl)
                  · refine Run.p [false, false] (by kernel_rfl) ?_
                    refine Run.bH (e := vB) (gv := vB) (by kernel_rfl) (by kernel_rfl) (ok_impl_isConic _) (fun _ => rfl) fun r17 => ?_
                    refine Run.p [false, false] (by kernel_rfl) ?_
                    refine Run.jH (gv := vB) (by kernel_rfl) (?_) (?_)
                    · refine Run.p [true, true, false, true, false] (by kernel_rfl) ?_
                      refine Run.jH (gv := vB) (by kernel_rfl) (?_) (?_)
                      · exact Run.rh (k := 0) (by kernel_rfl) (by kernel_rfl)
                      · refine Run.bH (e := vB) (gv := vB) (by kernel_rfl) (by kernel_rfl) (ok_impl_isConic _) (fun _ => rfl) fun r18 => ?_
                        refine Run.jH (gv := vB) (by kernel_rfl) (?_) (?_)
                        · refine Run.p [true, true, true, true, true, true, true] (by kernel_rfl) ?_
                          exact Run.rh (k := 0) (by kernel_rfl) (by kernel_rfl)
                        · refine Run.p [false, false, false, false, false] (by kernel_rfl) ?_
                          refine Run.bH (e := vI) (gv := vB) (by kernel_rfl) (by kernel_rfl) (ok_impl_abs _) (fun _ => rfl) fun r19 => ?_
                          refine Run.p [false, false] (by kernel_rfl) ?_
                          exact Run.rh (k := 0) (by kernel_rfl) (by kernel_rfl)
                    · refine Run.p [false, false, false, false, false, false] (by kernel_rfl) ?_
                      refine Run.bH (e := vB) (gv := vB) (by kernel_rfl) (by kernel_rfl) (ok_impl_isConic _) (fun _ => rfl) fun r20 => ?_
                      refine Run.jH (gv := vB) (by kernel_rfl) (?_) (?_)
                      · refine Run.p [true, true, true, true, true, true, true] (by kernel_rfl) ?_
                        exact Run.rh (k := 0) (by kernel_rfl) (by kernel_rfl)
                      · refine Run.p [false, false, false, false, false] (by kernel_rfl) ?_
                        refine Run.bH (e := vI) (gv := vB) (by kernel_rfl) (by kernel_rfl) (ok_impl_abs _) (fun _ => rfl) fun r21 => ?_
                        refine Run.p [false, false] (by kernel_rfl) ?_
                        exact Run.rh (k := 0) (by kernel_rfl) (by kernel_rfl)
                · refine Run.p [false, false, false, false, false, false, false, false] (by kernel_rfl) ?_
                  refine Run.bH (e := vB) (gv := vB) (by kernel_rfl) (by kernel_rfl) (ok_impl_isConic _) (fun _ => rfl) fun r22 => ?_
                  refine Run.p [false, false] (by kernel_rfl) ?_
                  refine Run.jH (gv := vB) (by kernel_rfl) (?_) (?_)
                  · refine Run.p [true, true, false, true, false] (by kernel_rfl) ?_
                    refine Run.jH (gv := vB) (by kernel_rfl) (?_) (?_)
                    · exact Run.rh (k := 0) (by kernel_rfl) (by kernel_rfl)
                    · refine Run.bH (e := vB) (gv := vB) (by kernel_rfl) (by kernel_rfl) (ok_impl_isConic _) (fun _ => rfl) fun r23 => ?_
                      refine Run.jH (gv := vB) (by kernel_rfl) (?_) (?_)
                      · refine Run.p [true, true, true, true, true, true, true] (by kernel_rfl) ?_
                        exact Run.rh (k := 0) (by kernel_rfl) (by kernel_rfl)
                      · refine Run.p [false, false, false, false, false] (by kernel_rfl) ?_
                        refine Run.bH (e := vI) (gv := vB) (by kernel_rfl) (by kernel_rfl) (ok_impl_abs _) (fun _ => rfl) fun r24 => ?_
                        refine Run.p [false, false] (by kernel_rfl) ?_
                        exact Run.rh (k := 0) (by kernel_rfl) (by kernel_rfl)
                  · refine Run.p [false, false, false, false, false, false] (by kernel_rfl) ?_
                    refine Run.bH (e := vB) (gv := vB) (by kernel_rfl) (by kernel_rfl) (ok_impl_isConic _) (fun _ => rfl) fun r25 => ?_
                    refine Run.jH (gv := vB) (by kernel_rfl) (?_) (?_)
                    · refine Run.p [true, true, true, true, true, true, true] (by kernel_rfl) ?_
                      exact Run.rh (k := 0) (by kernel_rfl) (by kernel_rfl)
                    · refine Run.p [false, false, false, false, false] (by kernel_rfl) ?_
                      refine Run.bH (e := vI) (gv := vB) (by kernel_rfl) (by kernel_rfl) (ok_impl_abs _) (fun _ => rfl) fun r26 => ?_
                      refine Run.p [false, false] (by kernel_rfl) ?_
                      exact Run.rh (k := 0) (by kernel_rfl) (by kernel_rfl)
          · refine Run.p [false, false] (by kernel_rfl) ?_
            refine Run.bH (e := vB) (gv := vB) (by kernel_rfl) (by kernel_rfl) (ok_impl_isConic _) (fun _ => rfl) fun r27 => ?_
            refine Run.p [false] (by kernel_rfl) ?_
            refine Run.jH (gv := vB) (by kernel_rfl) (?_) (?_)
            · refine Run.p [true, true, true] (by kernel_rfl) ?_
              refine Run.bH (e := vB) (gv := vB) (by kernel_rfl) (by kernel_rfl) (ok_impl_isConic _) (fun _ => rfl) fun r28 => ?_
              refine Run.jH (gv := vB) (by kernel_rfl) (?_) (?_)
              · refine Run.p [true, true, true, true, true, true, true, false, false, false, false, false, false, false, false, false, false, false, false, false, false, false, false] (by kernel_rfl) ?_
                refine Run.bH (e := vB) (gv := vB) (by kernel_rfl) (by kernel_rfl) (ok_impl_isConic _) (fun _ => rfl) fun r29 => ?_
                refine Run.p [false, false] (by kernel_rfl) ?_
                refine Run.jH (gv := vB) (by kernel_rfl) (?_) (?_)
                · refine Run.p [true, true, false, true, false] (by kernel_rfl) ?_
                  refine Run.jH (gv := vB) (by kernel_rfl) (?_) (?_)
                  · exact Run.rh (k := 0) (by kernel_rfl) (by kernel_rfl)
                  · refine Run.bH (e := vB) (gv := vB) (by kernel_rfl) (by kernel_rfl) (ok_impl_isConic _) (fun _ => rfl) fun r30 => ?_
                    refine Run.jH (gv := vB) (by kernel_rfl) (?_) (?_)
                    · refine Run.p [true, true, true, true, true, true, true] (by kernel_rfl) ?_
                      exact Run.rh (k := 0) (by kernel_rfl) (by kernel_rfl)
                    · refine Run.p [false, false, false, false, false] (by kernel_rfl) ?_
                      refine Run.bH (e := vI) (gv := vB) (by kernel_rfl) (by kernel_rfl) (ok_impl_abs _) (fun _ => rfl) fun r31 => ?_
                      refine Run.p [false, false] (by kernel_rfl) ?_
                      exact Run.rh (k := 0) (by kernel_rfl) (by kernel_rfl)
                · refine Run.p [false, false, false, false, false, false] (by kernel_rfl) ?_
                  refine Run.bH (e := vB) (gv := vB) (by kernel_rfl) (by kernel_rfl) (ok_impl_isConic _) (fun _ => rfl) fun r32 => ?_
                  refine Run.jH (gv := vB) (by kernel_rfl) (?_) (?_)
                  · refine Run.p [true, true, true, true, true, true, true] (by kernel_rfl) ?_
                    exact Run.rh (k := 0) (by kernel_rfl) (by kernel_rfl)
                  · refine Run.p [false, false, false, false, false] (by kernel_rfl) ?_
                    refine Run.bH (e := vI) (gv := vB) (by kernel_rfl) (by kernel_rfl) (ok_impl_abs _) (fun _ => rfl) fun r33 => ?_
                    refine Run.p [false, false] (by kernel_rfl) ?_
                    exact Run.rh (k := 0) (by kernel_rfl) (by kernel_rfl)
              · refine Run.p [false, false, false] (by kernel_rfl) ?_
                refine Run.jH (gv := vB) (by kernel_rfl) (?_) (?_)
                · refine Run.p [true, true, true, false, false, false, false, false, false, false, false, false, false, false, false, false, false, false, false] (by kernel_rfl) ?_
                  refine Run.bH (e := vB) (gv := vB) (by kernel_rfl) (by kernel_rfl) (ok_impl_isConic _) (fun _ => rfl) fun r34 => ?_
                  refine Run.p [false, false] (by kernel_rfl) ?_
                  refine Run.jH (gv := vB) (by kernel_rfl) (?_) (?_)
                  · refine Run.p [true, true, false, true, false] (by kernel_rfl) ?_
                    refine Run.jH (gv := vB) (by kernel_rfl) (?_) (?_)
                    · exact Run.rh (k := 0) (by kernel_rfl) (by kernel_rfl)
                    · refine Run.bH (e := vB) (gv := vB) (by kernel_rfl) (by kernel_rfl) (ok_impl_isConic _) (fun _ => rfl) fun r35 => ?_
                      refine Run.jH (gv := vB) (by kernel_rfl) (?_) (?_)
                      · refine Run.p [true, true, true, true, true, true, true] (by kernel_rfl) ?_
                        exact Run.rh (k := 0) (by kernel_rfl) (by kernel_rfl)
                      · refine Run.p [false, false, false, false, false] (by kernel_rfl) ?_
                        refine Run.bH (e := vI) (gv := vB) (by kernel_rfl) (by kernel_rfl) (ok_impl_abs _) (fun _ => rfl) fun r36 => ?_
                        refine Run.p [false, false] (by kernel_rfl) ?_
                        exact Run.rh (k := 0) (by kernel_rfl) (by kernel_rfl)
                  · refine Run.p [false, false, false, false, false, false] (by kernel_rfl) ?_
                    refine Run.bH (e := vB) (gv := vB) (by kernel_rfl) (by kernel_rfl) (ok_impl_isConic _) (fun _ => rfl) fun r37 => ?_
                    refine Run.jH (gv := vB) (by kernel_rfl) (?_) (?_)
                    · refine Run.p [true, true, true, true, true, true, true] (by kernel_rfl) ?_
                      exact Run.rh (k := 0) (by kernel_rfl) (by kernel_rfl)
                    · refine Run.p [false, false, false, false, false] (by kernel_rfl) ?_
                      refine Run.bH (e := vI) (gv := vB) (by kernel_rfl) (by kernel_rfl) (ok_impl_abs _) (fun _ => rfl) fun r38 => ?_
                      refine Run.p [false, false] (by kernel_rfl) ?_
                      exact Run.rh (k := 0) (by kernel_rfl) (by kernel_rfl)
                · refine Run.p [false, false, false, false, false, false, false, false, false, false] (by kernel_rfl) ?_
                  refine Run.jH (gv := vB) (by kernel_rfl) (?_) (?_)
                  · refine Run.p [true, true, false, true, false] (by kernel_rfl) ?_
                    refine Run.jH (gv := vB) (by kernel_rfl) (?_) (?_)
                    · refine Run.p [true, true, true, true, true, true, true] (by kernel_rfl) ?_
                      exact Run.rh (k := 0) (by kernel_rfl) (by kernel_rfl)
                    · refine Run.p [false, false] (by kernel_rfl) ?_
                      refine Run.bH (e := vB) (gv := vB) (by kernel_rfl) (by kernel_rfl) (ok_impl_isConic _) (fun _ => rfl) fun r39 => ?_
                      refine Run.p [false, false] (by kernel_rfl) ?_
                      refine Run.jH (gv := vB) (by kernel_rfl) (?_) (?_)
                      · refine Run.p [true, true, false, true, false] (by kernel_rfl) ?_
                        refine Run.jH (gv := vB) (by kernel_rfl) (?_) (?_)
                        · exact Run.rh (k := 0) (by kernel_rfl) (by kernel_rfl)
                        · refine Run.bH (e := vB) (gv := vB) (by kernel_rfl) (by kernel_rfl) (ok_impl_isConic _) (fun _ => rfl) fun r40 => ?_
                          refine Run.jH (gv := vB) (by kernel_rfl) (?_) (?_)
                          · refine Run.p [true, true, true, true, true, true, true] (by kernel_rfl) ?_
                            exact Run.rh (k := 0) (by kernel_rfl) (by kernel_rfl)
                          · refine Run.p [false, false, false, false, false] (by kernel_rfl) ?_
                            refine Run.bH (e := vI) (gv := vB) (by kernel_rfl) (by kernel_rfl) (ok_impl_abs _) (fun _ => rfl) fun r41 => ?_
                            refine Run.p [false, false] (by kernel_rfl) ?_
                            exact Run.rh (k := 0) (by kernel_rfl) (by kernel_rfl)
                      · refine Run.p [false, false, false, false, false, false] (by kernel_rfl) ?_
                        refine Run.bH (e := vB) (gv := vB) (by kernel_rfl) (by kernel_rfl) (ok_impl_isConic _) (fun _ => rfl) fun r42 => ?_
                        refine Run.jH (gv := vB) (by kernel_rfl) (?_) (?_)
                        · refine Run.p [true, true, true, true, true, true, true] (by kernel_rfl) ?_
                          exact Run.rh (k := 0) (by kernel_rfl) (by kernel_rfl)
                        · refine Run.p [false, false, false, false, false] (by kernel_rfl) ?_
                          refine Run.bH (e := vI) (gv := vB) (by kernel_rfl) (by kernel_rfl) (ok_impl_abs _) (fun _ => rfl) fun r43 => ?_
                          refine Run.p [false, false] (by kernel_rfl) ?_
                          exact Run.rh (k := 0) (by kernel_rfl) (by kernel_rfl)
                  · refine Run.p [false, false, false, false, false, false, false, false] (by kernel_rfl) ?_
                    refine Run.bH (e := vB) (gv := vB) (by kernel_rfl) (by kernel_rfl) (ok_impl_isConic _) (fun _ => rfl) fun r44 => ?_
                    refine Run.p [false, false] (by kernel_rfl) ?_
                    refine Run.jH (gv := vB) (by kernel_rfl) (?_) (?_)
                    · refine Run.p [true, true, false, true, false] (by kernel_rfl) ?_
                      refine Run.jH (gv := vB) (by kernel_rfl) (?_) (?_)
                      · exact Run.rh (k := 0) (by kernel_rfl) (by kernel_rfl)
                      · refine Run.bH (e := vB) (gv := vB) (by kernel_rfl) (by kernel_rfl) (ok_impl_isConic _) (fun _ => rfl) fun r45 => ?_
                        refine Run.jH (gv := vB) (by kernel_rfl) (?_) (?_)
                        · refine Run.p [true, true, true, true, true, true, true] (by kernel_rfl) ?_
                          exact Run.rh (k := 0) (by kernel_rfl) (by kernel_rfl)
                        · refine Run.p [false, false, false, false, false] (by kernel_rfl) ?_
                          refine Run.bH (e := vI) (gv := vB) (by kernel_rfl) (by kernel_rfl) (ok_impl_abs _) (fun _ => rfl) fun r46 => ?_
                          refine Run.p [false, false] (by kernel_rfl) ?_
                          exact Run.rh (k := 0) (by kernel_rfl) (by kernel_rfl)
                    · refine Run.p [false, false, false, false, false, false] (by kernel_rfl) ?_
                      refine Run.bH (e := vB) (gv := vB) (by kernel_rfl) (by kernel_rfl) (ok_impl_isConic _) (fun _ => rfl) fun r47 => ?_
                      refine Run.jH (gv := vB) (by kernel_rfl) (?_) (?_)
                      · refine Run.p [true, true, true, true, true, true, true] (by kernel_rfl) ?_
                        exact Run.rh (k := 0) (by kernel_rfl) (by kernel_rfl)
                      · refine Run.p [false, false, false, false, false] (by kernel_rfl) ?_
                        refine Run.bH (e := vI) (gv := vB) (by kernel_rfl) (by kernel_rfl) (ok_impl_abs _) (fun _ => rfl) fun r48 => ?_
                        refine Run.p [false, false] (by kernel_rfl) ?_
                        exact Run.rh (k := 0) (by kernel_rfl) (by kernel_rfl)
            · refine Run.p [false, false, false] (by kernel_rfl) ?_
              refine Run.bH (e := vB) (gv := vB) (by kernel_rfl) (by kernel_rfl) (ok_impl_isConic _) (fun _ => rfl) fun r49 => ?_
              refine Run.jH (gv := vB) (by kernel_rfl) (?_) (?_)
              · refine Run.p [true, true, true, true, true, true, true] (by kernel_rfl) ?_
                refine Run.jH (gv := vB) (by kernel_rfl) (?_) (?_)
                · refine Run.p [true, true, true] (by kernel_rfl) ?_
                  refine Run.jH (gv := vB) (by kernel_rfl) (?_) (?_)
                  · refine Run.p [true, true, true, true, true, true, true, true, true, true, true, true] (by kernel_rfl) ?_
                    exact Run.rh (k := 0) (by kernel_rfl) (by kernel_rfl)
                  · refine Run.p [false, false, false, false, false, false, false, false, false, false, false] (by kernel_rfl) ?_
                    refine Run.bH (e := vB) (gv := vB) (by kernel_rfl) (by kernel_rfl) (ok_impl_isConic _) (fun _ => rfl) fun r50 => ?_
                    refine Run.p [false, false] (by kernel_rfl) ?_
                    refine Run.jH (gv := vB) (by kernel_rfl) (?_) (?_)
                    · refine Run.p [true, true, false, true, false] (by kernel_rfl) ?_
                      refine Run.jH (gv := vB) (by kernel_rfl) (?_) (?_)
                      · exact Run.rh (k := 0) (by kernel_rfl) (by kernel_rfl)
                      · refine Run.bH (e := vB) (gv := vB) (by kernel_rfl) (by kernel_rfl) (ok_impl_isConic _) (fun _ => rfl) fun r51 => ?_
                        refine Run.jH (gv := vB) (by kernel_rfl) (?_) (?_)
                        · refine Run.p [true, true, true, true, true, true, true] (by kernel_rfl) ?_
                          exact Run.rh (k := 0) (by kernel_rfl) (by kernel_rfl)
                        · refine Run.p [false, false, false, false, false] (by kernel_rfl) ?_
                          refine Run.bH (e := vI) (gv := vB) (by kernel_rfl) (by kernel_rfl) (ok_impl_abs _) (fun _ => rfl) fun r52 => ?_
                          refine Run.p [false, false] (by kernel_rfl) ?_
                          exact Run.rh (k := 0) (by kernel_rfl) (by kernel_rfl)
                    · refine Run.p [false, false, false, false, false, false] (by kernel_rfl) ?_
                      refine Run.bH (e := vB) (gv := vB) (by kernel_rfl) (by kernel_rfl) (ok_impl_isConic _) (fun _ => rfl) fun r53 => ?_
                      refine Run.jH (gv := vB) (by kernel_rfl) (?_) (?_)
                      · refine Run.p [true, true, true, true, true, true, true] (by kernel_rfl) ?_
                        exact Run.rh (k := 0) (by kernel_rfl) (by kernel_rfl)
                      · refine Run.p [false, false, false, false, false] (by kernel_rfl) ?_
                        refine Run.bH (e := vI) (gv := vB) (by kernel_rfl) (by kernel_rfl) (ok_impl_abs _) (fun _ => rfl) fun r54 => ?_
                        refine Run.p [false, false] (by kernel_rfl) ?_
                        exact Run.rh (k := 0) (by kernel_rfl) (by kernel_rfl)
                · refine Run.p [false, false, false, false, false, false, false, false, false, false, false, false, false, false, false] (by kernel_rfl) ?_
                  refine Run.bH (e := vB) (gv := vB) (by kernel_rfl) (by kernel_rfl) (ok_impl_isConic _) (fun _ => rfl) fun r55 => ?_
                  refine Run.p [false, false] (by kernel_rfl) ?_
                  refine Run.jH (gv := vB) (by kernel_rfl) (?_) (?_)
                  · refine Run.p [true, true, false, true, false] (by kernel_rfl) ?_
                    refine Run.jH (gv := vB) (by kernel_rfl) (?_) (?_)
                    · exact Run.rh (k := 0) (by kernel_rfl) (by kernel_rfl)
                    · refine Run.bH (e := vB) (gv := vB) (by kernel_rfl) (by kernel_rfl) (ok_impl_isConic _) (fun _ => rfl) fun r56 => ?_
                      refine Run.jH (gv := vB) (by kernel_rfl) (?_) (?_)
                      · refine Run.p [true, true, true, true, true, true, true] (by kernel_rfl) ?_
                        exact Run.rh (k := 0) (by kernel_rfl) (by kernel_rfl)
                      · refine Run.p [false, false, false, false, false] (by kernel_rfl) ?_
                        refine Run.bH (e := vI) (gv := vB) (by kernel_rfl) (by kernel_rfl) (ok_impl_abs _) (fun _ => rfl) fun r57 => ?_
                        refine Run.p [false, false] (by kernel_rfl) ?_
                        exact Run.rh (k := 0) (by kernel_rfl) (by kernel_rfl)
                  · refine Run.p [false, false, false, false, false, false] (by kernel_rfl) ?_
                    refine Run.bH (e := vB) (gv := vB) (by kernel_rfl) (by kernel_rfl) (ok_impl_isConic _) (fun _ => rfl) fun r58 => ?_
                    refine Run.jH (gv := vB) (by kernel_rfl) (?_) (?_)
                    · refine Run.p [true, true, true, true, true, true, true] (by kernel_rfl) ?_
                      exact Run.rh (k := 0) (by kernel_rfl) (by kernel_rfl)
                    · refine Run.p [false, false, false, false, false] (by kernel_rfl) ?_
                      refine Run.bH (e := vI) (gv := vB) (by kernel_rfl) (by kernel_rfl) (ok_impl_abs _) (fun _ => rfl) fun r59 => ?_
                      refine Run.p [false, false] (by kernel_rfl) ?_
                      exact Run.rh (k := 0) (by kernel_rfl) (by kernel_rfl)
              · refine Run.p [false, false, false] (by kernel_rfl) ?_
                refine Run.jH (gv := vB) (by kernel_rfl) (?_) (?_)
                · refine Run.p [true, true, true] (by kernel_rfl) ?_
                  refine Run.jH (gv := vB) (by kernel_rfl) (?_) (?_)
                  · refine Run.p [true, true, true] (by kernel_rfl) ?_
                    refine Run.jH (gv := vB) (by kernel_rfl) (?_) (?_)
                    · refine Run.p [true, true, true, true, true, true, true, true, true, true, true, true] (by kernel_rfl) ?_
                      exact Run.rh (k := 0) (by kernel_rfl) (by kernel_rfl)
                    · refine Run.p [false, false, false, false, false, false, false, false, false, false, false] (by kernel_rfl) ?_
                      refine Run.bH (e := vB) (gv := vB) (by kernel_rfl) (by kernel_rfl) (ok_impl_isConic _) (fun _ => rfl) fun r60 => ?_
                      refine Run.p [false, false] (by kernel_rfl) ?_
                      refine Run.jH (gv := vB) (by kernel_rfl) (?_) (?_)
                      · refine Run.p [true, true, false, true, false] (by kernel_rfl) ?_
                        refine Run.jH (gv := vB) (by kernel_rfl) (?_) (?_)
                        · exact Run.rh (k := 0) (by kernel_rfl) (by kernel_rfl)
                        · refine Run.bH (e := vB) (gv := vB) (by kernel_rfl) (by kernel_rfl) (ok_impl_isConic _) (fun _ => rfl) fun r61 => ?_
                          refine Run.jH (gv := vB) (by kernel_rfl) (?_) (?_)
                          · refine Run.p [true, true, true, true, true, true, true] (by kernel_rfl) ?_
                            exact Run.rh (k := 0) (by kernel_rfl) (by kernel_rfl)
                          · refine Run.p [false, false, false, false, false] (by kernel_rfl) ?_
                            refine Run.bH (e := vI) (gv := vB) (by kernel_rfl) (by kernel_rfl) (ok_impl_abs _) (fun _ => rfl) fun r62 => ?_
                            refine Run.p [false, false] (by kernel_rfl) ?_
                            exact Run.rh (k := 0) (by kernel_rfl) (by kernel_rfl)
                      · refine Run.p [false, false, false, false, false, false] (by kernel_rfl) ?_
                        refine Run.bH (e := vB) (gv := vB) (by kernel_rfl) (by kernel_rfl) (ok_impl_isConic _) (fun _ => rfl) fun r63 => ?_
                        refine Run.jH (gv := vB) (by kernel_rfl) (?_) (?_)
                        · refine Run.p [true, true, true, true, true, true, true] (by kernel_rfl) ?_
                          exact Run.rh (k := 0) (by kernel_rfl) (by kernel_rfl)
                        · refine Run.p [false, false, false, false, false] (by kernel_rfl) ?_
                          refine Run.bH (e := vI) (gv := vB) (by kernel_rfl) (by kernel_rfl) (ok_impl_abs _) (fun _ => rfl) fun r64 => ?_
                          refine Run.p [false, false] (by kernel_rfl) ?_
                          exact Run.rh (k := 0) (by kernel_rfl) (by kernel_rfl)
                  · refine Run.p [false, false, false, false, false, false, false, false, false, false, false, false, false, false, false] (by kernel_rfl) ?_
                    refine Run.bH (e := vB) (gv := vB) (by kernel_rfl) (by kernel_rfl) (ok_impl_isConic _) (fun _ => rfl) fun r65 => ?_
                    refine Run.p [false, false] (by kernel_rfl) ?_
                    refine Run.jH (gv := vB) (by kernel_rfl) (?_) (?_)
                    · refine Run.p [true, true, false, true, false] (by kernel_rfl) ?_
                      refine Run.jH (gv := vB) (by kernel_rfl) (?_) (?_)
                      · exact Run.rh (k := 0) (by kernel_rfl) (by kernel_rfl)
                      · refine Run.bH (e := vB) (gv := vB) (by kernel_rfl) (by kernel_rfl) (ok_impl_isConic _) (fun _ => rfl) fun r66 => ?_
                        refine Run.jH (gv := vB) (by kernel_rfl) (?_) (?_)
                        · refine Run.p [true, true, true, true, true, true, true] (by kernel_rfl) ?_
                          exact Run.rh (k := 0) (by kernel_rfl) (by kernel_rfl)
                        · refine Run.p [false, false, false, false, false] (by kernel_rfl) ?_
                          refine Run.bH (e := vI) (gv := vB) (by kernel_rfl) (by kernel_rfl) (ok_impl_abs _) (fun _ => rfl) fun r67 => ?_
                          refine Run.p [false, false] (by kernel_rfl) ?_
                          exact Run.rh (k := 0) (by kernel_rfl) (by kernel_rfl)
                    · refine Run.p [false, false, false, false, false, false] (by kernel_rfl) ?_
                      refine Run.bH (e := vB) (gv := vB) (by kernel_rfl) (by kernel_rfl) (ok_impl_isConic _) (fun _ => rfl) fun r68 => ?_
                      refine Run.jH (gv := vB) (by kernel_rfl) (?_) (?_)
                      · refine Run.p [true, true, true, true, true, true, true] (by kernel_rfl) ?_
                        exact Run.rh (k := 0) (by kernel_rfl) (by kernel_rfl)
                      · refine Run.p [false, false, false, false, false] (by kernel_rfl) ?_
                        refine Run.bH (e := vI) (gv := vB) (by kernel_rfl) (by kernel_rfl) (ok_impl_abs _) (fun _ => rfl) fun r69 => ?_
                        refine Run.p [false, false] (by kernel_rfl) ?_
                        exact Run.rh (k := 0) (by kernel_rfl) (by kernel_rfl)
                · refine Run.p [false, false, false] (by kernel_rfl) ?_
                  refine Run.jH (gv := vB) (by kernel_rfl) (?_) (?_)
                  · refine Run.p [true, true, true] (by kernel_rfl) ?_
                    refine Run.jH (gv := vB) (by kernel_rfl) (?_) (?_)
                    · refine Run.p [true, true, true, true, true, true, true, true, true, true, true, true] (by kernel_rfl) ?_
                      exact Run.rh (k := 0) (by kernel_rfl) (by kernel_rfl)
                    · refine Run.p [false, false] (by kernel_rfl) ?_
                      refine Run.jH (gv := vB) (by kernel_rfl) (?_) (?_)
                      · refine Run.p [true, true, false, true, false] (by kernel_rfl) ?_
                        refine Run.jH (gv := vB) (by kernel_rfl) (?_) (?_)
                        · refine Run.p [true, true, true, true, true, true, true] (by kernel_rfl) ?_
                          exact Run.rh (k := 0) (by kernel_rfl) (by kernel_rfl)
                        · refine Run.p [false, false] (by kernel_rfl) ?_
                          refine Run.bH (e := vB) (gv := vB) (by kernel_rfl) (by kernel_rfl) (ok_impl_isConic _) (fun _ => rfl) fun r70 => ?_
                          refine Run.p [false, false] (by kernel_rfl) ?_
                          refine Run.jH (gv := vB) (by kernel_rfl) (?_) (?_)
                          · refine Run.p [true, true, false, true, false] (by kernel_rfl) ?_
                            refine Run.jH (gv := vB) (by kernel_rfl) (?_) (?_)
                            · exact Run.rh (k := 0) (by kernel_rfl) (by kernel_rfl)
                            · refine Run.bH (e := vB) (gv := vB) (by kernel_rfl) (by kernel_rfl) (ok_impl_isConic _) (fun _ => rfl) fun r71 => ?_
                              refine Run.jH (gv := vB) (by kernel_rfl) (?_) (?_)
                              · refine Run.p [true, true, true, true, true, true, true] (by kernel_rfl) ?_
                                exact Run.rh (k := 0) (by kernel_rfl) (by kernel_rfl)
                              · refine Run.p [false, false, false, false, false] (by kernel_rfl) ?_
                                refine Run.bH (e := vI) (gv := vB) (by kernel_rfl) (by kernel_rfl) (ok_impl_abs _) (fun _ => rfl) fun r72 => ?_
                                refine Run.p [false, false] (by kernel_rfl) ?_
                                exact Run.rh (k := 0) (by kernel_rfl) (by kernel_rfl)
                          · refine Run.p [false, false, false, false, false, false] (by kernel_rfl) ?_
                            refine Run.bH (e := vB) (gv := vB) (by kernel_rfl) (by kernel_rfl) (ok_impl_isConic _) (fun _ => rfl) fun r73 => ?_
                            refine Run.jH (gv := vB) (by kernel_rfl) (?_) (?_)
                            · refine Run.p [true, true, true, true, true, true, true] (by kernel_rfl) ?_
                              exact Run.rh (k := 0) (by kernel_rfl) (by kernel_rfl)
                            · refine Run.p [false, false, false, false, false] (by kernel_rfl) ?_
                              refine Run.bH (e := vI) (gv := vB) (by kernel_rfl) (by kernel_rfl) (ok_impl_abs _) (fun _ => rfl) fun r74 => ?_
                              refine Run.p [false, false] (by kernel_rfl) ?_
                              exact Run.rh (k := 0) (by kernel_rfl) (by kernel_rfl)
                      · refine Run.p [false, false, false, false, false, false, false, false] (by kernel_rfl) ?_
                        refine Run.bH (e := vB) (gv := vB) (by kernel_rfl) (by kernel_rfl) (ok_impl_isConic _) (fun _ => rfl) fun r75 => ?_
                        refine Run.p [false, false] (by kernel_rfl) ?_
                        refine Run.jH (gv := vB) (by kernel_rfl) (?_) (?_)
                        · refine Run.p [true, true, false, true, false] (by kernel_rfl) ?_
                          refine Run.jH (gv := vB) (by kernel_rfl) (?_) (?_)
                          · exact Run.rh (k := 0) (by kernel_rfl) (by kernel_rfl)
                          · refine Run.bH (e := vB) (gv := vB) (by kernel_rfl) (by kernel_rfl) (ok_impl_isConic _) (fun _ => rfl) fun r76 => ?_
                            refine Run.jH (gv := vB) (by kernel_rfl) (?_) (?_)
                            · refine Run.p [true, true, true, true, true, true, true] (by kernel_rfl) ?_
                              exact Run.rh (k := 0) (by kernel_rfl) (by kernel_rfl)
                            · refine Run.p [false, false, false, false, false] (by kernel_rfl) ?_
                              refine Run.bH (e := vI) (gv := vB) (by kernel_rfl) (by kernel_rfl) (ok_impl_abs _) (fun _ => rfl) fun r77 => ?_
                              refine Run.p [false, false] (by kernel_rfl) ?_
                              exact Run.rh (k := 0) (by kernel_rfl) (by kernel_rfl)
                        · refine Run.p [false, false, false, false, false, false] (by kernel_rfl) ?_
                          refine Run.bH (e := vB) (gv := vB) (by kernel_rfl) (by kernel_rfl) (ok_impl_isConic _) (fun _ => rfl) fun r78 => ?_
                          refine Run.jH (gv := vB) (by kernel_rfl) (?_) (?_)
                          · refine Run.p [true, true, true, true, true, true, true] (by kernel_rfl) ?_
                            exact Run.rh (k := 0) (by kernel_rfl) (by kernel_rfl)
                          · refine Run.p [false, false, false, false, false] (by kernel_rfl) ?_
                            refine Run.bH (e := vI) (gv := vB) (by kernel_rfl) (by kernel_rfl) (ok_impl_abs _) (fun _ => rfl) fun r79 => ?_
                            refine Run.p [false, false] (by kernel_rfl) ?_
                            exact Run.rh (k := 0) (by kernel_rfl) (by kernel_rfl)
                  · refine Run.p [false, false, false, false, false, false] (by kernel_rfl) ?_
                    refine Run.jH (gv := vB) (by kernel_rfl) (?_) (?_)
                    · refine Run.p [true, true, false, true, false] (by kernel_rfl) ?_
                      refine Run.jH (gv := vB) (by kernel_rfl) (?_) (?_)
                      · refine Run.p [true, true, true, true, true, true, true] (by kernel_rfl) ?_
                        exact Run.rh (k := 0) (by kernel_rfl) (by kernel_rfl)
                      · refine Run.p [false, false] (by kernel_rfl) ?_
                        refine Run.bH (e := vB) (gv := vB) (by kernel_rfl) (by kernel_rfl) (ok_impl_isConic _) (fun _ => rfl) fun r80 => ?_
                        refine Run.p [false, false] (by kernel_rfl) ?_
                        refine Run.jH (gv := vB) (by kernel_rfl) (?_) (?_)
                        · refine Run.p [true, true, false, true, false] (by kernel_rfl) ?_
                          refine Run.jH (gv := vB) (by kernel_rfl) (?_) (?_)
                          · exact Run.rh (k := 0) (by kernel_rfl) (by kernel_rfl)
                          · refine Run.bH (e := vB) (gv := vB) (by kernel_rfl) (by kernel_rfl) (ok_impl_isConic _) (fun _ => rfl) fun r81 => ?_
                            refine Run.jH (gv := vB) (by kernel_rfl) (?_) (?_)
                            · refine Run.p [true, true, true, true, true, true, true] (by kernel_rfl) ?_
                              exact Run.rh (k := 0) (by kernel_rfl) (by kernel_rfl)
                            · refine Run.p [false, false, false, false, false] (by kernel_rfl) ?_
                              refine Run.bH (e := vI) (gv := vB) (by kernel_rfl) (by kernel_rfl) (ok_impl_abs _) (fun _ => rfl) fun r82 => ?_
                              refine Run.p [false, false] (by kernel_rfl) ?_
                              exact Run.rh (k := 0) (by kernel_rfl) (by kernel_rfl)
                        · refine Run.p [false, false, false, false, false, false] (by kernel_rfl) ?_
                          refine Run.bH (e := vB) (gv := vB) (by kernel_rfl) (by kernel_rfl) (ok_impl_isConic _) (fun _ => rfl) fun r83 => ?_
                          refine Run.jH (gv := vB) (by kernel_rfl) (?_) (?_)
                          · refine Run.p [true, true, true, true, true, true, true] (by kernel_rfl) ?_
                            exact Run.rh (k := 0) (by kernel_rfl) (by kernel_rfl)
                          · refine Run.p [false, false, false, false, false] (by kernel_rfl) ?_
                            refine Run.bH (e := vI) (gv := vB) (by kernel_rfl) (by kernel_rfl) (ok_impl_abs _) (fun _ => rfl) fun r84 => ?_
                            refine Run.p [false, false] (by kernel_rfl) ?_
                            exact Run.rh (k := 0) (by kernel_rfl) (by kernel_rfl)
                    · refine Run.p [false, false, false, false, false, false, false, false] (by kernel_rfl) ?_
                      refine Run.bH (e := vB) (gv := vB) (by kernel_rfl) (by kernel_rfl) (ok_impl_isConic _) (fun _ => rfl) fun r85 => ?_
                      refine Run.p [false, false] (by kernel_rfl) ?_
                      refine Run.jH (gv := vB) (by kernel_rfl) (?_) (?_)
                      · refine Run.p [true, true, false, true, false] (by kernel_rfl) ?_
                        refine Run.jH (gv := vB) (by kernel_rfl) (?_) (?_)
                        · exact Run.rh (k := 0) (by kernel_rfl) (by kernel_rfl)
                        · refine Run.bH (e := vB) (gv := vB) (by kernel_rfl) (by kernel_rfl) (ok_impl_isConic _) (fun _ => rfl) fun r86 => ?_
                          refine Run.jH (gv := vB) (by kernel_rfl) (?_) (?_)
                          · refine Run.p [true, true, true, true, true, true, true] (by kernel_rfl) ?_
                            exact Run.rh (k := 0) (by kernel_rfl) (by kernel_rfl)
                          · refine Run.p [false, false, false, false, false] (by kernel_rfl) ?_
                            refine Run.bH (e := vI) (gv := vB) (by kernel_rfl) (by kernel_rfl) (ok_impl_abs _) (fun _ => rfl) fun r87 => ?_
                            refine Run.p [false, false] (by kernel_rfl) ?_
                            exact Run.rh (k := 0) (by kernel_rfl) (by kernel_rfl)
                      · refine Run.p [false, false, false, false, false, false] (by kernel_rfl) ?_
                        refine Run.bH (e := vB) (gv := vB) (by kernel_rfl) (by kernel_rfl) (ok_impl_isConic _) (fun _ => rfl) fun r88 => ?_
                        refine Run.jH (gv := vB) (by kernel_rfl) (?_) (?_)
                        · refine Run.p [true, true, true, true, true, true, true] (by kernel_rfl) ?_
                          exact Run.rh (k := 0) (by kernel_rfl) (by kernel_rfl)
                        · refine Run.p [false, false, false, false, false] (by kernel_rfl) ?_
                          refine Run.bH (e := vI) (gv := vB) (by kernel_rfl) (by kernel_rfl) (ok_impl_abs _) (fun _ => rfl) fun r89 => ?_
                          refine Run.p [false, false] (by kernel_rfl) ?_
                          exact Run.rh (k := 0) (by kernel_rfl) (by kernel_rfl)

theorem ok_impl_isTransverse (a0 : Pj) : Fun Tryz.prog 107 [] #[vPj a0] (vB (F_impl_isTransverse a0)) [] := by
  refine Fun.ofH 400 E_ok mixed Tryz.func107 (by kernel_rfl) (by kernel_rfl) ?_
  unfold F_impl_isTransverse
  refine Run.bH (e := vB) (gv := vB) (by kernel_rfl) (by kernel_rfl) (ok_impl_ValidProjection _) (fun _ => rfl) fun r1 => ?_
  refine Run.jH (gv := vB) (by kernel_rfl) (?_) (?_)
  · refine Run.p [true, true, true] (by kernel_rfl) ?_
    exact Run.rh (k := 0) (by kernel_rfl) (by kernel_rfl)
  · refine Run.p [false, false, false] (by kernel_rfl) ?_
    exact Run.rh (k := 0) (by kernel_rfl) (by kernel_rfl)

theorem ok_impl_WrapLon (a0 : I64) : Fun Tryz.prog 109 [] #[vI a0] (vI (F_impl_WrapLon a0)) [] := by
  refine Fun.ofH 400 E_ok mixed Tryz.func109 (by kernel_rfl) (by kernel_rfl) ?_
  unfold F_impl_WrapLon
  refine Run.p [true] (by kernel_rfl) ?_
  refine Run.jH (gv := vI) (by kernel_rfl) (?_) (?_)
  · exact Run.rh (k := 0) (by kernel_rfl) (by kernel_rfl)
  · refine Run.jH (gv := vI) (by kernel_rfl) (?_) (?_)
    · exact Run.rh (k := 0) (by kernel_rfl) (by kernel_rfl)
    · exact Run.rh (k := 0) (by kernel_rfl) (by kernel_rfl)

theorem ok_impl_RadiansOf_r : ∀ (fu : Nat) (a0 : I64) (hm : min (0 - a0.val).toNat 1 < fu), Fun Tryz.prog 125 [] #[vI a0] (vIv (F_impl_RadiansOf_r fu a0)) [] := by
  intro fu
  induction fu with
  | zero => intro a0 hm; exact absurd hm (Nat.not_lt_zero _)
  | succ fu ih =>
    intro a0 hm
    refine Fun.ofH 400 E_ok mixed Tryz.func125 (by kernel_rfl) (by kernel_rfl) ?_
    unfold F_impl_RadiansOf_r
    refine Run.bk (e := vB) (gv := vIv) (by kernel_rfl) (by kernel_rfl) (ok_impl_within _ _ _) (fun _ => rfl) fun r1 hr1 => ?_
    refine Run.jk (gv := vIv) (by kernel_rfl) (fun h2 => ?_) (fun h2 => ?_)
    · refine Run.bk (e := vIv) (gv := vIv) (by kernel_rfl) (by kernel_rfl) (ok_impl_Whole) (fun _ => rfl) fun r3 hr3 => ?_
      exact Run.rh (k := 0) (by kernel_rfl) (by kernel_rfl)
    · refine Run.jk (gv := vIv) (by kernel_rfl) (fun h4 => ?_) (fun h4 => ?_)
      · refine Run.bk (e := vIv) (gv := vIv) (by kernel_rfl) (by kernel_rfl) (ih (w64 (0 - a0.val)) (by rw [hr1] at h2; simp [F_impl_within, c64_val] at h2; simp only [w64_val, decide_eq_true_eq, decide_eq_false_iff_not] at *; omega)) (fun _ => rfl) fun r5 hr5 => ?_
        refine Run.bk (e := vIv) (gv := vIv) (by kernel_rfl) (by kernel_rfl) (ok_impl_NegI _) (fun _ => rfl) fun r6 hr6 => ?_
        exact Run.rh (k := 0) (by kernel_rfl) (by kernel_rfl)
      · refine Run.jk (gv := vIv) (by kernel_rfl) (fun h7 => ?_) (fun h7 => ?_)
        · exact Run.rh (k := 0) (by kernel_rfl) (by kernel_rfl)
        · refine Run.bk (e := vT_I_B) (gv := vIv) (by kernel_rfl) (by kernel_rfl) (ok_impl_MulDivFloor _ _ _) (fun _ => rfl) fun r8 hr8 => ?_
          refine Run.bk (e := vT_I_B) (gv := vIv) (by kernel_rfl) (by kernel_rfl) (ok_impl_MulDivFloor _ _ _) (fun _ => rfl) fun r9 hr9 => ?_
          exact Run.rh (k := 0) (by kernel_rfl) (by kernel_rfl)
theorem ok_impl_RadiansOf (a0 : I64) : Fun Tryz.prog 125 [] #[vI a0] (vIv (F_impl_RadiansOf a0)) [] := ok_impl_RadiansOf_r 2 a0 (by omega)

theorem ok_impl_LatOf (a0 : Pt) : Fun Tryz.prog 66 [] #[vPt a0] (vIv (F_impl_LatOf a0)) [] := by
  refine Fun.ofH 400 E_ok mixed Tryz.func66 (by kernel_rfl) (by kernel_rfl) ?_
  unfold F_impl_LatOf
  refine Run.bH (e := vB) (gv := vIv) (by kernel_rfl) (by kernel_rfl) (ok_impl_ValidPoint _) (fun _ => rfl) fun r1 => ?_
  refine Run.jH (gv := vIv) (by kernel_rfl) (?_) (?_)
  · refine Run.bH (e := vIv) (gv := vIv) (by kernel_rfl) (by kernel_rfl) (ok_impl_Whole) (fun _ => rfl) fun r2 => ?_
    exact Run.rh (k := 0) (by kernel_rfl) (by kernel_rfl)
  · refine Run.bH (e := vIv) (gv := vIv) (by kernel_rfl) (by kernel_rfl) (ok_impl_RadiansOf _) (fun _ => rfl) fun r3 => ?_
    exact Run.rh (k := 0) (by kernel_rfl) (by kernel_rfl)

theorem ok_impl_LonFrom (a0 : Pj) (a1 : Pt) : Fun Tryz.prog 68 [] #[vPj a0, vPt a1] (vIv (F_impl_LonFrom a0 a1)) [] := by
  refine Fun.ofH 400 E_ok mixed Tryz.func68 (by kernel_rfl) (by kernel_rfl) ?_
  unfold F_impl_LonFrom
  refine Run.bH (e := vB) (gv := vIv) (by kernel_rfl) (by kernel_rfl) (ok_impl_ValidProjection _) (fun _ => rfl) fun r1 => ?_
  refine Run.jH (gv := vIv) (by kernel_rfl) (?_) (?_)
  · refine Run.p [true, true, true, true] (by kernel_rfl) ?_
    refine Run.bH (e := vIv) (gv := vIv) (by kernel_rfl) (by kernel_rfl) (ok_impl_Whole) (fun _ => rfl) fun r2 => ?_
    exact Run.rh (k := 0) (by kernel_rfl) (by kernel_rfl)
  · refine Run.p [false] (by kernel_rfl) ?_
    refine Run.bH (e := vB) (gv := vIv) (by kernel_rfl) (by kernel_rfl) (ok_impl_ValidPoint _) (fun _ => rfl) fun r3 => ?_
    refine Run.p [false, false] (by kernel_rfl) ?_
    refine Run.jH (gv := vIv) (by kernel_rfl) (?_) (?_)
    · refine Run.bH (e := vIv) (gv := vIv) (by kernel_rfl) (by kernel_rfl) (ok_impl_Whole) (fun _ => rfl) fun r4 => ?_
      exact Run.rh (k := 0) (by kernel_rfl) (by kernel_rfl)
    · refine Run.bH (e := vI) (gv := vIv) (by kernel_rfl) (by kernel_rfl) (ok_impl_WrapLon _) (fun _ => rfl) fun r5 => ?_
      refine Run.bH (e := vIv) (gv := vIv) (by kernel_rfl) (by kernel_rfl) (ok_impl_RadiansOf _) (fun _ => rfl) fun r6 => ?_
      exact Run.rh (k := 0) (by kernel_rfl) (by kernel_rfl)

theorem ok_impl_CosI (a0 : Iv) : Fun Tryz.prog 110 [] #[vIv a0] (vIv (F_impl_CosI a0)) [] := by
  refine Fun.ofH 400 E_ok mixed Tryz.func110 (by kernel_rfl) (by kernel_rfl) ?_
  unfold F_impl_CosI
  refine Run.bH (e := vIv) (gv := vIv) (by kernel_rfl) (by kernel_rfl) (ok_impl_circleHull _ _) (fun _ => rfl) fun r1 => ?_
  exact Run.rh (k := 0) (by kernel_rfl) (by kernel_rfl)

theorem ok_impl_transverse (a0 : Pj) (a1 : Pt) : Fun Tryz.prog 49 [] #[vPj a0, vPt a1] (vT_Iv_Iv_Iv_I (F_impl_transverse a0 a1)) [] := by
  refine Fun.ofH 400 E_ok mixed Tryz.func49 (by kernel_rfl) (by kernel_rfl) ?_
  unfold F_impl_transverse
  refine Run.bH (e := vB) (gv := vT_Iv_Iv_Iv_I) (by kernel_rfl) (by kernel_rfl) (ok_impl_isTransverse _) (fun _ => rfl) fun r1 => ?_
  refine Run.jH (gv := vT_Iv_Iv_Iv_I) (by kernel_rfl) (?_) (?_)
  · refine Run.p [true, true, true, true] (by kernel_rfl) ?_
    exact Run.rh (k := 0) (by kernel_rfl) (by kernel_rfl)
  · refine Run.p [false] (by kernel_rfl) ?_
    refine Run.bH (e := vB) (gv := vT_Iv_Iv_Iv_I) (by kernel_rfl) (by kernel_rfl) (ok_impl_ValidPoint _) (fun _ => rfl) fun r2 => ?_
    refine Run.p [false, false] (by kernel_rfl) ?_
    refine Run.jH (gv := vT_Iv_Iv_Iv_I) (by kernel_rfl) (?_) (?_)
    · exact Run.rh (k := 0) (by kernel_rfl) (by kernel_rfl)
    · refine Run.jH (gv := vT_Iv_Iv_Iv_I) (by kernel_rfl) (?_) (?_)
      · refine Run.p [true, true, true, true, true] (by kernel_rfl) ?_
        refine Run.bH (e := vI) (gv := vT_Iv_Iv_Iv_I) (by kernel_rfl) (by kernel_rfl) (ok_impl_WrapLon _) (fun _ => rfl) fun r3 => ?_
        refine Run.p [true] (by kernel_rfl) ?_
        refine Run.bH (e := vI) (gv := vT_Iv_Iv_Iv_I) (by kernel_rfl) (by kernel_rfl) (ok_impl_abs _) (fun _ => rfl) fun r4 => ?_
        refine Run.p [true, true] (by kernel_rfl) ?_
        refine Run.jH (gv := vT_Iv_Iv_Iv_I) (by kernel_rfl) (?_) (?_)
        · exact Run.rh (k := 0) (by kernel_rfl) (by kernel_rfl)
        · refine Run.bH (e := vIv) (gv := vT_Iv_Iv_Iv_I) (by kernel_rfl) (by kernel_rfl) (ok_impl_LatOf _) (fun _ => rfl) fun r5 => ?_
          refine Run.bH (e := vIv) (gv := vT_Iv_Iv_Iv_I) (by kernel_rfl) (by kernel_rfl) (ok_impl_LonFrom _ _) (fun _ => rfl) fun r6 => ?_
          refine Run.bH (e := vIv) (gv := vT_Iv_Iv_Iv_I) (by kernel_rfl) (by kernel_rfl) (ok_impl_CosI _) (fun _ => rfl) fun r7 => ?_
          refine Run.bH (e := vIv) (gv := vT_Iv_Iv_Iv_I) (by kernel_rfl) (by kernel_rfl) (ok_impl_SinI _) (fun _ => rfl) fun r8 => ?_
          refine Run.bH (e := vIv) (gv := vT_Iv_Iv_Iv_I) (by kernel_rfl) (by kernel_rfl) (ok_impl_MulI _ _) (fun _ => rfl) fun r9 => ?_
          exact Run.rh (k := 0) (by kernel_rfl) (by kernel_rfl)
      · refine Run.p [false, false, false, false, false, false, false, false, false] (by kernel_rfl) ?_
        refine Run.bH (e := vIv) (gv := vT_Iv_Iv_Iv_I) (by kernel_rfl) (by kernel_rfl) (ok_impl_LatOf _) (fun _ => rfl) fun r10 => ?_
        refine Run.bH (e := vIv) (gv := vT_Iv_Iv_Iv_I) (by kernel_rfl) (by kernel_rfl) (ok_impl_LonFrom _ _) (fun _ => rfl) fun r11 => ?_
        refine Run.bH (e := vIv) (gv := vT_Iv_Iv_Iv_I) (by kernel_rfl) (by kernel_rfl) (ok_impl_CosI _) (fun _ => rfl) fun r12 => ?_
        refine Run.bH (e := vIv) (gv := vT_Iv_Iv_Iv_I) (by kernel_rfl) (by kernel_rfl) (ok_impl_SinI _) (fun _ => rfl) fun r13 => ?_
        refine Run.bH (e := vIv) (gv := vT_Iv_Iv_Iv_I) (by kernel_rfl) (by kernel_rfl) (ok_impl_MulI _ _) (fun _ => rfl) fun r14 => ?_
        exact Run.rh (k := 0) (by kernel_rfl) (by kernel_rfl)

theorem ok_impl_oneLess (a0 : Iv) : Fun Tryz.prog 54 [] #[vIv a0] (vIv (F_impl_oneLess a0)) [] := by
  refine Fun.ofH 400 E_ok mixed Tryz.func54 (by kernel_rfl) (by kernel_rfl) ?_
  unfold F_impl_oneLess
  refine Run.bH (e := vIv) (gv := vIv) (by kernel_rfl) (by kernel_rfl) (ok_impl_Integer _) (fun _ => rfl) fun r1 => ?_
  refine Run.bH (e := vIv) (gv := vIv) (by kernel_rfl) (by kernel_rfl) (ok_impl_SubI _ _) (fun _ => rfl) fun r2 => ?_
  exact Run.rh (k := 0) (by kernel_rfl) (by kernel_rfl)

theorem ok_impl_WideSqrt_L0 : ∀ (fu : Nat) (a0 : Wd) (x_root : U64) (x_i : I64) (q0 : x_i.val ≤ 63) (hm : (x_i.val + 1).toNat < fu) (t : Array Value) (ht : maskA t [0, 6, 7, 8, 9, 10, 11, 12, 13, 14, 15, 16, 17, 18, 19, 20, 21, 22, 23, 24, 25, 26, 27, 28, 29, 30, 31, 32, 33, 34, 35, 36, 37, 38, 39, 40, 41, 42, 43, 44, 45] = #[undef, .pointer (some ⟨0, 0, none⟩), .int .u64 0, .bool false, .int .u64 x_root.val, .int .i64 x_i.val, undef, undef, undef, undef, undef, undef, undef, undef, undef, undef, undef, undef, undef, undef, undef, undef, undef, undef, undef, undef, undef, undef, undef, undef, undef, undef, undef, undef, undef, undef, undef, undef, undef, undef, undef, undef, undef, undef, undef, undef]), Cfg Tryz.prog 175 (loopAt Tryz.f175 0) t [(#[.int .i64 a0.hi.val, .int .u64 a0.lo.val], 87)] (RvH [] (vT_U_B (F_impl_WideSqrt_L0 fu a0 x_root x_i))) := by
  intro fu
  induction fu with
  | zero => intro a0 x_root x_i q0 hm; exact absurd hm (Nat.not_lt_zero _)
  | succ fu ih =>
    intro a0 x_root x_i q0 hm t ht
    refine Cfg.round E_ok mixed Tryz.func175 ht fun g => ?_
    unfold F_impl_WideSqrt_L0
    refine Run.jk (gv := vT_U_B) (by kernel_rfl) (fun h2 => ?_) (fun h2 => ?_)
    · refine Run.k (c := (decide (0 ≤ x_i.val))) (by kernel_rfl) (by simp only [w64_val, wu64_val, c64_val, cu64_val, decide_eq_true_eq] at *; omega) ?_
      refine Run.bk (e := vT_U_U) (gv := vT_U_B) (by kernel_rfl) (by kernel_rfl) (ok_bits_Mul64 _ _) (fun _ => rfl) fun r3 hr3 => ?_
      refine Run.jk (gv := vT_U_B) (by kernel_rfl) (fun h4 => ?_) (fun h4 => ?_)
      · refine Run.p [true, true, true, true, true, true, true, true] (by kernel_rfl) ?_
        exact Run.l (by kernel_rfl) (by kernel_rfl) (by kernel_rfl) (by kernel_rfl) (ih a0 (ior .u64 x_root.val (ishl .u64 1 x_i.val).val) (w64 (x_i.val - 1)) (by have q1 := x_i.lo; simp only [w64_val, wu64_val, c64_val, cu64_val, decide_eq_true_eq] at *; omega) (by have q1 := x_i.lo; simp only [w64_val, wu64_val, c64_val, cu64_val, decide_eq_true_eq] at *; omega))
      · refine Run.p [false, false, false, false, false] (by kernel_rfl) ?_
        refine Run.jk (gv := vT_U_B) (by kernel_rfl) (fun h5 => ?_) (fun h5 => ?_)
        · refine Run.p [true, true, true, false, true, false] (by kernel_rfl) ?_
          refine Run.jk (gv := vT_U_B) (by kernel_rfl) (fun h6 => ?_) (fun h6 => ?_)
          · exact Run.l (by kernel_rfl) (by kernel_rfl) (by kernel_rfl) (by kernel_rfl) (ih a0 (ior .u64 x_root.val (ishl .u64 1 x_i.val).val) (w64 (x_i.val - 1)) (by have q1 := x_i.lo; simp only [w64_val, wu64_val, c64_val, cu64_val, decide_eq_true_eq] at *; omega) (by have q1 := x_i.lo; simp only [w64_val, wu64_val, c64_val, cu64_val, decide_eq_true_eq] at *; omega))
          · exact Run.l (by kernel_rfl) (by kernel_rfl) (by kernel_rfl) (by kernel_rfl) (ih a0 x_root (w64 (x_i.val - 1)) (by have q1 := x_i.lo; simp only [w64_val, wu64_val, c64_val, cu64_val, decide_eq_true_eq] at *; omega) (by have q1 := x_i.lo; simp only [w64_val, wu64_val, c64_val, cu64_val, decide_eq_true_eq] at *; omega))
        · refine Run.p [false, false, false, false, false, false, false] (by kernel_rfl) ?_
          exact Run.l (by kernel_rfl) (by kernel_rfl) (by kernel_rfl) (by kernel_rfl) (ih a0 x_root (w64 (x_i.val - 1)) (by have q1 := x_i.lo; simp only [w64_val, wu64_val, c64_val, cu64_val, decide_eq_true_eq] at *; omega) (by have q1 := x_i.lo; simp only [w64_val, wu64_val, c64_val, cu64_val, decide_eq_true_eq] at *; omega))
    · exact Run.rh (k := 0) (by kernel_rfl) (by kernel_rfl)

theorem ok_impl_WideSqrt (a0 : Wd) : Fun Tryz.prog 175 [] #[vWd a0] (vT_U_B (F_impl_WideSqrt a0)) [] := by
  refine Fun.ofH 400 E_ok mixed Tryz.func175 (by kernel_rfl) (by kernel_rfl) ?_
  unfold F_impl_WideSqrt
  refine Run.jk (gv := vT_U_B) (by kernel_rfl) (fun h1 => ?_) (fun h1 => ?_)
  · exact Run.rh (k := 0) (by kernel_rfl) (by kernel_rfl)
  · exact Run.l (by kernel_rfl) (by kernel_rfl) (by kernel_rfl) (by kernel_rfl) (ok_impl_WideSqrt_L0 65 a0 (cu64 0) (c64 63) (by decide) (by decide))

end Go.Proofs.YtmkiegnnaabmaaaGreat.Abs
