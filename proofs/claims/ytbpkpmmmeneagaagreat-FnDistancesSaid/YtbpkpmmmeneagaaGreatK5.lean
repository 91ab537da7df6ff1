/- The program's functions are these; part 5 (written by w.py). -/
import Derived.Test.YtbpkpmmmeneagaaGreatE
import Derived.Test.YtbpkpmmmeneagaaGreatF5
import Derived.Test.YtbpkpmmmeneagaaGreatQpre
import Derived.Test.YtbpkpmmmeneagaaGreatK0
import Derived.Test.YtbpkpmmmeneagaaGreatK4
set_option linter.unusedVariables false
set_option linter.unusedSimpArgs false
namespace Go.Proofs.YtbpkpmmmeneagaaGreat.Abs
open Go Go.RowKit

theorem ok_impl_series (a0 : Iv) (a1 : I64) : Fun Tryz.prog 271 [] #[vIv a0, vI a1] (vIv (F_impl_series a0 a1)) [] := by
 refine Fun.ofH 400 E_ok mixed Tryz.func271 (by kernel_rfl) (by kernel_rfl) ?_
 unfold F_impl_series
 refine Run.q (e := vIv) (gv := vIv) (ok_impl_Integer _) fun r1 _ => ?_
 refine Run.u 400 E_ok mixed Tryz.func271 ?_
 refine Run.z [true] ?_
 refine Run.q (e := vIv) (gv := vIv) (ok_impl_Integer _) fun r2 _ => ?_
 refine Run.q (e := vIv) (gv := vIv) (ok_impl_Integer _) fun r3 _ => ?_
 refine Run.q (e := vIv) (gv := vIv) (ok_impl_DivI _ _) fun r4 _ => ?_
 refine Run.q (e := vIv) (gv := vIv) (ok_impl_MulI _ _) fun r5 _ => ?_
 refine Run.q (e := vIv) (gv := vIv) (ok_impl_SubI _ _) fun r6 _ => ?_
 refine Run.u 400 E_ok mixed Tryz.func271 ?_
 refine Run.z [true] ?_
 refine Run.q (e := vIv) (gv := vIv) (ok_impl_Integer _) fun r7 _ => ?_
 refine Run.q (e := vIv) (gv := vIv) (ok_impl_Integer _) fun r8 _ => ?_
 refine Run.q (e := vIv) (gv := vIv) (ok_impl_DivI _ _) fun r9 _ => ?_
 refine Run.q (e := vIv) (gv := vIv) (ok_impl_MulI _ _) fun r10 _ => ?_
 refine Run.q (e := vIv) (gv := vIv) (ok_impl_SubI _ _) fun r11 _ => ?_
 refine Run.u 400 E_ok mixed Tryz.func271 ?_
 refine Run.z [true] ?_
 refine Run.q (e := vIv) (gv := vIv) (ok_impl_Integer _) fun r12 _ => ?_
 refine Run.q (e := vIv) (gv := vIv) (ok_impl_Integer _) fun r13 _ => ?_
 refine Run.q (e := vIv) (gv := vIv) (ok_impl_DivI _ _) fun r14 _ => ?_
 refine Run.q (e := vIv) (gv := vIv) (ok_impl_MulI _ _) fun r15 _ => ?_
 refine Run.q (e := vIv) (gv := vIv) (ok_impl_SubI _ _) fun r16 _ => ?_
 refine Run.u 400 E_ok mixed Tryz.func271 ?_
 refine Run.z [true] ?_
 refine Run.q (e := vIv) (gv := vIv) (ok_impl_Integer _) fun r17 _ => ?_
 refine Run.q (e := vIv) (gv := vIv) (ok_impl_Integer _) fun r18 _ => ?_
 refine Run.q (e := vIv) (gv := vIv) (ok_impl_DivI _ _) fun r19 _ => ?_
 refine Run.q (e := vIv) (gv := vIv) (ok_impl_MulI _ _) fun r20 _ => ?_
 refine Run.q (e := vIv) (gv := vIv) (ok_impl_SubI _ _) fun r21 _ => ?_
 refine Run.u 400 E_ok mixed Tryz.func271 ?_
 refine Run.z [true] ?_
 refine Run.q (e := vIv) (gv := vIv) (ok_impl_Integer _) fun r22 _ => ?_
 refine Run.q (e := vIv) (gv := vIv) (ok_impl_Integer _) fun r23 _ => ?_
 refine Run.q (e := vIv) (gv := vIv) (ok_impl_DivI _ _) fun r24 _ => ?_
 refine Run.q (e := vIv) (gv := vIv) (ok_impl_MulI _ _) fun r25 _ => ?_
 refine Run.q (e := vIv) (gv := vIv) (ok_impl_SubI _ _) fun r26 _ => ?_
 refine Run.u 400 E_ok mixed Tryz.func271 ?_
 refine Run.z [true] ?_
 refine Run.q (e := vIv) (gv := vIv) (ok_impl_Integer _) fun r27 _ => ?_
 refine Run.q (e := vIv) (gv := vIv) (ok_impl_Integer _) fun r28 _ => ?_
 refine Run.q (e := vIv) (gv := vIv) (ok_impl_DivI _ _) fun r29 _ => ?_
 refine Run.q (e := vIv) (gv := vIv) (ok_impl_MulI _ _) fun r30 _ => ?_
 refine Run.q (e := vIv) (gv := vIv) (ok_impl_SubI _ _) fun r31 _ => ?_
 refine Run.u 400 E_ok mixed Tryz.func271 ?_
 refine Run.z [true] ?_
 refine Run.q (e := vIv) (gv := vIv) (ok_impl_Integer _) fun r32 _ => ?_
 refine Run.q (e := vIv) (gv := vIv) (ok_impl_Integer _) fun r33 _ => ?_
 refine Run.q (e := vIv) (gv := vIv) (ok_impl_DivI _ _) fun r34 _ => ?_
 refine Run.q (e := vIv) (gv := vIv) (ok_impl_MulI _ _) fun r35 _ => ?_
 refine Run.q (e := vIv) (gv := vIv) (ok_impl_SubI _ _) fun r36 _ => ?_
 refine Run.u 400 E_ok mixed Tryz.func271 ?_
 refine Run.z [true] ?_
 refine Run.q (e := vIv) (gv := vIv) (ok_impl_Integer _) fun r37 _ => ?_
 refine Run.q (e := vIv) (gv := vIv) (ok_impl_Integer _) fun r38 _ => ?_
 refine Run.q (e := vIv) (gv := vIv) (ok_impl_DivI _ _) fun r39 _ => ?_
 refine Run.q (e := vIv) (gv := vIv) (ok_impl_MulI _ _) fun r40 _ => ?_
 refine Run.q (e := vIv) (gv := vIv) (ok_impl_SubI _ _) fun r41 _ => ?_
 refine Run.u 400 E_ok mixed Tryz.func271 ?_
 refine Run.z [false] ?_
 exact Run.x 0

theorem ok_impl_tiny : Fun Tryz.prog 272 [] #[] (vIv (F_impl_tiny)) [] := by
 refine Fun.ofH 400 E_ok mixed Tryz.func272 (by kernel_rfl) (by kernel_rfl) ?_
 unfold F_impl_tiny
 exact Run.x 0

theorem ok_impl_SinSeries (a0 : Iv) : Fun Tryz.prog 257 [] #[vIv a0] (vIv (F_impl_SinSeries a0)) [] := by
 refine Fun.ofH 400 E_ok mixed Tryz.func257 (by kernel_rfl) (by kernel_rfl) ?_
 unfold F_impl_SinSeries
 refine Run.q (e := vIv) (gv := vIv) (ok_impl_ring) fun r1 _ => ?_
 refine Run.q (e := vB) (gv := vIv) (ok_impl_InsideI _ _) fun r2 _ => ?_
 refine Run.y (gv := vIv) (fun _ => ?_) (fun _ => ?_)
 ·refine Run.q (e := vIv) (gv := vIv) (ok_impl_Whole) fun r3 _ => ?_
  exact Run.x 0
 ·refine Run.q (e := vIv) (gv := vIv) (ok_impl_SqrI _) fun r4 _ => ?_
  refine Run.q (e := vIv) (gv := vIv) (ok_impl_series _ _) fun r5 _ => ?_
  refine Run.q (e := vIv) (gv := vIv) (ok_impl_MulI _ _) fun r6 _ => ?_
  refine Run.q (e := vIv) (gv := vIv) (ok_impl_tiny) fun r7 _ => ?_
  refine Run.q (e := vIv) (gv := vIv) (ok_impl_AddI _ _) fun r8 _ => ?_
  exact Run.x 0

theorem ok_impl_MeetI (a0 : Iv) (a1 : Iv) : Fun Tryz.prog 126 [] #[vIv a0, vIv a1] (vT_Iv_B (F_impl_MeetI a0 a1)) [] := by
 refine Fun.ofH 400 E_ok mixed Tryz.func126 (by kernel_rfl) (by kernel_rfl) ?_
 unfold F_impl_MeetI
 refine Run.q (e := vB) (gv := vT_Iv_B) (ok_impl_IsWhole _) fun r1 _ => ?_
 refine Run.y (gv := vT_Iv_B) (fun _ => ?_) (fun _ => ?_)
 ·refine Run.z [true] ?_
  refine Run.q (e := vB) (gv := vT_Iv_B) (ok_impl_IsWhole _) fun r2 _ => ?_
  refine Run.z [true] ?_
  refine Run.y (gv := vT_Iv_B) (fun _ => ?_) (fun _ => ?_)
  ·refine Run.q (e := vIv) (gv := vT_Iv_B) (ok_impl_Whole) fun r3 _ => ?_
   exact Run.x 0
  ·refine Run.q (e := vB) (gv := vT_Iv_B) (ok_impl_IsWhole _) fun r4 _ => ?_
   refine Run.y (gv := vT_Iv_B) (fun _ => ?_) (fun _ => ?_)
   ·exact Run.x 0
   ·refine Run.q (e := vB) (gv := vT_Iv_B) (ok_impl_IsWhole _) fun r5 _ => ?_
    refine Run.y (gv := vT_Iv_B) (fun _ => ?_) (fun _ => ?_)
    ·exact Run.x 0
    ·refine Run.y (gv := vT_Iv_B) (fun _ => ?_) (fun _ => ?_)
     ·exact Run.x 0
     ·exact Run.x 0
 ·refine Run.z [false, false, false] ?_
  refine Run.q (e := vB) (gv := vT_Iv_B) (ok_impl_IsWhole _) fun r6 _ => ?_
  refine Run.y (gv := vT_Iv_B) (fun _ => ?_) (fun _ => ?_)
  ·exact Run.x 0
  ·refine Run.q (e := vB) (gv := vT_Iv_B) (ok_impl_IsWhole _) fun r7 _ => ?_
   refine Run.y (gv := vT_Iv_B) (fun _ => ?_) (fun _ => ?_)
   ·exact Run.x 0
   ·refine Run.y (gv := vT_Iv_B) (fun _ => ?_) (fun _ => ?_)
    ·exact Run.x 0
    ·exact Run.x 0

theorem ok_impl_inRing (a0 : Iv) : Fun Tryz.prog 256 [] #[vIv a0] (vIv (F_impl_inRing a0)) [] := by
 refine Fun.ofH 400 E_ok mixed Tryz.func256 (by kernel_rfl) (by kernel_rfl) ?_
 unfold F_impl_inRing
 refine Run.q (e := vIv) (gv := vIv) (ok_impl_ring) fun r1 _ => ?_
 refine Run.q (e := vT_Iv_B) (gv := vIv) (ok_impl_MeetI _ _) fun r2 _ => ?_
 exact Run.x 0

theorem ok_impl_CosSeries (a0 : Iv) : Fun Tryz.prog 258 [] #[vIv a0] (vIv (F_impl_CosSeries a0)) [] := by
 refine Fun.ofH 400 E_ok mixed Tryz.func258 (by kernel_rfl) (by kernel_rfl) ?_
 unfold F_impl_CosSeries
 refine Run.q (e := vIv) (gv := vIv) (ok_impl_ring) fun r1 _ => ?_
 refine Run.q (e := vB) (gv := vIv) (ok_impl_InsideI _ _) fun r2 _ => ?_
 refine Run.y (gv := vIv) (fun _ => ?_) (fun _ => ?_)
 ·refine Run.q (e := vIv) (gv := vIv) (ok_impl_Whole) fun r3 _ => ?_
  exact Run.x 0
 ·refine Run.q (e := vIv) (gv := vIv) (ok_impl_SqrI _) fun r4 _ => ?_
  refine Run.q (e := vIv) (gv := vIv) (ok_impl_series _ _) fun r5 _ => ?_
  refine Run.q (e := vIv) (gv := vIv) (ok_impl_tiny) fun r6 _ => ?_
  refine Run.q (e := vIv) (gv := vIv) (ok_impl_AddI _ _) fun r7 _ => ?_
  exact Run.x 0

theorem ok_impl_circleValue (a0 : I64) (a1 : I64) : Fun Tryz.prog 225 [] #[vI a0, vI a1] (vIv (F_impl_circleValue a0 a1)) [] := by
 refine Fun.ofH 400 E_ok mixed Tryz.func225 (by kernel_rfl) (by kernel_rfl) ?_
 unfold F_impl_circleValue
 refine Run.q (e := vB) (gv := vIv) (ok_impl_isAngle _) fun r1 _ => ?_
 refine Run.y (gv := vIv) (fun _ => ?_) (fun _ => ?_)
 ·refine Run.q (e := vIv) (gv := vIv) (ok_impl_ring) fun r2 _ => ?_
  exact Run.x 0
 ·refine Run.q (e := vI) (gv := vIv) (ok_impl_QuarterOf _) fun r3 _ => ?_
  refine Run.q (e := vIv) (gv := vIv) (ok_impl_at _) fun r4 _ => ?_
  refine Run.q (e := vIv) (gv := vIv) (ok_impl_TurnI _) fun r5 _ => ?_
  refine Run.q (e := vIv) (gv := vIv) (ok_impl_SubI _ _) fun r6 _ => ?_
  refine Run.y (gv := vIv) (fun _ => ?_) (fun _ => ?_)
  ·refine Run.q (e := vIv) (gv := vIv) (ok_impl_SinSeries _) fun r7 _ => ?_
   refine Run.q (e := vIv) (gv := vIv) (ok_impl_inRing _) fun r8 _ => ?_
   exact Run.x 0
  ·refine Run.y (gv := vIv) (fun _ => ?_) (fun _ => ?_)
   ·refine Run.q (e := vIv) (gv := vIv) (ok_impl_CosSeries _) fun r9 _ => ?_
    refine Run.q (e := vIv) (gv := vIv) (ok_impl_inRing _) fun r10 _ => ?_
    exact Run.x 0
   ·refine Run.y (gv := vIv) (fun _ => ?_) (fun _ => ?_)
    ·refine Run.q (e := vIv) (gv := vIv) (ok_impl_SinSeries _) fun r11 _ => ?_
     refine Run.q (e := vIv) (gv := vIv) (ok_impl_NegI _) fun r12 _ => ?_
     refine Run.q (e := vIv) (gv := vIv) (ok_impl_inRing _) fun r13 _ => ?_
     exact Run.x 0
    ·refine Run.q (e := vIv) (gv := vIv) (ok_impl_CosSeries _) fun r14 _ => ?_
     refine Run.q (e := vIv) (gv := vIv) (ok_impl_NegI _) fun r15 _ => ?_
     refine Run.q (e := vIv) (gv := vIv) (ok_impl_inRing _) fun r16 _ => ?_
     exact Run.x 0

theorem ok_impl_HullI (a0 : Iv) (a1 : Iv) : Fun Tryz.prog 128 [] #[vIv a0, vIv a1] (vIv (F_impl_HullI a0 a1)) [] := by
 refine Fun.ofH 400 E_ok mixed Tryz.func128 (by kernel_rfl) (by kernel_rfl) ?_
 unfold F_impl_HullI
 refine Run.q (e := vB) (gv := vIv) (ok_impl_areBounded _ _) fun r1 _ => ?_
 refine Run.y (gv := vIv) (fun _ => ?_) (fun _ => ?_)
 ·refine Run.q (e := vIv) (gv := vIv) (ok_impl_Whole) fun r2 _ => ?_
  exact Run.x 0
 ·exact Run.x 0

theorem ok_impl_OverlapI (a0 : Iv) (a1 : Iv) : Fun Tryz.prog 233 [] #[vIv a0, vIv a1] (vB (F_impl_OverlapI a0 a1)) [] := by
 refine Fun.ofH 400 E_ok mixed Tryz.func233 (by kernel_rfl) (by kernel_rfl) ?_
 unfold F_impl_OverlapI
 refine Run.q (e := vT_Iv_B) (gv := vB) (ok_impl_MeetI _ _) fun r1 _ => ?_
 exact Run.x 0

theorem len_impl_turnsIn_L0 (a0 : Iv) : ∀ (fu : Nat) (x_k : I64) (acc : List I64), (F_impl_turnsIn_L0 fu a0 x_k acc).length ≤ acc.length + fu := by
 intro fu
 induction fu with
 | zero => intro x_k acc; exact Nat.le_refl _
 | succ fu ih =>
  intro x_k acc
  unfold F_impl_turnsIn_L0
  simp only [bindP]
  have h1 := ih (w64 (x_k.val + 1)) (acc ++ [x_k])
  have h2 := ih (w64 (x_k.val + 1)) acc
  rw [List.length_append] at h1
  simp only [List.length_cons, List.length_nil] at h1
  cases decide (x_k.val ≤ (w64 ((F_impl_QuarterOf a0.hi).val + 1)).val)
  ·rw [cond_false]; omega
  ·rw [cond_true]
   cases F_impl_OverlapI (F_impl_TurnI x_k) a0
   ·rw [cond_false]; omega
   ·rw [cond_true]; omega
theorem len_impl_turnsIn (a0 : Iv) : (F_impl_turnsIn a0).length ≤ 4000 := by
 have qb := impl_quarter_bounds a0.lo
 unfold F_impl_turnsIn
 simp only [bindP]
 have := len_impl_turnsIn_L0 a0 ((2000 - (w64 ((F_impl_QuarterOf a0.lo).val - 1)).val).toNat + 1) (w64 ((F_impl_QuarterOf a0.lo).val - 1)) []
 have e1 : (w64 ((F_impl_QuarterOf a0.lo).val - 1)).val = (F_impl_QuarterOf a0.lo).val - 1 := by rw [w64_val]; omega
 simp only [List.length_nil, Nat.zero_add] at this
 refine Nat.le_trans this ?_
 omega
theorem ok_impl_turnsIn_L0 (a0 : Iv) : ∀ (fu : Nat) (x_k : I64) (acc : List I64) (v : Value) (X : List Blk) (hv : LS 2 acc v ((#[.int .i64 a0.lo.val, .int .i64 a0.hi.val], 33) :: X)) (hm : (2000 - x_k.val).toNat < fu) (hk : -1100 ≤ x_k.val) (hlen : (acc.length : Int) ≤ x_k.val + 1100)
  (t : Array Value) (ht : maskA t [0, 2, 5, 6, 7, 8, 9, 10, 11, 12, 13, 14, 15, 16, 17, 18, 19, 20, 21, 22, 23, 24, 25] = #[undef, .pointer (some ⟨0, 0, none⟩), undef, v, .int .i64 x_k.val, undef, undef, undef, undef, undef, undef, undef, undef, undef, undef, undef, undef, undef, undef, undef, undef, undef, undef, undef, undef, undef]),
  Cfg Tryz.prog 188 (loopAt Tryz.f188 0) t ((#[.int .i64 a0.lo.val, .int .i64 a0.hi.val], 33) :: X) (LS 2 (F_impl_turnsIn_L0 fu a0 x_k acc)) := by
 intro fu
 induction fu with
 | zero => intro x_k acc v X hv hm; exact absurd hm (Nat.not_lt_zero _)
 | succ fu ih =>
  intro x_k acc v X hv hm hk hlen t ht
  refine Cfg.round E_ok mixed Tryz.func188 ht fun q => ?_
  unfold F_impl_turnsIn_L0
  have qb := impl_quarter_bounds a0.hi
  refine Run.c (by kernel_rfl) (by kernel_rfl) (ok_impl_QuarterOf a0.hi) rfl ?_
  simp only [bindP]
  generalize F_impl_QuarterOf a0.hi = r1 at *
  refine Run.i (c := decide (x_k.val ≤ (w64 (r1.val + 1)).val)) (by kernel_rfl) (fun h1 => ?_) (fun h1 => ?_)
  ·rw [h1, cond_true]
   simp only [w64_val, decide_eq_true_eq] at h1
   refine Run.c (by kernel_rfl) (by kernel_rfl) (ok_impl_TurnI x_k) rfl ?_
   generalize F_impl_TurnI x_k = r2
   refine Run.c (by kernel_rfl) (by kernel_rfl) (ok_impl_OverlapI r2 a0) rfl ?_
   generalize F_impl_OverlapI r2 a0 = r3
   have e1 : (w64 (x_k.val + 1)).val = x_k.val + 1 := by rw [w64_val]; omega
   refine Run.i (c := r3) (by kernel_rfl) (fun h2 => ?_) (fun h2 => ?_)
   ·rw [h2, cond_true]
    refine Run.h (td := appAt Tryz.f188 0) (H := (#[.int .i64 a0.lo.val, .int .i64 a0.hi.val], 33) :: X) (by kernel_rfl) (by kernel_rfl) rfl (by kernel_rfl) ?_
    refine Cfg.app (T := 70) (e := 2) (d1 := 21) (d2 := 22) (d3 := 23) (d4 := 24) (s := 3) (x := 4) (L := acc) (v := v) (z := x_k) (by kernel_rfl) (by kernel_rfl) (by kernel_rfl) (by kernel_rfl) (by decide) (by kernel_rfl) (by kernel_rfl) (by kernel_rfl) hv (by omega) fun v4 H4 hv4 hs4 => ?_
    obtain ⟨X4, rfl⟩ := head_same hs4 (show (33 : Nat) ≠ 2 by decide)
    refine exec_cfg E_ok mixed Tryz.func188 400 _ _ _ _ ?_
    exact Run.l (by kernel_rfl) (by kernel_rfl) (by kernel_rfl) (by kernel_rfl) (ih (w64 (x_k.val + 1)) (acc ++ [x_k]) v4 X4 hv4 (by omega) (by omega) (by rw [List.length_append]; simp only [List.length_cons, List.length_nil]; omega))
   ·rw [h2, cond_false]
    exact Run.l (by kernel_rfl) (by kernel_rfl) (by kernel_rfl) (by kernel_rfl) (ih (w64 (x_k.val + 1)) acc v X hv (by omega) (by omega) (by omega))
  ·rw [h1, cond_false]
   exact Run.rl (v := v) (by kernel_rfl) (by kernel_rfl) hv
theorem ok_impl_turnsIn (a0 : Iv) : FunR Tryz.prog 188 [] #[vIv a0] (Lone 2 (F_impl_turnsIn a0)) := by
 refine FunR.lone (FunR.of 400 E_ok mixed Tryz.func188 (by kernel_rfl) ?_)
 unfold F_impl_turnsIn
 have qb := impl_quarter_bounds a0.lo
 refine Run.c (by kernel_rfl) (by kernel_rfl) (ok_impl_QuarterOf a0.lo) rfl ?_
 simp only [bindP]
 generalize F_impl_QuarterOf a0.lo = r1 at *
 have e1 : (w64 (r1.val - 1)).val = r1.val - 1 := by rw [w64_val]; omega
 exact Run.l (by kernel_rfl) (by kernel_rfl) (by kernel_rfl) (by kernel_rfl) (ok_impl_turnsIn_L0 a0 _ (w64 (r1.val - 1)) [] (.slice none 0 0) [] (.inl ⟨rfl, rfl⟩) (by omega) (by omega) (by simp only [List.length_nil]; omega))

theorem ok_impl_circleHull_L0 : ∀ (fu : Nat) (cp_r7 : Nat) (pd_r7 : List Value) (a1 : I64) (r7 : List I64) (a0 : Iv) (x_24 : I64) (y_2 : Iv) (q0 : 0 ≤ x_24.val) (q1 : ((r7.length : Nat) : Int) ≤ 4000) (hm : (((r7.length : Nat) : Int) - x_24.val).toNat < fu) (t : Array Value) (ht : maskA t [0, 2, 3, 6, 7, 8, 9, 10, 11, 12, 13, 14, 15, 16, 17, 18, 19, 20, 21, 25, 26, 27, 28, 29, 30, 31, 32, 33, 34, 35, 36, 37, 38, 39, 40, 41, 42, 43] = #[undef, .int .i64 a1.val, undef, undef, .pointer (some ⟨1, 0, none⟩), .pointer (some ⟨2, 0, none⟩), undef, undef, undef, undef, undef, undef, undef, undef, undef, undef, undef, undef, undef, undef, undef, undef, .slice (some ⟨3, 0, some 0⟩) r7.length cp_r7, .int .i64 (((r7.length : Nat) : Int)), .int .i64 x_24.val, undef, undef, undef, undef, undef, undef, undef, undef, undef, undef, undef, undef, undef, undef, undef, undef, undef, undef, undef]), Cfg Tryz.prog 167 (loopAt Tryz.f167 0) t [(#[.int .i64 a0.lo.val, .int .i64 a0.hi.val], 33), (#[.int .i64 0, .int .i64 0], 33), (#[.int .i64 y_2.lo.val, .int .i64 y_2.hi.val], 33), (rowOf r7 pd_r7, 2)] (RvH [] (vIv (F_impl_circleHull_L0 fu a1 r7 a0 x_24 y_2))) := by
 intro fu
 induction fu with
 | zero => intro cp_r7 pd_r7 a1 r7 a0 x_24 y_2 q0 q1 hm; exact absurd hm (Nat.not_lt_zero _)
 | succ fu ih =>
  intro cp_r7 pd_r7 a1 r7 a0 x_24 y_2 q0 q1 hm t ht
  refine Cfg.round E_ok mixed Tryz.func167 ht fun g => ?_
  unfold F_impl_circleHull_L0
  refine Run.y (gv := vIv) (fun h8 => ?_) (fun h8 => ?_)
  ·refine Run.k (c := (decide (0 ≤ x_24.val ∧ x_24.val < ((r7.length : Nat) : Int)))) (by kernel_rfl) (by simp only [w64_val, wu64_val, c64_val, cu64_val, decide_eq_true_eq, decide_eq_false_iff_not, cond_true, cond_false] at *; omega) ?_
   refine Run.ld (by kernel_rfl) (listAt_ok (L := r7) (pad := pd_r7) (i := x_24) (by simp only [w64_val, wu64_val, c64_val, cu64_val, decide_eq_true_eq, decide_eq_false_iff_not, cond_true, cond_false] at *; omega)) ?_
   refine Run.y (gv := vIv) (fun h9 => ?_) (fun h9 => ?_)
   ·refine Run.q (e := vIv) (gv := vIv) (ok_impl_Integer _) fun r10 hr10 => ?_
    refine Run.q (e := vIv) (gv := vIv) (ok_impl_HullI _ _) fun r11 hr11 => ?_
    exact Run.l (by kernel_rfl) (by kernel_rfl) (by kernel_rfl) (by kernel_rfl) (ih cp_r7 pd_r7 a1 r7 a0 (w64 (x_24.val + 1)) r11 (by first | omega | (simp only [w64_val, wu64_val, c64_val, cu64_val, decide_eq_true_eq, decide_eq_false_iff_not, cond_true, cond_false] at *; omega)) (by first | omega | (simp only [w64_val, wu64_val, c64_val, cu64_val, decide_eq_true_eq, decide_eq_false_iff_not, cond_true, cond_false] at *; omega)) (by first | omega | (simp only [w64_val, wu64_val, c64_val, cu64_val, decide_eq_true_eq, decide_eq_false_iff_not, cond_true, cond_false] at *; omega)))
   ·refine Run.y (gv := vIv) (fun h12 => ?_) (fun h12 => ?_)
    ·refine Run.q (e := vIv) (gv := vIv) (ok_impl_Integer _) fun r13 hr13 => ?_
     refine Run.q (e := vIv) (gv := vIv) (ok_impl_HullI _ _) fun r14 hr14 => ?_
     exact Run.l (by kernel_rfl) (by kernel_rfl) (by kernel_rfl) (by kernel_rfl) (ih cp_r7 pd_r7 a1 r7 a0 (w64 (x_24.val + 1)) r14 (by first | omega | (simp only [w64_val, wu64_val, c64_val, cu64_val, decide_eq_true_eq, decide_eq_false_iff_not, cond_true, cond_false] at *; omega)) (by first | omega | (simp only [w64_val, wu64_val, c64_val, cu64_val, decide_eq_true_eq, decide_eq_false_iff_not, cond_true, cond_false] at *; omega)) (by first | omega | (simp only [w64_val, wu64_val, c64_val, cu64_val, decide_eq_true_eq, decide_eq_false_iff_not, cond_true, cond_false] at *; omega)))
    ·exact Run.l (by kernel_rfl) (by kernel_rfl) (by kernel_rfl) (by kernel_rfl) (ih cp_r7 pd_r7 a1 r7 a0 (w64 (x_24.val + 1)) y_2 (by first | omega | (simp only [w64_val, wu64_val, c64_val, cu64_val, decide_eq_true_eq, decide_eq_false_iff_not, cond_true, cond_false] at *; omega)) (by first | omega | (simp only [w64_val, wu64_val, c64_val, cu64_val, decide_eq_true_eq, decide_eq_false_iff_not, cond_true, cond_false] at *; omega)) (by first | omega | (simp only [w64_val, wu64_val, c64_val, cu64_val, decide_eq_true_eq, decide_eq_false_iff_not, cond_true, cond_false] at *; omega)))
  ·exact Run.x 0

theorem ok_impl_circleHull (a0 : Iv) (a1 : I64) : Fun Tryz.prog 167 [] #[vIv a0, vI a1] (vIv (F_impl_circleHull a0 a1)) [] := by
 refine Fun.ofH 400 E_ok mixed Tryz.func167 (by kernel_rfl) (by kernel_rfl) ?_
 unfold F_impl_circleHull
 refine Run.q (e := vB) (gv := vIv) (ok_impl_areAngles _) fun r1 hr1 => ?_
 refine Run.y (gv := vIv) (fun h2 => ?_) (fun h2 => ?_)
 ·refine Run.q (e := vIv) (gv := vIv) (ok_impl_ring) fun r3 hr3 => ?_
  exact Run.x 0
 ·refine Run.q (e := vIv) (gv := vIv) (ok_impl_circleValue _ _) fun r4 hr4 => ?_
  refine Run.q (e := vIv) (gv := vIv) (ok_impl_circleValue _ _) fun r5 hr5 => ?_
  refine Run.q (e := vIv) (gv := vIv) (ok_impl_HullI _ _) fun r6 hr6 => ?_
  refine Run.bl (gv := vIv) (by kernel_rfl) (by kernel_rfl) (ok_impl_turnsIn _) (by kernel_rfl) (fun r7 hr7 nr7 => ?_) (fun r7 hr7 cp_r7 pd_r7 => ?_)
  ·subst nr7
   have e0 : F_impl_circleHull_L0 (((([] : List I64).length : Nat) : Int).toNat + 1) a1 ([] : List I64) a0 (c64 0) r6 = r6 := by rw [F_impl_circleHull_L0]; exact cond_false _ _
   show Run _ _ (RvH [] (vIv (F_impl_circleHull_L0 (((([] : List I64).length : Nat) : Int).toNat + 1) a1 ([] : List I64) a0 (c64 0) r6))) _
   rw [e0]
   refine Run.u 400 E_ok mixed Tryz.func167 ?_
   refine Run.z [false] ?_
   exact Run.x 0
  ·have hl_r7 : ((r7.length : Nat) : Int) ≤ 4000 := by rw [hr7]; exact Int.ofNat_le.2 (len_impl_turnsIn _)
   exact Run.l (by kernel_rfl) (by kernel_rfl) (by kernel_rfl) (by kernel_rfl) (ok_impl_circleHull_L0 (((r7.length : Nat) : Int).toNat + 1) cp_r7 pd_r7 a1 r7 a0 (c64 0) r6 (by first | omega | (simp only [w64_val, wu64_val, c64_val, cu64_val, decide_eq_true_eq, decide_eq_false_iff_not, cond_true, cond_false] at *; omega)) (by first | omega | (simp only [w64_val, wu64_val, c64_val, cu64_val, decide_eq_true_eq, decide_eq_false_iff_not, cond_true, cond_false] at *; omega)) (by first | omega | (simp only [w64_val, wu64_val, c64_val, cu64_val, decide_eq_true_eq, decide_eq_false_iff_not, cond_true, cond_false] at *; omega)))

theorem ok_impl_CosI (a0 : Iv) : Fun Tryz.prog 115 [] #[vIv a0] (vIv (F_impl_CosI a0)) [] := by
 refine Fun.ofH 400 E_ok mixed Tryz.func115 (by kernel_rfl) (by kernel_rfl) ?_
 unfold F_impl_CosI
 refine Run.q (e := vIv) (gv := vIv) (ok_impl_circleHull _ _) fun r1 _ => ?_
 exact Run.x 0

theorem ok_impl_planar (a0 : Iv) (a1 : Iv) : Fun Tryz.prog 131 [] #[vIv a0, vIv a1] (vT_Pn_I (F_impl_planar a0 a1)) [] := by
 refine Fun.ofH 400 E_ok mixed Tryz.func131 (by kernel_rfl) (by kernel_rfl) ?_
 unfold F_impl_planar
 refine Run.q (e := vB) (gv := vT_Pn_I) (ok_impl_areBounded _ _) fun r1 _ => ?_
 refine Run.y (gv := vT_Pn_I) (fun _ => ?_) (fun _ => ?_)
 ·exact Run.x 0
 ·exact Run.x 0

theorem ok_impl_SinI (a0 : Iv) : Fun Tryz.prog 132 [] #[vIv a0] (vIv (F_impl_SinI a0)) [] := by
 refine Fun.ofH 400 E_ok mixed Tryz.func132 (by kernel_rfl) (by kernel_rfl) ?_
 unfold F_impl_SinI
 refine Run.q (e := vIv) (gv := vIv) (ok_impl_circleHull _ _) fun r1 _ => ?_
 exact Run.x 0

theorem ok_impl_FixFloor (a0 : I64) (a1 : I64) : Fun Tryz.prog 168 [] #[vI a0, vI a1] (vT_I_B (F_impl_FixFloor a0 a1)) [] := by
 refine Fun.ofH 400 E_ok mixed Tryz.func168 (by kernel_rfl) (by kernel_rfl) ?_
 unfold F_impl_FixFloor
 refine Run.q (e := vT_I_B) (gv := vT_I_B) (ok_impl_MulDivFloor _ _ _) fun r1 _ => ?_
 refine Run.q (e := vT_I_B) (gv := vT_I_B) (ok_impl_fixed _ _) fun r2 _ => ?_
 exact Run.x 0

theorem ok_impl_mulDivCeil (a0 : I64) (a1 : I64) (a2 : I64) : Fun Tryz.prog 226 [] #[vI a0, vI a1, vI a2] (vT_I_B (F_impl_mulDivCeil a0 a1 a2)) [] := by
 refine Fun.ofH 400 E_ok mixed Tryz.func226 (by kernel_rfl) (by kernel_rfl) ?_
 unfold F_impl_mulDivCeil
 refine Run.q (e := vWd) (gv := vT_I_B) (ok_impl_WideMul _ _) fun r1 _ => ?_
 refine Run.q (e := vT_Wd_I_B) (gv := vT_I_B) (ok_impl_WideDiv _ _) fun r2 _ => ?_
 refine Run.y (gv := vT_I_B) (fun _ => ?_) (fun _ => ?_)
 ·exact Run.x 0
 ·refine Run.q (e := vT_I_B) (gv := vT_I_B) (ok_impl_WideInt _) fun r3 _ => ?_
  refine Run.y (gv := vT_I_B) (fun _ => ?_) (fun _ => ?_)
  ·refine Run.z [true, true, true, true, true] ?_
   exact Run.x 0
  ·refine Run.z [false, false] ?_
   refine Run.y (gv := vT_I_B) (fun _ => ?_) (fun _ => ?_)
   ·refine Run.z [true, false, true, false] ?_
    refine Run.y (gv := vT_I_B) (fun _ => ?_) (fun _ => ?_)
    ·exact Run.x 0
    ·refine Run.y (gv := vT_I_B) (fun _ => ?_) (fun _ => ?_)
     ·exact Run.x 0
     ·exact Run.x 0
   ·refine Run.z [false, false, false, false, false] ?_
    refine Run.y (gv := vT_I_B) (fun _ => ?_) (fun _ => ?_)
    ·exact Run.x 0
    ·exact Run.x 0

theorem ok_impl_FixCeil (a0 : I64) (a1 : I64) : Fun Tryz.prog 169 [] #[vI a0, vI a1] (vT_I_B (F_impl_FixCeil a0 a1)) [] := by
 refine Fun.ofH 400 E_ok mixed Tryz.func169 (by kernel_rfl) (by kernel_rfl) ?_
 unfold F_impl_FixCeil
 refine Run.q (e := vT_I_B) (gv := vT_I_B) (ok_impl_mulDivCeil _ _ _) fun r1 _ => ?_
 refine Run.q (e := vT_I_B) (gv := vT_I_B) (ok_impl_fixed _ _) fun r2 _ => ?_
 exact Run.x 0

theorem ok_impl_Quotient (a0 : I64) (a1 : I64) : Fun Tryz.prog 119 [] #[vI a0, vI a1] (vIv (F_impl_Quotient a0 a1)) [] := by
 refine Fun.ofH 400 E_ok mixed Tryz.func119 (by kernel_rfl) (by kernel_rfl) ?_
 unfold F_impl_Quotient
 refine Run.y (gv := vIv) (fun _ => ?_) (fun _ => ?_)
 ·refine Run.y (gv := vIv) (fun _ => ?_) (fun _ => ?_)
  ·refine Run.z [true, true, true] ?_
   refine Run.q (e := vIv) (gv := vIv) (ok_impl_Whole) fun r1 _ => ?_
   exact Run.x 0
  ·refine Run.z [false, false] ?_
   refine Run.y (gv := vIv) (fun _ => ?_) (fun _ => ?_)
   ·refine Run.q (e := vIv) (gv := vIv) (ok_impl_Whole) fun r2 _ => ?_
    exact Run.x 0
   ·refine Run.q (e := vT_I_B) (gv := vIv) (ok_impl_FixFloor _ _) fun r3 _ => ?_
    refine Run.q (e := vT_I_B) (gv := vIv) (ok_impl_FixCeil _ _) fun r4 _ => ?_
    refine Run.y (gv := vIv) (fun _ => ?_) (fun _ => ?_)
    ·refine Run.z [true] ?_
     refine Run.q (e := vIv) (gv := vIv) (ok_impl_bounded _ _ _) fun r5 _ => ?_
     exact Run.x 0
    ·refine Run.z [false] ?_
     refine Run.q (e := vIv) (gv := vIv) (ok_impl_bounded _ _ _) fun r6 _ => ?_
     exact Run.x 0
 ·refine Run.q (e := vT_I_B) (gv := vIv) (ok_impl_FixFloor _ _) fun r7 _ => ?_
  refine Run.q (e := vT_I_B) (gv := vIv) (ok_impl_FixCeil _ _) fun r8 _ => ?_
  refine Run.y (gv := vIv) (fun _ => ?_) (fun _ => ?_)
  ·refine Run.z [true] ?_
   refine Run.q (e := vIv) (gv := vIv) (ok_impl_bounded _ _ _) fun r9 _ => ?_
   exact Run.x 0
  ·refine Run.z [false] ?_
   refine Run.q (e := vIv) (gv := vIv) (ok_impl_bounded _ _ _) fun r10 _ => ?_
   exact Run.x 0

theorem ok_impl_SinAt (a0 : I64) : Fun Tryz.prog 189 [] #[vI a0] (vIv (F_impl_SinAt a0)) [] := by
 refine Fun.ofH 400 E_ok mixed Tryz.func189 (by kernel_rfl) (by kernel_rfl) ?_
 unfold F_impl_SinAt
 refine Run.q (e := vIv) (gv := vIv) (ok_impl_circleValue _ _) fun r1 _ => ?_
 exact Run.x 0

theorem ok_impl_CosAt (a0 : I64) : Fun Tryz.prog 190 [] #[vI a0] (vIv (F_impl_CosAt a0)) [] := by
 refine Fun.ofH 400 E_ok mixed Tryz.func190 (by kernel_rfl) (by kernel_rfl) ?_
 unfold F_impl_CosAt
 refine Run.q (e := vIv) (gv := vIv) (ok_impl_circleValue _ _) fun r1 _ => ?_
 exact Run.x 0

theorem ok_impl_TanI_L0 : ∀ (fu : Nat) (cp_r4 : Nat) (pd_r4 : List Value) (r4 : List I64) (a0 : Iv) (x_12 : I64) (y_1 : Iv) (q0 : 0 ≤ x_12.val) (q1 : ((r4.length : Nat) : Int) ≤ 4000) (hm : (((r4.length : Nat) : Int) - x_12.val).toNat < fu) (t : Array Value) (ht : maskA t [0, 3, 4, 5, 6, 7, 8, 9, 13, 14, 15, 16, 17, 18, 19, 20, 21, 22, 23, 24, 25, 26, 27, 28, 29, 30, 31, 32, 33, 34, 35] = #[undef, .pointer (some ⟨0, 0, none⟩), .pointer (some ⟨1, 0, none⟩), undef, undef, undef, undef, undef, undef, undef, .slice (some ⟨2, 0, some 0⟩) r4.length cp_r4, .int .i64 (((r4.length : Nat) : Int)), .int .i64 x_12.val, undef, undef, undef, undef, undef, undef, undef, undef, undef, undef, undef, undef, undef, undef, undef, undef, undef, undef, undef, undef, undef, undef, undef]), Cfg Tryz.prog 134 (loopAt Tryz.f134 0) t [(#[.int .i64 a0.lo.val, .int .i64 a0.hi.val], 33), (#[.int .i64 y_1.lo.val, .int .i64 y_1.hi.val], 33), (rowOf r4 pd_r4, 2)] (RvH [] (vIv (F_impl_TanI_L0 fu r4 a0 x_12 y_1))) := by
 intro fu
 induction fu with
 | zero => intro cp_r4 pd_r4 r4 a0 x_12 y_1 q0 q1 hm; exact absurd hm (Nat.not_lt_zero _)
 | succ fu ih =>
  intro cp_r4 pd_r4 r4 a0 x_12 y_1 q0 q1 hm t ht
  refine Cfg.round E_ok mixed Tryz.func134 ht fun g => ?_
  unfold F_impl_TanI_L0
  refine Run.y (gv := vIv) (fun h5 => ?_) (fun h5 => ?_)
  ·refine Run.k (c := (decide (0 ≤ x_12.val ∧ x_12.val < ((r4.length : Nat) : Int)))) (by kernel_rfl) (by simp only [w64_val, wu64_val, c64_val, cu64_val, decide_eq_true_eq, decide_eq_false_iff_not, cond_true, cond_false] at *; omega) ?_
   refine Run.ld (by kernel_rfl) (listAt_ok (L := r4) (pad := pd_r4) (i := x_12) (by simp only [w64_val, wu64_val, c64_val, cu64_val, decide_eq_true_eq, decide_eq_false_iff_not, cond_true, cond_false] at *; omega)) ?_
   refine Run.y (gv := vIv) (fun h6 => ?_) (fun h6 => ?_)
   ·refine Run.q (e := vIv) (gv := vIv) (ok_impl_Whole) fun r7 hr7 => ?_
    exact Run.x 0
   ·exact Run.l (by kernel_rfl) (by kernel_rfl) (by kernel_rfl) (by kernel_rfl) (ih cp_r4 pd_r4 r4 a0 (w64 (x_12.val + 1)) y_1 (by first | omega | (simp only [w64_val, wu64_val, c64_val, cu64_val, decide_eq_true_eq, decide_eq_false_iff_not, cond_true, cond_false] at *; omega)) (by first | omega | (simp only [w64_val, wu64_val, c64_val, cu64_val, decide_eq_true_eq, decide_eq_false_iff_not, cond_true, cond_false] at *; omega)) (by first | omega | (simp only [w64_val, wu64_val, c64_val, cu64_val, decide_eq_true_eq, decide_eq_false_iff_not, cond_true, cond_false] at *; omega)))
  ·refine Run.q (e := vIv) (gv := vIv) (ok_impl_SinAt _) fun r8 hr8 => ?_
   refine Run.q (e := vIv) (gv := vIv) (ok_impl_CosAt _) fun r9 hr9 => ?_
   refine Run.q (e := vIv) (gv := vIv) (ok_impl_DivI _ _) fun r10 hr10 => ?_
   refine Run.q (e := vIv) (gv := vIv) (ok_impl_SinAt _) fun r11 hr11 => ?_
   refine Run.q (e := vIv) (gv := vIv) (ok_impl_CosAt _) fun r12 hr12 => ?_
   refine Run.q (e := vIv) (gv := vIv) (ok_impl_DivI _ _) fun r13 hr13 => ?_
   refine Run.q (e := vIv) (gv := vIv) (ok_impl_HullI _ _) fun r14 hr14 => ?_
   exact Run.x 0

theorem ok_impl_TanI (a0 : Iv) : Fun Tryz.prog 134 [] #[vIv a0] (vIv (F_impl_TanI a0)) [] := by
 refine Fun.ofH 400 E_ok mixed Tryz.func134 (by kernel_rfl) (by kernel_rfl) ?_
 unfold F_impl_TanI
 refine Run.q (e := vB) (gv := vIv) (ok_impl_areAngles _) fun r1 hr1 => ?_
 refine Run.y (gv := vIv) (fun h2 => ?_) (fun h2 => ?_)
 ·refine Run.q (e := vIv) (gv := vIv) (ok_impl_Whole) fun r3 hr3 => ?_
  exact Run.x 0
 ·refine Run.bl (gv := vIv) (by kernel_rfl) (by kernel_rfl) (ok_impl_turnsIn _) (by kernel_rfl) (fun r4 hr4 nr4 => ?_) (fun r4 hr4 cp_r4 pd_r4 => ?_)
  ·subst nr4
   have e0 : F_impl_TanI_L0 (((([] : List I64).length : Nat) : Int).toNat + 1) ([] : List I64) a0 (c64 0) (⟨(c64 0), (c64 0)⟩ : Iv) = bindP (F_impl_SinAt a0.lo) fun r15 => bindP (F_impl_CosAt a0.lo) fun r16 => bindP (F_impl_DivI r15 r16) fun r17 => bindP (F_impl_SinAt a0.hi) fun r18 => bindP (F_impl_CosAt a0.hi) fun r19 => bindP (F_impl_DivI r18 r19) fun r20 => bindP (F_impl_HullI r17 r20) fun r21 => r21 := by rw [F_impl_TanI_L0]; exact cond_false _ _
   show Run _ _ (RvH [] (vIv (F_impl_TanI_L0 (((([] : List I64).length : Nat) : Int).toNat + 1) ([] : List I64) a0 (c64 0) (⟨(c64 0), (c64 0)⟩ : Iv)))) _
   rw [e0]
   refine Run.u 400 E_ok mixed Tryz.func134 ?_
   refine Run.z [false] ?_
   refine Run.q (e := vIv) (gv := vIv) (ok_impl_SinAt _) fun r15 hr15 => ?_
   refine Run.q (e := vIv) (gv := vIv) (ok_impl_CosAt _) fun r16 hr16 => ?_
   refine Run.q (e := vIv) (gv := vIv) (ok_impl_DivI _ _) fun r17 hr17 => ?_
   refine Run.q (e := vIv) (gv := vIv) (ok_impl_SinAt _) fun r18 hr18 => ?_
   refine Run.q (e := vIv) (gv := vIv) (ok_impl_CosAt _) fun r19 hr19 => ?_
   refine Run.q (e := vIv) (gv := vIv) (ok_impl_DivI _ _) fun r20 hr20 => ?_
   refine Run.q (e := vIv) (gv := vIv) (ok_impl_HullI _ _) fun r21 hr21 => ?_
   exact Run.x 0
  ·have hl_r4 : ((r4.length : Nat) : Int) ≤ 4000 := by rw [hr4]; exact Int.ofNat_le.2 (len_impl_turnsIn _)
   exact Run.l (by kernel_rfl) (by kernel_rfl) (by kernel_rfl) (by kernel_rfl) (ok_impl_TanI_L0 (((r4.length : Nat) : Int).toNat + 1) cp_r4 pd_r4 r4 a0 (c64 0) (⟨(c64 0), (c64 0)⟩ : Iv) (by first | omega | (simp only [w64_val, wu64_val, c64_val, cu64_val, decide_eq_true_eq, decide_eq_false_iff_not, cond_true, cond_false] at *; omega)) (by first | omega | (simp only [w64_val, wu64_val, c64_val, cu64_val, decide_eq_true_eq, decide_eq_false_iff_not, cond_true, cond_false] at *; omega)) (by first | omega | (simp only [w64_val, wu64_val, c64_val, cu64_val, decide_eq_true_eq, decide_eq_false_iff_not, cond_true, cond_false] at *; omega)))

theorem ok_impl_odd (g : FuncId) : Fun Tryz.prog 182 [] #[.func (.func g) #[] #[]] (.func (.func 228) #[] #[.pointer (some ⟨0, 0, none⟩)]) [(#[.func (.func g) #[] #[]], 43)] := by
 refine FunR.fo rfl (FunR.of 400 E_ok mixed Tryz.func182 (by kernel_rfl) ?_)
 exact Run.r (by kernel_rfl) ⟨0, rfl, by kernel_rfl⟩

theorem ok_impl_WideSqrt_L0 : ∀ (fu : Nat) (a0 : Wd) (x_root : U64) (x_i : I64) (q0 : x_i.val ≤ 63) (hm : (x_i.val + 1).toNat < fu) (t : Array Value) (ht : maskA t [0, 6, 7, 8, 9, 10, 11, 12, 13, 14, 15, 16, 17, 18, 19, 20, 21, 22, 23, 24, 25, 26, 27, 28, 29, 30, 31, 32, 33, 34, 35, 36, 37, 38, 39, 40, 41, 42, 43, 44, 45] = #[undef, .pointer (some ⟨0, 0, none⟩), .int .u64 0, .bool false, .int .u64 x_root.val, .int .i64 x_i.val, undef, undef, undef, undef, undef, undef, undef, undef, undef, undef, undef, undef, undef, undef, undef, undef, undef, undef, undef, undef, undef, undef, undef, undef, undef, undef, undef, undef, undef, undef, undef, undef, undef, undef, undef, undef, undef, undef, undef, undef]), Cfg Tryz.prog 201 (loopAt Tryz.f201 0) t [(#[.int .i64 a0.hi.val, .int .u64 a0.lo.val], 113)] (RvH [] (vT_U_B (F_impl_WideSqrt_L0 fu a0 x_root x_i))) := by
 intro fu
 induction fu with
 | zero => intro a0 x_root x_i q0 hm; exact absurd hm (Nat.not_lt_zero _)
 | succ fu ih =>
  intro a0 x_root x_i q0 hm t ht
  refine Cfg.round E_ok mixed Tryz.func201 ht fun g => ?_
  unfold F_impl_WideSqrt_L0
  refine Run.y (gv := vT_U_B) (fun h2 => ?_) (fun h2 => ?_)
  ·refine Run.k (c := (decide (0 ≤ x_i.val))) (by kernel_rfl) (by simp only [w64_val, wu64_val, c64_val, cu64_val, decide_eq_true_eq] at *; omega) ?_
   refine Run.q (e := vT_U_U) (gv := vT_U_B) (ok_bits_Mul64 _ _) fun r3 hr3 => ?_
   refine Run.y (gv := vT_U_B) (fun h4 => ?_) (fun h4 => ?_)
   ·refine Run.z [true, true, true, true, true, true, true, true] ?_
    exact Run.l (by kernel_rfl) (by kernel_rfl) (by kernel_rfl) (by kernel_rfl) (ih a0 (ior .u64 x_root.val (ishl .u64 1 x_i.val).val) (w64 (x_i.val - 1)) (by have q1 := x_i.lo; simp only [w64_val, wu64_val, c64_val, cu64_val, decide_eq_true_eq] at *; omega) (by have q1 := x_i.lo; simp only [w64_val, wu64_val, c64_val, cu64_val, decide_eq_true_eq] at *; omega))
   ·refine Run.z [false, false, false, false, false] ?_
    refine Run.y (gv := vT_U_B) (fun h5 => ?_) (fun h5 => ?_)
    ·refine Run.z [true, true, true, false, true, false] ?_
     refine Run.y (gv := vT_U_B) (fun h6 => ?_) (fun h6 => ?_)
     ·exact Run.l (by kernel_rfl) (by kernel_rfl) (by kernel_rfl) (by kernel_rfl) (ih a0 (ior .u64 x_root.val (ishl .u64 1 x_i.val).val) (w64 (x_i.val - 1)) (by have q1 := x_i.lo; simp only [w64_val, wu64_val, c64_val, cu64_val, decide_eq_true_eq] at *; omega) (by have q1 := x_i.lo; simp only [w64_val, wu64_val, c64_val, cu64_val, decide_eq_true_eq] at *; omega))
     ·exact Run.l (by kernel_rfl) (by kernel_rfl) (by kernel_rfl) (by kernel_rfl) (ih a0 x_root (w64 (x_i.val - 1)) (by have q1 := x_i.lo; simp only [w64_val, wu64_val, c64_val, cu64_val, decide_eq_true_eq] at *; omega) (by have q1 := x_i.lo; simp only [w64_val, wu64_val, c64_val, cu64_val, decide_eq_true_eq] at *; omega))
    ·refine Run.z [false, false, false, false, false, false, false] ?_
     exact Run.l (by kernel_rfl) (by kernel_rfl) (by kernel_rfl) (by kernel_rfl) (ih a0 x_root (w64 (x_i.val - 1)) (by have q1 := x_i.lo; simp only [w64_val, wu64_val, c64_val, cu64_val, decide_eq_true_eq] at *; omega) (by have q1 := x_i.lo; simp only [w64_val, wu64_val, c64_val, cu64_val, decide_eq_true_eq] at *; omega))
  ·exact Run.x 0

theorem ok_impl_WideSqrt (a0 : Wd) : Fun Tryz.prog 201 [] #[vWd a0] (vT_U_B (F_impl_WideSqrt a0)) [] := by
 refine Fun.ofH 400 E_ok mixed Tryz.func201 (by kernel_rfl) (by kernel_rfl) ?_
 unfold F_impl_WideSqrt
 refine Run.y (gv := vT_U_B) (fun h1 => ?_) (fun h1 => ?_)
 ·exact Run.x 0
 ·exact Run.l (by kernel_rfl) (by kernel_rfl) (by kernel_rfl) (by kernel_rfl) (ok_impl_WideSqrt_L0 65 a0 (cu64 0) (c64 63) (by decide) (by decide))

theorem ok_impl_SqrtFloor (a0 : I64) (a1 : I64) : Fun Tryz.prog 147 [] #[vI a0, vI a1] (vT_I_B (F_impl_SqrtFloor a0 a1)) [] := by
 refine Fun.ofH 400 E_ok mixed Tryz.func147 (by kernel_rfl) (by kernel_rfl) ?_
 unfold F_impl_SqrtFloor
 refine Run.y (gv := vT_I_B) (fun _ => ?_) (fun _ => ?_)
 ·refine Run.z [true, true, true] ?_
  exact Run.x 0
 ·refine Run.z [false, false] ?_
  refine Run.y (gv := vT_I_B) (fun _ => ?_) (fun _ => ?_)
  ·exact Run.x 0
  ·refine Run.q (e := vWd) (gv := vT_I_B) (ok_impl_WideMul _ _) fun r1 _ => ?_
   refine Run.q (e := vT_U_B) (gv := vT_I_B) (ok_impl_WideSqrt _) fun r2 _ => ?_
   exact Run.x 0

theorem ok_impl_SqrtDown (a0 : I64) : Fun Tryz.prog 82 [] #[vI a0] (vT_I_B (F_impl_SqrtDown a0)) [] := by
 refine Fun.ofH 400 E_ok mixed Tryz.func82 (by kernel_rfl) (by kernel_rfl) ?_
 unfold F_impl_SqrtDown
 refine Run.q (e := vB) (gv := vT_I_B) (ok_impl_ValidFix _) fun r1 _ => ?_
 refine Run.y (gv := vT_I_B) (fun _ => ?_) (fun _ => ?_)
 ·exact Run.x 0
 ·refine Run.q (e := vT_I_B) (gv := vT_I_B) (ok_impl_SqrtFloor _ _) fun r2 _ => ?_
  refine Run.q (e := vT_I_B) (gv := vT_I_B) (ok_impl_fixed _ _) fun r3 _ => ?_
  exact Run.x 0

theorem ok_impl_SqrtUp (a0 : I64) : Fun Tryz.prog 83 [] #[vI a0] (vT_I_B (F_impl_SqrtUp a0)) [] := by
 refine Fun.ofH 400 E_ok mixed Tryz.func83 (by kernel_rfl) (by kernel_rfl) ?_
 unfold F_impl_SqrtUp
 refine Run.q (e := vT_I_B) (gv := vT_I_B) (ok_impl_SqrtDown _) fun r1 _ => ?_
 refine Run.y (gv := vT_I_B) (fun _ => ?_) (fun _ => ?_)
 ·refine Run.z [true, true] ?_
  refine Run.q (e := vWd) (gv := vT_I_B) (ok_impl_WideMul _ _) fun r2 _ => ?_
  refine Run.z [true, true] ?_
  refine Run.q (e := vWd) (gv := vT_I_B) (ok_impl_WideMul _ _) fun r3 _ => ?_
  refine Run.z [true, true] ?_
  refine Run.y (gv := vT_I_B) (fun _ => ?_) (fun _ => ?_)
  ·refine Run.q (e := vT_I_B) (gv := vT_I_B) (ok_impl_fixed _ _) fun r4 _ => ?_
   exact Run.x 0
  ·refine Run.q (e := vT_I_B) (gv := vT_I_B) (ok_impl_fixed _ _) fun r5 _ => ?_
   exact Run.x 0
 ·refine Run.z [false, false, false, false, false, false, false] ?_
  refine Run.q (e := vT_I_B) (gv := vT_I_B) (ok_impl_fixed _ _) fun r6 _ => ?_
  exact Run.x 0

theorem ok_impl_SqrtI (a0 : Iv) : Fun Tryz.prog 32 [] #[vIv a0] (vIv (F_impl_SqrtI a0)) [] := by
 refine Fun.ofH 400 E_ok mixed Tryz.func32 (by kernel_rfl) (by kernel_rfl) ?_
 unfold F_impl_SqrtI
 refine Run.q (e := vB) (gv := vIv) (ok_impl_IsWhole _) fun r1 _ => ?_
 refine Run.y (gv := vIv) (fun _ => ?_) (fun _ => ?_)
 ·refine Run.z [true, true, true, true] ?_
  refine Run.q (e := vIv) (gv := vIv) (ok_impl_Whole) fun r2 _ => ?_
  exact Run.x 0
 ·refine Run.z [false, false, false] ?_
  refine Run.y (gv := vIv) (fun _ => ?_) (fun _ => ?_)
  ·refine Run.q (e := vIv) (gv := vIv) (ok_impl_Whole) fun r3 _ => ?_
   exact Run.x 0
  ·refine Run.q (e := vT_I_B) (gv := vIv) (ok_impl_SqrtDown _) fun r4 _ => ?_
   refine Run.q (e := vT_I_B) (gv := vIv) (ok_impl_SqrtUp _) fun r5 _ => ?_
   refine Run.y (gv := vIv) (fun _ => ?_) (fun _ => ?_)
   ·refine Run.z [true] ?_
    refine Run.q (e := vIv) (gv := vIv) (ok_impl_bounded _ _ _) fun r6 _ => ?_
    exact Run.x 0
   ·refine Run.z [false] ?_
    refine Run.q (e := vIv) (gv := vIv) (ok_impl_bounded _ _ _) fun r7 _ => ?_
    exact Run.x 0

theorem ok_impl_twosOf_L1 : ∀ (fu : Nat) (a0 : I64) (x_e : I64) (q0 : 1 ≤ a0.val) (q1 : a0.val ≤ 1152921504606846976) (q2 : -1000 ≤ x_e.val) (q3 : x_e.val ≤ 0 → a0.val * 2 ^ (0 - x_e.val).toNat < 6442450944) (hm : (64 + x_e.val).toNat < fu) (t : Array Value) (ht : maskA t [1, 4, 5, 6, 7, 8, 9, 10, 11, 12, 13, 14, 15, 16, 17, 18, 19, 20, 21] = #[.int .i64 a0.val, undef, .int .i64 0, .int .i64 x_e.val, undef, undef, undef, undef, undef, undef, undef, undef, undef, undef, undef, undef, undef, undef, undef, undef, undef, undef]), Cfg Tryz.prog 229 (loopAt Tryz.f229 1) t [] (RvH [] (vI (F_impl_twosOf_L1 fu a0 x_e))) := by
 intro fu
 induction fu with
 | zero => intro a0 x_e q0 q1 q2 q3 hm; exact absurd hm (Nat.not_lt_zero _)
 | succ fu ih =>
  intro a0 x_e q0 q1 q2 q3 hm t ht
  refine Cfg.round E_ok mixed Tryz.func229 ht fun g => ?_
  unfold F_impl_twosOf_L1
  refine Run.y (gv := vI) (fun h2 => ?_) (fun h2 => ?_)
  ·refine Run.z [true, true, true] ?_
   refine Run.k (c := (decide (0 ≤ (w64 (0 - x_e.val)).val))) (by kernel_rfl) (by first | exact decide_eq_true (by omega) | (simp only [w64_val, decide_eq_true_eq] at *; omega)) ?_
   refine Run.z [true, true] ?_
   refine Run.y (gv := vI) (fun h3 => ?_) (fun h3 => ?_)
   ·exact Run.l (by kernel_rfl) (by kernel_rfl) (by kernel_rfl) (by kernel_rfl) (ih a0 (w64 (x_e.val - 1)) (by first | exact q0 | exact q1 | exact Nat.lt_succ_self _ | (have z := two_less a0 x_e q0 q3 h2 h3; first | exact z.2.2 | (simp only [w64_val]; omega))) (by first | exact q0 | exact q1 | exact Nat.lt_succ_self _ | (have z := two_less a0 x_e q0 q3 h2 h3; first | exact z.2.2 | (simp only [w64_val]; omega))) (by first | exact q0 | exact q1 | exact Nat.lt_succ_self _ | (have z := two_less a0 x_e q0 q3 h2 h3; first | exact z.2.2 | (simp only [w64_val]; omega))) (by first | exact q0 | exact q1 | exact Nat.lt_succ_self _ | (have z := two_less a0 x_e q0 q3 h2 h3; first | exact z.2.2 | (simp only [w64_val]; omega))) (by first | exact q0 | exact q1 | exact Nat.lt_succ_self _ | (have z := two_less a0 x_e q0 q3 h2 h3; first | exact z.2.2 | (simp only [w64_val]; omega))))
   ·exact Run.x 0
  ·refine Run.z [false, false, false, false, false, false] ?_
   exact Run.x 0

theorem ok_impl_twosOf_L0 : ∀ (fu : Nat) (a0 : I64) (x_e : I64) (q0 : 1 ≤ a0.val) (q1 : a0.val ≤ 1152921504606846976) (q2 : 0 ≤ x_e.val ∧ x_e.val ≤ 40) (hm : (64 - x_e.val).toNat < fu) (t : Array Value) (ht : maskA t [1, 4, 5, 6, 7, 8, 9, 10, 11, 12, 13, 14, 15, 16, 17, 18, 19, 20, 21] = #[.int .i64 a0.val, undef, .int .i64 0, .int .i64 x_e.val, undef, undef, undef, undef, undef, undef, undef, undef, undef, undef, undef, undef, undef, undef, undef, undef, undef, undef]), Cfg Tryz.prog 229 (loopAt Tryz.f229 0) t [] (RvH [] (vI (F_impl_twosOf_L0 fu a0 x_e))) := by
 intro fu
 induction fu with
 | zero => intro a0 x_e q0 q1 q2 hm; exact absurd hm (Nat.not_lt_zero _)
 | succ fu ih =>
  intro a0 x_e q0 q1 q2 hm t ht
  refine Cfg.round E_ok mixed Tryz.func229 ht fun g => ?_
  unfold F_impl_twosOf_L0
  refine Run.k (c := (decide (0 ≤ x_e.val))) (by kernel_rfl) (by first | exact decide_eq_true (by omega) | (simp only [w64_val, decide_eq_true_eq] at *; omega)) ?_
  refine Run.y (gv := vI) (fun h1 => ?_) (fun h1 => ?_)
  ·exact Run.l (by kernel_rfl) (by kernel_rfl) (by kernel_rfl) (by kernel_rfl) (ih a0 (w64 (x_e.val + 1)) (by first | exact q0 | exact q1 | exact Nat.lt_succ_self _ | exact two_exit a0 x_e q2.1 h1 | (have z := shr_big a0 x_e q1 q2.1 h1; simp only [w64_val]; omega)) (by first | exact q0 | exact q1 | exact Nat.lt_succ_self _ | exact two_exit a0 x_e q2.1 h1 | (have z := shr_big a0 x_e q1 q2.1 h1; simp only [w64_val]; omega)) (by first | exact q0 | exact q1 | exact Nat.lt_succ_self _ | exact two_exit a0 x_e q2.1 h1 | (have z := shr_big a0 x_e q1 q2.1 h1; simp only [w64_val]; omega)) (by first | exact q0 | exact q1 | exact Nat.lt_succ_self _ | exact two_exit a0 x_e q2.1 h1 | (have z := shr_big a0 x_e q1 q2.1 h1; simp only [w64_val]; omega)))
  ·exact Run.l (by kernel_rfl) (by kernel_rfl) (by kernel_rfl) (by kernel_rfl) (ok_impl_twosOf_L1 ((64 + x_e.val).toNat + 1) a0 x_e (by first | exact q0 | exact q1 | exact Nat.lt_succ_self _ | exact two_exit a0 x_e q2.1 h1 | omega) (by first | exact q0 | exact q1 | exact Nat.lt_succ_self _ | exact two_exit a0 x_e q2.1 h1 | omega) (by first | exact q0 | exact q1 | exact Nat.lt_succ_self _ | exact two_exit a0 x_e q2.1 h1 | omega) (by first | exact q0 | exact q1 | exact Nat.lt_succ_self _ | exact two_exit a0 x_e q2.1 h1 | omega) (by first | exact q0 | exact q1 | exact Nat.lt_succ_self _ | exact two_exit a0 x_e q2.1 h1 | omega))

theorem ok_impl_twosOf (a0 : I64) (p0 : 1 ≤ a0.val) (p1 : a0.val ≤ 1152921504606846976) : Fun Tryz.prog 229 [] #[vI a0] (vI (F_impl_twosOf a0)) [] := by
 refine Fun.ofH 400 E_ok mixed Tryz.func229 (by kernel_rfl) (by kernel_rfl) ?_
 unfold F_impl_twosOf
 exact Run.l (by kernel_rfl) (by kernel_rfl) (by kernel_rfl) (by kernel_rfl) (ok_impl_twosOf_L0 ((64 - (c64 0).val).toNat + 1) a0 (c64 0) (by first | exact p0 | exact p1 | exact ⟨by decide, by decide⟩ | exact Nat.lt_succ_self _) (by first | exact p0 | exact p1 | exact ⟨by decide, by decide⟩ | exact Nat.lt_succ_self _) (by first | exact p0 | exact p1 | exact ⟨by decide, by decide⟩ | exact Nat.lt_succ_self _) (by first | exact p0 | exact p1 | exact ⟨by decide, by decide⟩ | exact Nat.lt_succ_self _))

theorem ok_impl_LogTwoI_r : ∀ (fu : Nat) (a0 : I64) (hm : min (0 - a0.val).toNat 1 < fu), Fun Tryz.prog 185 [] #[vI a0] (vIv (F_impl_LogTwoI_r fu a0)) [] := by
 intro fu
 induction fu with
 | zero => intro a0 hm; exact absurd hm (Nat.not_lt_zero _)
 | succ fu ih =>
  intro a0 hm
  refine Fun.ofH 400 E_ok mixed Tryz.func185 (by kernel_rfl) (by kernel_rfl) ?_
  unfold F_impl_LogTwoI_r
  unfold F_impl_LogTwoI_b
  refine Run.q (e := vB) (gv := vIv) (ok_impl_within _ _ _) fun r1 hr1 => ?_
  refine Run.y (gv := vIv) (fun h2 => ?_) (fun h2 => ?_)
  ·refine Run.q (e := vIv) (gv := vIv) (ok_impl_Whole) fun r3 hr3 => ?_
   exact Run.x 0
  ·refine Run.y (gv := vIv) (fun h4 => ?_) (fun h4 => ?_)
   ·refine Run.q (e := vIv) (gv := vIv) (ih (w64 (0 - a0.val)) (by rw [hr1] at h2; simp [F_impl_within, c64_val] at h2; simp only [w64_val, decide_eq_true_eq, decide_eq_false_iff_not] at *; omega)) fun r5 hr5 => ?_
    refine Run.q (e := vIv) (gv := vIv) (ok_impl_NegI _) fun r6 hr6 => ?_
    exact Run.x 0
   ·refine Run.q (e := vT_I_B) (gv := vIv) (ok_impl_MulFloor _ _ _) fun r7 hr7 => ?_
    refine Run.q (e := vT_I_B) (gv := vIv) (ok_impl_MulFloor _ _ _) fun r8 hr8 => ?_
    exact Run.x 0
theorem ok_impl_LogTwoI (a0 : I64) : Fun Tryz.prog 185 [] #[vI a0] (vIv (F_impl_LogTwoI a0)) [] := ok_impl_LogTwoI_r 2 a0 (by omega)

theorem ok_impl_widened (a0 : Iv) (a1 : I64) : Fun Tryz.prog 230 [] #[vIv a0, vI a1] (vIv (F_impl_widened a0 a1)) [] := by
 refine Fun.ofH 400 E_ok mixed Tryz.func230 (by kernel_rfl) (by kernel_rfl) ?_
 unfold F_impl_widened
 refine Run.q (e := vB) (gv := vIv) (ok_impl_ValidInterval _) fun r1 _ => ?_
 refine Run.q (e := vIv) (gv := vIv) (ok_impl_bounded _ _ _) fun r2 _ => ?_
 exact Run.x 0

theorem ok_impl_LogAt (a0 : I64) : Fun Tryz.prog 186 [] #[vI a0] (vIv (F_impl_LogAt a0)) [] := by
 refine Fun.ofH 400 E_ok mixed Tryz.func186 (by kernel_rfl) (by kernel_rfl) ?_
 unfold F_impl_LogAt
 refine Run.q (e := vB) (gv := vIv) (ok_impl_ValidFix _) fun r1 hr1 => ?_
 refine Run.y (gv := vIv) (fun h2 => ?_) (fun h2 => ?_)
 ·refine Run.z [true, true, true] ?_
  refine Run.q (e := vIv) (gv := vIv) (ok_impl_Whole) fun r3 hr3 => ?_
  exact Run.x 0
 ·refine Run.z [false, false] ?_
  refine Run.y (gv := vIv) (fun h4 => ?_) (fun h4 => ?_)
  ·refine Run.q (e := vIv) (gv := vIv) (ok_impl_Whole) fun r5 hr5 => ?_
   exact Run.x 0
  ·refine Run.q (e := vI) (gv := vIv) (ok_impl_twosOf _ (by first | (have z := validfix_p hr1 h2; simp only [decide_eq_false_iff_not] at h4; omega) | (simp only [decide_eq_true_eq] at h8 ⊢; omega) | (have z := twosOf_b a0; rw [← hr6] at z; simp only [decide_eq_false_iff_not] at h8; simp only [w64_val, decide_eq_true_eq]; omega)) (by first | (have z := validfix_p hr1 h2; simp only [decide_eq_false_iff_not] at h4; omega) | (simp only [decide_eq_true_eq] at h8 ⊢; omega) | (have z := twosOf_b a0; rw [← hr6] at z; simp only [decide_eq_false_iff_not] at h8; simp only [w64_val, decide_eq_true_eq]; omega))) fun r6 hr6 => ?_
   refine Run.q (e := vIv) (gv := vIv) (ok_impl_at _) fun r7 hr7 => ?_
   refine Run.y (gv := vIv) (fun h8 => ?_) (fun h8 => ?_)
   ·refine Run.k (c := (decide (0 ≤ r6.val))) (by kernel_rfl) (by first | (have z := validfix_p hr1 h2; simp only [decide_eq_false_iff_not] at h4; omega) | (simp only [decide_eq_true_eq] at h8 ⊢; omega) | (have z := twosOf_b a0; rw [← hr6] at z; simp only [decide_eq_false_iff_not] at h8; simp only [w64_val, decide_eq_true_eq]; omega)) ?_
    refine Run.k (c := (decide (0 ≤ r6.val))) (by kernel_rfl) (by first | (have z := validfix_p hr1 h2; simp only [decide_eq_false_iff_not] at h4; omega) | (simp only [decide_eq_true_eq] at h8 ⊢; omega) | (have z := twosOf_b a0; rw [← hr6] at z; simp only [decide_eq_false_iff_not] at h8; simp only [w64_val, decide_eq_true_eq]; omega)) ?_
    refine Run.q (e := vIv) (gv := vIv) (ok_impl_Integer _) fun r9 hr9 => ?_
    refine Run.q (e := vIv) (gv := vIv) (ok_impl_SubI _ _) fun r10 hr10 => ?_
    refine Run.q (e := vIv) (gv := vIv) (ok_impl_Integer _) fun r11 hr11 => ?_
    refine Run.q (e := vIv) (gv := vIv) (ok_impl_AddI _ _) fun r12 hr12 => ?_
    refine Run.q (e := vIv) (gv := vIv) (ok_impl_DivI _ _) fun r13 hr13 => ?_
    refine Run.q (e := vIv) (gv := vIv) (ok_impl_SqrI _) fun r14 hr14 => ?_
    refine Run.q (e := vIv) (gv := vIv) (ok_impl_Quotient _ _) fun r15 hr15 => ?_
    refine Run.u 400 E_ok mixed Tryz.func186 ?_
    refine Run.z [true] ?_
    refine Run.q (e := vIv) (gv := vIv) (ok_impl_Quotient _ _) fun r16 hr16 => ?_
    refine Run.q (e := vIv) (gv := vIv) (ok_impl_MulI _ _) fun r17 hr17 => ?_
    refine Run.q (e := vIv) (gv := vIv) (ok_impl_AddI _ _) fun r18 hr18 => ?_
    refine Run.u 400 E_ok mixed Tryz.func186 ?_
    refine Run.z [true] ?_
    refine Run.q (e := vIv) (gv := vIv) (ok_impl_Quotient _ _) fun r19 hr19 => ?_
    refine Run.q (e := vIv) (gv := vIv) (ok_impl_MulI _ _) fun r20 hr20 => ?_
    refine Run.q (e := vIv) (gv := vIv) (ok_impl_AddI _ _) fun r21 hr21 => ?_
    refine Run.u 400 E_ok mixed Tryz.func186 ?_
    refine Run.z [true] ?_
    refine Run.q (e := vIv) (gv := vIv) (ok_impl_Quotient _ _) fun r22 hr22 => ?_
    refine Run.q (e := vIv) (gv := vIv) (ok_impl_MulI _ _) fun r23 hr23 => ?_
    refine Run.q (e := vIv) (gv := vIv) (ok_impl_AddI _ _) fun r24 hr24 => ?_
    refine Run.u 400 E_ok mixed Tryz.func186 ?_
    refine Run.z [true] ?_
    refine Run.q (e := vIv) (gv := vIv) (ok_impl_Quotient _ _) fun r25 hr25 => ?_
    refine Run.q (e := vIv) (gv := vIv) (ok_impl_MulI _ _) fun r26 hr26 => ?_
    refine Run.q (e := vIv) (gv := vIv) (ok_impl_AddI _ _) fun r27 hr27 => ?_
    refine Run.u 400 E_ok mixed Tryz.func186 ?_
    refine Run.z [true] ?_
    refine Run.q (e := vIv) (gv := vIv) (ok_impl_Quotient _ _) fun r28 hr28 => ?_
    refine Run.q (e := vIv) (gv := vIv) (ok_impl_MulI _ _) fun r29 hr29 => ?_
    refine Run.q (e := vIv) (gv := vIv) (ok_impl_AddI _ _) fun r30 hr30 => ?_
    refine Run.u 400 E_ok mixed Tryz.func186 ?_
    refine Run.z [false] ?_
    refine Run.q (e := vIv) (gv := vIv) (ok_impl_LogTwoI _) fun r31 hr31 => ?_
    refine Run.q (e := vIv) (gv := vIv) (ok_impl_Integer _) fun r32 hr32 => ?_
    refine Run.q (e := vIv) (gv := vIv) (ok_impl_MulI _ _) fun r33 hr33 => ?_
    refine Run.q (e := vIv) (gv := vIv) (ok_impl_MulI _ _) fun r34 hr34 => ?_
    refine Run.q (e := vIv) (gv := vIv) (ok_impl_widened _ _) fun r35 hr35 => ?_
    refine Run.q (e := vIv) (gv := vIv) (ok_impl_AddI _ _) fun r36 hr36 => ?_
    exact Run.x 0
   ·refine Run.k (c := (decide (0 ≤ (w64 (0 - r6.val)).val))) (by kernel_rfl) (by first | (have z := validfix_p hr1 h2; simp only [decide_eq_false_iff_not] at h4; omega) | (simp only [decide_eq_true_eq] at h8 ⊢; omega) | (have z := twosOf_b a0; rw [← hr6] at z; simp only [decide_eq_false_iff_not] at h8; simp only [w64_val, decide_eq_true_eq]; omega)) ?_
    refine Run.q (e := vIv) (gv := vIv) (ok_impl_at _) fun r37 hr37 => ?_
    refine Run.q (e := vIv) (gv := vIv) (ok_impl_Integer _) fun r38 hr38 => ?_
    refine Run.q (e := vIv) (gv := vIv) (ok_impl_SubI _ _) fun r39 hr39 => ?_
    refine Run.q (e := vIv) (gv := vIv) (ok_impl_Integer _) fun r40 hr40 => ?_
    refine Run.q (e := vIv) (gv := vIv) (ok_impl_AddI _ _) fun r41 hr41 => ?_
    refine Run.q (e := vIv) (gv := vIv) (ok_impl_DivI _ _) fun r42 hr42 => ?_
    refine Run.q (e := vIv) (gv := vIv) (ok_impl_SqrI _) fun r43 hr43 => ?_
    refine Run.q (e := vIv) (gv := vIv) (ok_impl_Quotient _ _) fun r44 hr44 => ?_
    refine Run.u 400 E_ok mixed Tryz.func186 ?_
    refine Run.z [true] ?_
    refine Run.q (e := vIv) (gv := vIv) (ok_impl_Quotient _ _) fun r45 hr45 => ?_
    refine Run.q (e := vIv) (gv := vIv) (ok_impl_MulI _ _) fun r46 hr46 => ?_
    refine Run.q (e := vIv) (gv := vIv) (ok_impl_AddI _ _) fun r47 hr47 => ?_
    refine Run.u 400 E_ok mixed Tryz.func186 ?_
    refine Run.z [true] ?_
    refine Run.q (e := vIv) (gv := vIv) (ok_impl_Quotient _ _) fun r48 hr48 => ?_
    refine Run.q (e := vIv) (gv := vIv) (ok_impl_MulI _ _) fun r49 hr49 => ?_
    refine Run.q (e := vIv) (gv := vIv) (ok_impl_AddI _ _) fun r50 hr50 => ?_
    refine Run.u 400 E_ok mixed Tryz.func186 ?_
    refine Run.z [true] ?_
    refine Run.q (e := vIv) (gv := vIv) (ok_impl_Quotient _ _) fun r51 hr51 => ?_
    refine Run.q (e := vIv) (gv := vIv) (ok_impl_MulI _ _) fun r52 hr52 => ?_
    refine Run.q (e := vIv) (gv := vIv) (ok_impl_AddI _ _) fun r53 hr53 => ?_
    refine Run.u 400 E_ok mixed Tryz.func186 ?_
    refine Run.z [true] ?_
    refine Run.q (e := vIv) (gv := vIv) (ok_impl_Quotient _ _) fun r54 hr54 => ?_
    refine Run.q (e := vIv) (gv := vIv) (ok_impl_MulI _ _) fun r55 hr55 => ?_
    refine Run.q (e := vIv) (gv := vIv) (ok_impl_AddI _ _) fun r56 hr56 => ?_
    refine Run.u 400 E_ok mixed Tryz.func186 ?_
    refine Run.z [true] ?_
    refine Run.q (e := vIv) (gv := vIv) (ok_impl_Quotient _ _) fun r57 hr57 => ?_
    refine Run.q (e := vIv) (gv := vIv) (ok_impl_MulI _ _) fun r58 hr58 => ?_
    refine Run.q (e := vIv) (gv := vIv) (ok_impl_AddI _ _) fun r59 hr59 => ?_
    refine Run.u 400 E_ok mixed Tryz.func186 ?_
    refine Run.z [false] ?_
    refine Run.q (e := vIv) (gv := vIv) (ok_impl_LogTwoI _) fun r60 hr60 => ?_
    refine Run.q (e := vIv) (gv := vIv) (ok_impl_Integer _) fun r61 hr61 => ?_
    refine Run.q (e := vIv) (gv := vIv) (ok_impl_MulI _ _) fun r62 hr62 => ?_
    refine Run.q (e := vIv) (gv := vIv) (ok_impl_MulI _ _) fun r63 hr63 => ?_
    refine Run.q (e := vIv) (gv := vIv) (ok_impl_widened _ _) fun r64 hr64 => ?_
    refine Run.q (e := vIv) (gv := vIv) (ok_impl_AddI _ _) fun r65 hr65 => ?_
    exact Run.x 0

theorem ok_impl_monotonic__impl_LogAt (a0 : Iv) : Fun Tryz.prog 181 [] #[vIv a0, .func (.func 186) #[] #[]] (vIv (F_impl_monotonic__impl_LogAt a0)) [] := by
 refine Fun.ofH 400 E_ok mixed Tryz.func181 (by kernel_rfl) (by kernel_rfl) ?_
 unfold F_impl_monotonic__impl_LogAt
 refine Run.q (e := vB) (gv := vIv) (ok_impl_IsWhole _) fun r1 _ => ?_
 refine Run.y (gv := vIv) (fun _ => ?_) (fun _ => ?_)
 ·refine Run.q (e := vIv) (gv := vIv) (ok_impl_Whole) fun r2 _ => ?_
  exact Run.x 0
 ·refine Run.q (e := vIv) (gv := vIv) (ok_impl_LogAt _) fun r3 _ => ?_
  refine Run.q (e := vIv) (gv := vIv) (ok_impl_LogAt _) fun r4 _ => ?_
  refine Run.q (e := vB) (gv := vIv) (ok_impl_areBounded _ _) fun r5 _ => ?_
  refine Run.y (gv := vIv) (fun _ => ?_) (fun _ => ?_)
  ·refine Run.q (e := vIv) (gv := vIv) (ok_impl_Whole) fun r6 _ => ?_
   exact Run.x 0
  ·refine Run.q (e := vIv) (gv := vIv) (ok_impl_bounded _ _ _) fun r7 _ => ?_
   exact Run.x 0

theorem ok_impl_LogI (a0 : Iv) : Fun Tryz.prog 184 [] #[vIv a0] (vIv (F_impl_LogI a0)) [] := by
 refine Fun.ofH 400 E_ok mixed Tryz.func184 (by kernel_rfl) (by kernel_rfl) ?_
 unfold F_impl_LogI
 refine Run.q (e := vIv) (gv := vIv) (ok_impl_monotonic__impl_LogAt _) fun r1 _ => ?_
 exact Run.x 0

theorem ok_impl_AsinhI_1 (a0 : I64) : Fun Tryz.prog 183 [] #[vI a0] (vIv (F_impl_AsinhI_1 a0)) [] := by
 refine Fun.ofH 400 E_ok mixed Tryz.func183 (by kernel_rfl) (by kernel_rfl) ?_
 unfold F_impl_AsinhI_1
 refine Run.y (gv := vIv) (fun _ => ?_) (fun _ => ?_)
 ·refine Run.q (e := vIv) (gv := vIv) (ok_impl_at _) fun r1 _ => ?_
  refine Run.q (e := vIv) (gv := vIv) (ok_impl_at _) fun r2 _ => ?_
  refine Run.q (e := vIv) (gv := vIv) (ok_impl_SqrI _) fun r3 _ => ?_
  refine Run.q (e := vIv) (gv := vIv) (ok_impl_Integer _) fun r4 _ => ?_
  refine Run.q (e := vIv) (gv := vIv) (ok_impl_AddI _ _) fun r5 _ => ?_
  refine Run.q (e := vIv) (gv := vIv) (ok_impl_SqrtI _) fun r6 _ => ?_
  refine Run.q (e := vIv) (gv := vIv) (ok_impl_AddI _ _) fun r7 _ => ?_
  refine Run.q (e := vIv) (gv := vIv) (ok_impl_LogI _) fun r8 _ => ?_
  exact Run.x 0
 ·refine Run.q (e := vIv) (gv := vIv) (ok_impl_LogTwoI _) fun r9 _ => ?_
  refine Run.q (e := vIv) (gv := vIv) (ok_impl_LogAt _) fun r10 _ => ?_
  refine Run.q (e := vIv) (gv := vIv) (ok_impl_AddI _ _) fun r11 _ => ?_
  refine Run.q (e := vIv) (gv := vIv) (ok_impl_AddI _ _) fun r12 _ => ?_
  exact Run.x 0

theorem ok_impl_odd_1__p_impl_AsinhI_1 (a0 : I64) : Fun Tryz.prog 228 [(#[.func (.func 183) #[] #[]], 43)] #[vI a0, .pointer (some ⟨0, 0, none⟩)] (vIv (F_impl_odd_1__p_impl_AsinhI_1 a0)) [(#[.func (.func 183) #[] #[]], 43)] := by
 refine Fun.ofH 400 E_ok mixed Tryz.func228 (by kernel_rfl) (by kernel_rfl) ?_
 unfold F_impl_odd_1__p_impl_AsinhI_1
 refine Run.y (gv := vIv) (fun _ => ?_) (fun _ => ?_)
 ·refine Run.q (e := vIv) (gv := vIv) (ok_impl_AsinhI_1 _) fun r1 _ => ?_
  refine Run.q (e := vIv) (gv := vIv) (ok_impl_NegI _) fun r2 _ => ?_
  exact Run.x 1
 ·refine Run.q (e := vIv) (gv := vIv) (ok_impl_AsinhI_1 _) fun r3 _ => ?_
  exact Run.x 1

theorem ok_impl_monotonic__impl_odd_1_p_impl_AsinhI_1 (a0 : Iv) : Fun Tryz.prog 181 [(#[.func (.func 183) #[] #[]], 43)] #[vIv a0, .func (.func 228) #[] #[.pointer (some ⟨0, 0, none⟩)]] (vIv (F_impl_monotonic__impl_odd_1_p_impl_AsinhI_1 a0)) [(#[.func (.func 183) #[] #[]], 43)] := by
 refine Fun.ofH 400 E_ok mixed Tryz.func181 (by kernel_rfl) (by kernel_rfl) ?_
 unfold F_impl_monotonic__impl_odd_1_p_impl_AsinhI_1
 refine Run.q (e := vB) (gv := vIv) (ok_impl_IsWhole _) fun r1 _ => ?_
 refine Run.y (gv := vIv) (fun _ => ?_) (fun _ => ?_)
 ·refine Run.q (e := vIv) (gv := vIv) (ok_impl_Whole) fun r2 _ => ?_
  exact Run.x 1
 ·refine Run.w (e := vIv) (gv := vIv) [0] (ok_impl_odd_1__p_impl_AsinhI_1 _) fun r3 _ => ?_
  refine Run.w (e := vIv) (gv := vIv) [0] (ok_impl_odd_1__p_impl_AsinhI_1 _) fun r4 _ => ?_
  refine Run.q (e := vB) (gv := vIv) (ok_impl_areBounded _ _) fun r5 _ => ?_
  refine Run.y (gv := vIv) (fun _ => ?_) (fun _ => ?_)
  ·refine Run.q (e := vIv) (gv := vIv) (ok_impl_Whole) fun r6 _ => ?_
   exact Run.x 1
  ·refine Run.q (e := vIv) (gv := vIv) (ok_impl_bounded _ _ _) fun r7 _ => ?_
   exact Run.x 1

theorem ok_impl_AsinhI (a0 : Iv) : Fun Tryz.prog 133 [] #[vIv a0] (vIv (F_impl_AsinhI a0)) [] := by
 refine Fun.ofH 400 E_ok mixed Tryz.func133 (by kernel_rfl) (by kernel_rfl) ?_
 unfold F_impl_AsinhI
 refine Run.o (by kernel_rfl) ?_ ?_
 ·refine Run.m (by kernel_rfl) (by kernel_rfl) (ok_impl_odd 183) (by kernel_rfl) (by kernel_rfl) (by kernel_rfl) ?_
  refine Run.w (e := vIv) (gv := vIv) [2] (ok_impl_monotonic__impl_odd_1_p_impl_AsinhI_1 _) fun r1 hr1 => ?_
  exact Run.x 0
 ·refine Run.m (by kernel_rfl) (by kernel_rfl) (ok_impl_odd 183) (by kernel_rfl) (by kernel_rfl) (by kernel_rfl) ?_
  refine Run.w (e := vIv) (gv := vIv) [2] (ok_impl_monotonic__impl_odd_1_p_impl_AsinhI_1 _) fun r2 hr2 => ?_
  exact Run.x 0

theorem ok_impl_isPole (a0 : Pt) : Fun Tryz.prog 114 [] #[vPt a0] (vB (F_impl_isPole a0)) [] := by
 refine Fun.ofH 400 E_ok mixed Tryz.func114 (by kernel_rfl) (by kernel_rfl) ?_
 unfold F_impl_isPole
 refine Run.q (e := vI) (gv := vB) (ok_impl_abs _) fun r1 _ => ?_
 exact Run.x 0

theorem ok_impl_CylinderForward (a0 : Pj) (a1 : Pt) : Fun Tryz.prog 75 [] #[vPj a0, vPt a1] (vT_Pn_I (F_impl_CylinderForward a0 a1)) [] := by
 refine Fun.ofH 400 E_ok mixed Tryz.func75 (by kernel_rfl) (by kernel_rfl) ?_
 unfold F_impl_CylinderForward
 refine Run.q (e := vB) (gv := vT_Pn_I) (ok_impl_ValidProjection _) fun r1 _ => ?_
 refine Run.y (gv := vT_Pn_I) (fun _ => ?_) (fun _ => ?_)
 ·refine Run.z [true, true, true, true, true, true, true, true, true] ?_
  exact Run.x 0
 ·refine Run.z [false] ?_
  refine Run.q (e := vB) (gv := vT_Pn_I) (ok_impl_ValidPoint _) fun r2 _ => ?_
  refine Run.z [false, false] ?_
  refine Run.y (gv := vT_Pn_I) (fun _ => ?_) (fun _ => ?_)
  ·refine Run.z [true, true, true, true, true] ?_
   exact Run.x 0
  ·refine Run.z [false, false] ?_
   refine Run.q (e := vB) (gv := vT_Pn_I) (ok_impl_isCylindrical _) fun r3 _ => ?_
   refine Run.z [false, false] ?_
   refine Run.y (gv := vT_Pn_I) (fun _ => ?_) (fun _ => ?_)
   ·exact Run.x 0
   ·refine Run.q (e := vIv) (gv := vT_Pn_I) (ok_impl_LonFrom _ _) fun r4 _ => ?_
    refine Run.q (e := vIv) (gv := vT_Pn_I) (ok_impl_LatOf _) fun r5 _ => ?_
    refine Run.q (e := vIv) (gv := vT_Pn_I) (ok_impl_RadiansOf _) fun r6 _ => ?_
    refine Run.q (e := vIv) (gv := vT_Pn_I) (ok_impl_CosI _) fun r7 _ => ?_
    refine Run.y (gv := vT_Pn_I) (fun _ => ?_) (fun _ => ?_)
    ·refine Run.q (e := vIv) (gv := vT_Pn_I) (ok_impl_MulI _ _) fun r8 _ => ?_
     refine Run.q (e := vT_Pn_I) (gv := vT_Pn_I) (ok_impl_planar _ _) fun r9 _ => ?_
     exact Run.x 0
    ·refine Run.y (gv := vT_Pn_I) (fun _ => ?_) (fun _ => ?_)
     ·refine Run.q (e := vIv) (gv := vT_Pn_I) (ok_impl_MulI _ _) fun r10 _ => ?_
      refine Run.q (e := vIv) (gv := vT_Pn_I) (ok_impl_SinI _) fun r11 _ => ?_
      refine Run.q (e := vIv) (gv := vT_Pn_I) (ok_impl_DivI _ _) fun r12 _ => ?_
      refine Run.q (e := vT_Pn_I) (gv := vT_Pn_I) (ok_impl_planar _ _) fun r13 _ => ?_
      exact Run.x 0
     ·refine Run.y (gv := vT_Pn_I) (fun _ => ?_) (fun _ => ?_)
      ·refine Run.q (e := vIv) (gv := vT_Pn_I) (ok_impl_Quotient _ _) fun r14 _ => ?_
       refine Run.q (e := vIv) (gv := vT_Pn_I) (ok_impl_Quotient _ _) fun r15 _ => ?_
       refine Run.q (e := vIv) (gv := vT_Pn_I) (ok_impl_MulI _ _) fun r16 _ => ?_
       refine Run.q (e := vIv) (gv := vT_Pn_I) (ok_impl_TanI _) fun r17 _ => ?_
       refine Run.q (e := vIv) (gv := vT_Pn_I) (ok_impl_AsinhI _) fun r18 _ => ?_
       refine Run.q (e := vIv) (gv := vT_Pn_I) (ok_impl_MulI _ _) fun r19 _ => ?_
       refine Run.q (e := vT_Pn_I) (gv := vT_Pn_I) (ok_impl_planar _ _) fun r20 _ => ?_
       exact Run.x 0
      ·refine Run.q (e := vB) (gv := vT_Pn_I) (ok_impl_isPole _) fun r21 _ => ?_
       refine Run.y (gv := vT_Pn_I) (fun _ => ?_) (fun _ => ?_)
       ·exact Run.x 0
       ·refine Run.q (e := vIv) (gv := vT_Pn_I) (ok_impl_TanI _) fun r22 _ => ?_
        refine Run.q (e := vIv) (gv := vT_Pn_I) (ok_impl_AsinhI _) fun r23 _ => ?_
        refine Run.q (e := vT_Pn_I) (gv := vT_Pn_I) (ok_impl_planar _ _) fun r24 _ => ?_
        exact Run.x 0

theorem ok_impl_isAzimuthalOne (a0 : Pj) : Fun Tryz.prog 191 [] #[vPj a0] (vB (F_impl_isAzimuthalOne a0)) [] := by
 refine Fun.ofH 400 E_ok mixed Tryz.func191 (by kernel_rfl) (by kernel_rfl) ?_
 unfold F_impl_isAzimuthalOne
 refine Run.q (e := vB) (gv := vB) (ok_impl_ValidProjection _) fun r1 _ => ?_
 refine Run.y (gv := vB) (fun _ => ?_) (fun _ => ?_)
 ·refine Run.z [true, true] ?_
  refine Run.q (e := vB) (gv := vB) (ok_impl_isAzimuthal _) fun r2 _ => ?_
  refine Run.z [true] ?_
  exact Run.x 0
 ·refine Run.z [false, false, false] ?_
  exact Run.x 0

theorem ok_impl_Projection_centre (a0 : Pj) : Fun Tryz.prog 120 [] #[vPj a0] (vPt (F_impl_Projection_centre a0)) [] := by
 refine Fun.ofH 400 E_ok mixed Tryz.func120 (by kernel_rfl) (by kernel_rfl) ?_
 unfold F_impl_Projection_centre
 exact Run.x 0

theorem ok_impl_differenceOf (a0 : Pt) (a1 : Pt) : Fun Tryz.prog 193 [] #[vPt a0, vPt a1] (vIv (F_impl_differenceOf a0 a1)) [] := by
 refine Fun.ofH 400 E_ok mixed Tryz.func193 (by kernel_rfl) (by kernel_rfl) ?_
 unfold F_impl_differenceOf
 refine Run.q (e := vI) (gv := vIv) (ok_impl_WrapLon _) fun r1 _ => ?_
 refine Run.q (e := vIv) (gv := vIv) (ok_impl_RadiansOf _) fun r2 _ => ?_
 exact Run.x 0

theorem ok_impl_localOf (a0 : Iv) (a1 : Iv) (a2 : Iv) : Fun Tryz.prog 192 [] #[vIv a0, vIv a1, vIv a2] (vVc (F_impl_localOf a0 a1 a2)) [] := by
 refine Fun.ofH 400 E_ok mixed Tryz.func192 (by kernel_rfl) (by kernel_rfl) ?_
 unfold F_impl_localOf
 refine Run.q (e := vIv) (gv := vVc) (ok_impl_CosI _) fun r1 _ => ?_
 refine Run.q (e := vIv) (gv := vVc) (ok_impl_SinI _) fun r2 _ => ?_
 refine Run.q (e := vIv) (gv := vVc) (ok_impl_MulI _ _) fun r3 _ => ?_
 refine Run.q (e := vIv) (gv := vVc) (ok_impl_CosI _) fun r4 _ => ?_
 refine Run.q (e := vIv) (gv := vVc) (ok_impl_SinI _) fun r5 _ => ?_
 refine Run.q (e := vIv) (gv := vVc) (ok_impl_MulI _ _) fun r6 _ => ?_
 refine Run.q (e := vIv) (gv := vVc) (ok_impl_SinI _) fun r7 _ => ?_
 refine Run.q (e := vIv) (gv := vVc) (ok_impl_CosI _) fun r8 _ => ?_
 refine Run.q (e := vIv) (gv := vVc) (ok_impl_MulI _ _) fun r9 _ => ?_
 refine Run.q (e := vIv) (gv := vVc) (ok_impl_CosI _) fun r10 _ => ?_
 refine Run.q (e := vIv) (gv := vVc) (ok_impl_MulI _ _) fun r11 _ => ?_
 refine Run.q (e := vIv) (gv := vVc) (ok_impl_SubI _ _) fun r12 _ => ?_
 refine Run.q (e := vIv) (gv := vVc) (ok_impl_SinI _) fun r13 _ => ?_
 refine Run.q (e := vIv) (gv := vVc) (ok_impl_SinI _) fun r14 _ => ?_
 refine Run.q (e := vIv) (gv := vVc) (ok_impl_MulI _ _) fun r15 _ => ?_
 refine Run.q (e := vIv) (gv := vVc) (ok_impl_CosI _) fun r16 _ => ?_
 refine Run.q (e := vIv) (gv := vVc) (ok_impl_CosI _) fun r17 _ => ?_
 refine Run.q (e := vIv) (gv := vVc) (ok_impl_MulI _ _) fun r18 _ => ?_
 refine Run.q (e := vIv) (gv := vVc) (ok_impl_CosI _) fun r19 _ => ?_
 refine Run.q (e := vIv) (gv := vVc) (ok_impl_MulI _ _) fun r20 _ => ?_
 refine Run.q (e := vIv) (gv := vVc) (ok_impl_AddI _ _) fun r21 _ => ?_
 exact Run.x 0

theorem ok_impl_LocalOf (a0 : Pj) (a1 : Pt) : Fun Tryz.prog 135 [] #[vPj a0, vPt a1] (vT_Vc_I (F_impl_LocalOf a0 a1)) [] := by
 refine Fun.ofH 400 E_ok mixed Tryz.func135 (by kernel_rfl) (by kernel_rfl) ?_
 unfold F_impl_LocalOf
 refine Run.q (e := vB) (gv := vT_Vc_I) (ok_impl_isAzimuthalOne _) fun r1 _ => ?_
 refine Run.y (gv := vT_Vc_I) (fun _ => ?_) (fun _ => ?_)
 ·refine Run.z [true, true, true, true] ?_
  exact Run.x 0
 ·refine Run.z [false] ?_
  refine Run.q (e := vB) (gv := vT_Vc_I) (ok_impl_ValidPoint _) fun r2 _ => ?_
  refine Run.z [false, false] ?_
  refine Run.y (gv := vT_Vc_I) (fun _ => ?_) (fun _ => ?_)
  ·exact Run.x 0
  ·refine Run.q (e := vPt) (gv := vT_Vc_I) (ok_impl_Projection_centre _) fun r3 _ => ?_
   refine Run.q (e := vIv) (gv := vT_Vc_I) (ok_impl_LatOf _) fun r4 _ => ?_
   refine Run.q (e := vIv) (gv := vT_Vc_I) (ok_impl_LatOf _) fun r5 _ => ?_
   refine Run.q (e := vPt) (gv := vT_Vc_I) (ok_impl_Projection_centre _) fun r6 _ => ?_
   refine Run.q (e := vIv) (gv := vT_Vc_I) (ok_impl_differenceOf _ _) fun r7 _ => ?_
   refine Run.q (e := vVc) (gv := vT_Vc_I) (ok_impl_localOf _ _ _) fun r8 _ => ?_
   exact Run.x 0

theorem ok_impl_Antipode (a0 : Pt) : Fun Tryz.prog 136 [] #[vPt a0] (vT_Pt_I (F_impl_Antipode a0)) [] := by
 refine Fun.ofH 400 E_ok mixed Tryz.func136 (by kernel_rfl) (by kernel_rfl) ?_
 unfold F_impl_Antipode
 refine Run.q (e := vB) (gv := vT_Pt_I) (ok_impl_ValidPoint _) fun r1 _ => ?_
 refine Run.y (gv := vT_Pt_I) (fun _ => ?_) (fun _ => ?_)
 ·exact Run.x 0
 ·refine Run.q (e := vI) (gv := vT_Pt_I) (ok_impl_WrapLon _) fun r2 _ => ?_
  exact Run.x 0

theorem ok_impl_samePlace (a0 : Pt) (a1 : Pt) : Fun Tryz.prog 137 [] #[vPt a0, vPt a1] (vB (F_impl_samePlace a0 a1)) [] := by
 refine Fun.ofH 400 E_ok mixed Tryz.func137 (by kernel_rfl) (by kernel_rfl) ?_
 unfold F_impl_samePlace
 refine Run.y (gv := vB) (fun _ => ?_) (fun _ => ?_)
 ·refine Run.z [true, true, true, true] ?_
  exact Run.x 0
 ·refine Run.z [false] ?_
  refine Run.q (e := vB) (gv := vB) (ok_impl_isPole _) fun r1 _ => ?_
  refine Run.z [false] ?_
  refine Run.y (gv := vB) (fun _ => ?_) (fun _ => ?_)
  ·refine Run.z [true, true, true, true, false, true, false] ?_
   exact Run.x 0
  ·refine Run.z [false, false, false, false, false, false, false] ?_
   exact Run.x 0

theorem ok_impl_LessI (a0 : Iv) (a1 : Iv) : Fun Tryz.prog 138 [] #[vIv a0, vIv a1] (vI (F_impl_LessI a0 a1)) [] := by
 refine Fun.ofH 400 E_ok mixed Tryz.func138 (by kernel_rfl) (by kernel_rfl) ?_
 unfold F_impl_LessI
 refine Run.q (e := vB) (gv := vI) (ok_impl_areBounded _ _) fun r1 _ => ?_
 refine Run.y (gv := vI) (fun _ => ?_) (fun _ => ?_)
 ·exact Run.x 0
 ·refine Run.y (gv := vI) (fun _ => ?_) (fun _ => ?_)
  ·exact Run.x 0
  ·refine Run.y (gv := vI) (fun _ => ?_) (fun _ => ?_)
   ·exact Run.x 0
   ·exact Run.x 0

theorem ok_impl_WideAdd (a0 : Wd) (a1 : Wd) : Fun Tryz.prog 207 [] #[vWd a0, vWd a1] (vT_Wd_B (F_impl_WideAdd a0 a1)) [] := by
 refine Fun.ofH 400 E_ok mixed Tryz.func207 (by kernel_rfl) (by kernel_rfl) ?_
 unfold F_impl_WideAdd
 refine Run.k (c := (decide (0 ≤ (a0.lo.val : Int)) && (decide (0 ≤ (a1.lo.val : Int)) && (decide (0 ≤ (0 : Int)) && decide ((0 : Int) ≤ 1))))) (by kernel_rfl) (by simp only [Bool.and_eq_true, decide_eq_true_eq]; exact ⟨U64.lo a0.lo, U64.lo a1.lo, U64.lo (cu64 0), (by decide)⟩) ?_
 refine Run.k (c := (decide (0 ≤ ((wu64 a0.hi.val).val : Int)) && (decide (0 ≤ ((wu64 a1.hi.val).val : Int)) && (decide (0 ≤ ((adc_hi a0.lo a1.lo (cu64 0)).val : Int)) && decide (((adc_hi a0.lo a1.lo (cu64 0)).val : Int) ≤ 1))))) (by kernel_rfl) (by simp only [Bool.and_eq_true, decide_eq_true_eq]; exact ⟨U64.lo (wu64 a0.hi.val), U64.lo (wu64 a1.hi.val), U64.lo (adc_hi a0.lo a1.lo (cu64 0)), (adc_hi_le _ _ _ (by decide))⟩) ?_
 refine Run.y (gv := vT_Wd_B) (fun _ => ?_) (fun _ => ?_)
 ·exact Run.x 0
 ·exact Run.x 0

theorem ok_impl_rootOfSquares (a0 : I64) (a1 : I64) (a2 : I64) : Fun Tryz.prog 152 [] #[vI a0, vI a1, vI a2] (vT_I_I (F_impl_rootOfSquares a0 a1 a2)) [] := by
 refine Fun.ofH 400 E_ok mixed Tryz.func152 (by kernel_rfl) (by kernel_rfl) ?_
 unfold F_impl_rootOfSquares
 refine Run.q (e := vWd) (gv := vT_I_I) (ok_impl_WideMul _ _) fun r1 _ => ?_
 refine Run.q (e := vWd) (gv := vT_I_I) (ok_impl_WideMul _ _) fun r2 _ => ?_
 refine Run.q (e := vT_Wd_B) (gv := vT_I_I) (ok_impl_WideAdd _ _) fun r3 _ => ?_
 refine Run.q (e := vWd) (gv := vT_I_I) (ok_impl_WideMul _ _) fun r4 _ => ?_
 refine Run.q (e := vT_Wd_B) (gv := vT_I_I) (ok_impl_WideAdd _ _) fun r5 _ => ?_
 refine Run.q (e := vT_U_B) (gv := vT_I_I) (ok_impl_WideSqrt _) fun r6 _ => ?_
 refine Run.q (e := vWd) (gv := vT_I_I) (ok_impl_WideMul _ _) fun r7 _ => ?_
 refine Run.y (gv := vT_I_I) (fun _ => ?_) (fun _ => ?_)
 ·exact Run.x 0
 ·exact Run.x 0

theorem ok_impl_NormV (a0 : Vc) : Fun Tryz.prog 92 [] #[vVc a0] (vIv (F_impl_NormV a0)) [] := by
 refine Fun.ofH 400 E_ok mixed Tryz.func92 (by kernel_rfl) (by kernel_rfl) ?_
 unfold F_impl_NormV
 refine Run.q (e := vB) (gv := vIv) (ok_impl_areBounded _ _) fun r1 _ => ?_
 refine Run.y (gv := vIv) (fun _ => ?_) (fun _ => ?_)
 ·refine Run.z [true, true, true, true] ?_
  refine Run.q (e := vIv) (gv := vIv) (ok_impl_Whole) fun r2 _ => ?_
  exact Run.x 0
 ·refine Run.z [false, false] ?_
  refine Run.q (e := vB) (gv := vIv) (ok_impl_IsWhole _) fun r3 _ => ?_
  refine Run.z [false] ?_
  refine Run.y (gv := vIv) (fun _ => ?_) (fun _ => ?_)
  ·refine Run.q (e := vIv) (gv := vIv) (ok_impl_Whole) fun r4 _ => ?_
   exact Run.x 0
  ·refine Run.q (e := vIv) (gv := vIv) (ok_impl_AbsI _) fun r5 _ => ?_
   refine Run.q (e := vIv) (gv := vIv) (ok_impl_AbsI _) fun r6 _ => ?_
   refine Run.q (e := vIv) (gv := vIv) (ok_impl_AbsI _) fun r7 _ => ?_
   refine Run.q (e := vT_I_I) (gv := vIv) (ok_impl_rootOfSquares _ _ _) fun r8 _ => ?_
   refine Run.q (e := vT_I_I) (gv := vIv) (ok_impl_rootOfSquares _ _ _) fun r9 _ => ?_
   refine Run.q (e := vIv) (gv := vIv) (ok_impl_bounded _ _ _) fun r10 _ => ?_
   exact Run.x 0

theorem ok_impl_fromAxis (a0 : Vc) : Fun Tryz.prog 194 [] #[vVc a0] (vIv (F_impl_fromAxis a0)) [] := by
 refine Fun.ofH 400 E_ok mixed Tryz.func194 (by kernel_rfl) (by kernel_rfl) ?_
 unfold F_impl_fromAxis
 refine Run.q (e := vIv) (gv := vIv) (ok_impl_NormV _) fun r1 _ => ?_
 exact Run.x 0

theorem ok_impl_isPositive (a0 : Iv) : Fun Tryz.prog 171 [] #[vIv a0] (vB (F_impl_isPositive a0)) [] := by
 refine Fun.ofH 400 E_ok mixed Tryz.func171 (by kernel_rfl) (by kernel_rfl) ?_
 unfold F_impl_isPositive
 refine Run.q (e := vB) (gv := vB) (ok_impl_ValidInterval _) fun r1 _ => ?_
 refine Run.y (gv := vB) (fun _ => ?_) (fun _ => ?_)
 ·refine Run.z [true, true, true] ?_
  exact Run.x 0
 ·refine Run.z [false, false, false] ?_
  exact Run.x 0

theorem ok_impl_isOpen (a0 : I64) : Fun Tryz.prog 205 [] #[vI a0] (vB (F_impl_isOpen a0)) [] := by
 refine Fun.ofH 400 E_ok mixed Tryz.func205 (by kernel_rfl) (by kernel_rfl) ?_
 unfold F_impl_isOpen
 refine Run.y (gv := vB) (fun _ => ?_) (fun _ => ?_)
 ·refine Run.z [true, true] ?_
  exact Run.x 0
 ·refine Run.z [false, false] ?_
  exact Run.x 0

theorem ok_impl_halfCircle : Fun Tryz.prog 180 [] #[] (vIv (F_impl_halfCircle)) [] := by
 refine Fun.ofH 400 E_ok mixed Tryz.func180 (by kernel_rfl) (by kernel_rfl) ?_
 unfold F_impl_halfCircle
 refine Run.q (e := vIv) (gv := vIv) (ok_impl_TurnI _) fun r1 _ => ?_
 refine Run.q (e := vIv) (gv := vIv) (ok_impl_TurnI _) fun r2 _ => ?_
 exact Run.x 0

theorem ok_impl_halved (a0 : Iv) : Fun Tryz.prog 274 [] #[vIv a0] (vIv (F_impl_halved a0)) [] := by
 refine Fun.ofH 400 E_ok mixed Tryz.func274 (by kernel_rfl) (by kernel_rfl) ?_
 unfold F_impl_halved
 refine Run.q (e := vIv) (gv := vIv) (ok_impl_Integer _) fun r1 _ => ?_
 refine Run.q (e := vIv) (gv := vIv) (ok_impl_Integer _) fun r2 _ => ?_
 refine Run.q (e := vIv) (gv := vIv) (ok_impl_SqrI _) fun r3 _ => ?_
 refine Run.q (e := vIv) (gv := vIv) (ok_impl_AddI _ _) fun r4 _ => ?_
 refine Run.q (e := vIv) (gv := vIv) (ok_impl_SqrtI _) fun r5 _ => ?_
 refine Run.q (e := vIv) (gv := vIv) (ok_impl_AddI _ _) fun r6 _ => ?_
 refine Run.q (e := vIv) (gv := vIv) (ok_impl_DivI _ _) fun r7 _ => ?_
 exact Run.x 0

theorem ok_impl_ArcSeries (a0 : Iv) : Fun Tryz.prog 273 [] #[vIv a0] (vIv (F_impl_ArcSeries a0)) [] := by
 refine Fun.ofH 400 E_ok mixed Tryz.func273 (by kernel_rfl) (by kernel_rfl) ?_
 unfold F_impl_ArcSeries
 refine Run.q (e := vB) (gv := vIv) (ok_impl_InsideI _ _) fun r1 _ => ?_
 refine Run.y (gv := vIv) (fun _ => ?_) (fun _ => ?_)
 ·refine Run.q (e := vIv) (gv := vIv) (ok_impl_Whole) fun r2 _ => ?_
  exact Run.x 0
 ·refine Run.q (e := vIv) (gv := vIv) (ok_impl_SqrI _) fun r3 _ => ?_
  refine Run.q (e := vIv) (gv := vIv) (ok_impl_Quotient _ _) fun r4 _ => ?_
  refine Run.u 400 E_ok mixed Tryz.func273 ?_
  refine Run.z [true] ?_
  refine Run.q (e := vIv) (gv := vIv) (ok_impl_Quotient _ _) fun r5 _ => ?_
  refine Run.q (e := vIv) (gv := vIv) (ok_impl_MulI _ _) fun r6 _ => ?_
  refine Run.q (e := vIv) (gv := vIv) (ok_impl_SubI _ _) fun r7 _ => ?_
  refine Run.u 400 E_ok mixed Tryz.func273 ?_
  refine Run.z [true] ?_
  refine Run.q (e := vIv) (gv := vIv) (ok_impl_Quotient _ _) fun r8 _ => ?_
  refine Run.q (e := vIv) (gv := vIv) (ok_impl_MulI _ _) fun r9 _ => ?_
  refine Run.q (e := vIv) (gv := vIv) (ok_impl_SubI _ _) fun r10 _ => ?_
  refine Run.u 400 E_ok mixed Tryz.func273 ?_
  refine Run.z [true] ?_
  refine Run.q (e := vIv) (gv := vIv) (ok_impl_Quotient _ _) fun r11 _ => ?_
  refine Run.q (e := vIv) (gv := vIv) (ok_impl_MulI _ _) fun r12 _ => ?_
  refine Run.q (e := vIv) (gv := vIv) (ok_impl_SubI _ _) fun r13 _ => ?_
  refine Run.u 400 E_ok mixed Tryz.func273 ?_
  refine Run.z [true] ?_
  refine Run.q (e := vIv) (gv := vIv) (ok_impl_Quotient _ _) fun r14 _ => ?_
  refine Run.q (e := vIv) (gv := vIv) (ok_impl_MulI _ _) fun r15 _ => ?_
  refine Run.q (e := vIv) (gv := vIv) (ok_impl_SubI _ _) fun r16 _ => ?_
  refine Run.u 400 E_ok mixed Tryz.func273 ?_
  refine Run.z [true] ?_
  refine Run.q (e := vIv) (gv := vIv) (ok_impl_Quotient _ _) fun r17 _ => ?_
  refine Run.q (e := vIv) (gv := vIv) (ok_impl_MulI _ _) fun r18 _ => ?_
  refine Run.q (e := vIv) (gv := vIv) (ok_impl_SubI _ _) fun r19 _ => ?_
  refine Run.u 400 E_ok mixed Tryz.func273 ?_
  refine Run.z [true] ?_
  refine Run.q (e := vIv) (gv := vIv) (ok_impl_Quotient _ _) fun r20 _ => ?_
  refine Run.q (e := vIv) (gv := vIv) (ok_impl_MulI _ _) fun r21 _ => ?_
  refine Run.q (e := vIv) (gv := vIv) (ok_impl_SubI _ _) fun r22 _ => ?_
  refine Run.u 400 E_ok mixed Tryz.func273 ?_
  refine Run.z [true] ?_
  refine Run.q (e := vIv) (gv := vIv) (ok_impl_Quotient _ _) fun r23 _ => ?_
  refine Run.q (e := vIv) (gv := vIv) (ok_impl_MulI _ _) fun r24 _ => ?_
  refine Run.q (e := vIv) (gv := vIv) (ok_impl_SubI _ _) fun r25 _ => ?_
  refine Run.u 400 E_ok mixed Tryz.func273 ?_
  refine Run.z [true] ?_
  refine Run.q (e := vIv) (gv := vIv) (ok_impl_Quotient _ _) fun r26 _ => ?_
  refine Run.q (e := vIv) (gv := vIv) (ok_impl_MulI _ _) fun r27 _ => ?_
  refine Run.q (e := vIv) (gv := vIv) (ok_impl_SubI _ _) fun r28 _ => ?_
  refine Run.u 400 E_ok mixed Tryz.func273 ?_
  refine Run.z [true] ?_
  refine Run.q (e := vIv) (gv := vIv) (ok_impl_Quotient _ _) fun r29 _ => ?_
  refine Run.q (e := vIv) (gv := vIv) (ok_impl_MulI _ _) fun r30 _ => ?_
  refine Run.q (e := vIv) (gv := vIv) (ok_impl_SubI _ _) fun r31 _ => ?_
  refine Run.u 400 E_ok mixed Tryz.func273 ?_
  refine Run.z [true] ?_
  refine Run.q (e := vIv) (gv := vIv) (ok_impl_Quotient _ _) fun r32 _ => ?_
  refine Run.q (e := vIv) (gv := vIv) (ok_impl_MulI _ _) fun r33 _ => ?_
  refine Run.q (e := vIv) (gv := vIv) (ok_impl_SubI _ _) fun r34 _ => ?_
  refine Run.u 400 E_ok mixed Tryz.func273 ?_
  refine Run.z [false] ?_
  refine Run.q (e := vIv) (gv := vIv) (ok_impl_MulI _ _) fun r35 _ => ?_
  refine Run.q (e := vIv) (gv := vIv) (ok_impl_tiny) fun r36 _ => ?_
  refine Run.q (e := vIv) (gv := vIv) (ok_impl_AddI _ _) fun r37 _ => ?_
  exact Run.x 0

theorem ok_impl_DoubleI (a0 : Iv) : Fun Tryz.prog 176 [] #[vIv a0] (vIv (F_impl_DoubleI a0)) [] := by
 refine Fun.ofH 400 E_ok mixed Tryz.func176 (by kernel_rfl) (by kernel_rfl) ?_
 unfold F_impl_DoubleI
 refine Run.q (e := vIv) (gv := vIv) (ok_impl_AddI _ _) fun r1 _ => ?_
 exact Run.x 0

end Go.Proofs.YtbpkpmmmeneagaaGreat.Abs
