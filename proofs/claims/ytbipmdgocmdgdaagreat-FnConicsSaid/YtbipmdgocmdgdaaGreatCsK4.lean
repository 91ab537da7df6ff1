/- The program's functions are these; part 4 (written by w.py). -/
import Derived.Test.YtbipmdgocmdgdaaGreatCsE
import Derived.Test.YtbipmdgocmdgdaaGreatCsF3
import Derived.Test.YtbipmdgocmdgdaaGreatCsQpre
import Derived.Test.YtbipmdgocmdgdaaGreatCsK0
import Derived.Test.YtbipmdgocmdgdaaGreatCsK3
set_option linter.unusedVariables false
set_option linter.unusedSimpArgs false
namespace Go.Proofs.YtbipmdgocmdgdaaGreat.Abs
open Go Go.RowKit
theorem oi_MeetI (a0 : Iv) (a1 : Iv) : Fun Tryz.prog 208 [] #[vIv a0,vIv a1] (vT_Iv_B (I_MeetI a0 a1)) []:=by
 refine Fun.ofH 400 E_ok mixed Tryz.func208 (by kernel_rfl) (by kernel_rfl) ?_
 unfold I_MeetI
 refine Run.q (e:=vB) (gv:=vT_Iv_B) (oi_IsWhole _) fun r1 _=>?_
 refine Run.y (gv:=vT_Iv_B) (fun _=>?_) (fun _=>?_)
 ·refine Run.z [true] ?_
  refine Run.q (e:=vB) (gv:=vT_Iv_B) (oi_IsWhole _) fun r2 _=>?_
  refine Run.z [true] ?_
  refine Run.y (gv:=vT_Iv_B) (fun _=>?_) (fun _=>?_)
  ·refine Run.q (e:=vIv) (gv:=vT_Iv_B) (oi_Whole) fun r3 _=>?_
   exact Run.x 0
  ·refine Run.q (e:=vB) (gv:=vT_Iv_B) (oi_IsWhole _) fun r4 _=>?_
   refine Run.y (gv:=vT_Iv_B) (fun _=>?_) (fun _=>?_)
   ·exact Run.x 0
   ·refine Run.q (e:=vB) (gv:=vT_Iv_B) (oi_IsWhole _) fun r5 _=>?_
    refine Run.y (gv:=vT_Iv_B) (fun _=>?_) (fun _=>?_)
    ·exact Run.x 0
    ·refine Run.y (gv:=vT_Iv_B) (fun _=>?_) (fun _=>?_)
     ·exact Run.x 0
     ·exact Run.x 0
 ·refine Run.z [false,false,false] ?_
  refine Run.q (e:=vB) (gv:=vT_Iv_B) (oi_IsWhole _) fun r6 _=>?_
  refine Run.y (gv:=vT_Iv_B) (fun _=>?_) (fun _=>?_)
  ·exact Run.x 0
  ·refine Run.q (e:=vB) (gv:=vT_Iv_B) (oi_IsWhole _) fun r7 _=>?_
   refine Run.y (gv:=vT_Iv_B) (fun _=>?_) (fun _=>?_)
   ·exact Run.x 0
   ·refine Run.y (gv:=vT_Iv_B) (fun _=>?_) (fun _=>?_)
    ·exact Run.x 0
    ·exact Run.x 0
theorem oi_inRing (a0 : Iv) : Fun Tryz.prog 238 [] #[vIv a0] (vIv (I_inRing a0)) []:=by
 refine Fun.ofH 400 E_ok mixed Tryz.func238 (by kernel_rfl) (by kernel_rfl) ?_
 unfold I_inRing
 refine Run.q (e:=vIv) (gv:=vIv) (oi_ring) fun r1 _=>?_
 refine Run.q (e:=vT_Iv_B) (gv:=vIv) (oi_MeetI _ _) fun r2 _=>?_
 exact Run.x 0
theorem oi_CosSeries (a0 : Iv) : Fun Tryz.prog 240 [] #[vIv a0] (vIv (I_CosSeries a0)) []:=by
 refine Fun.ofH 400 E_ok mixed Tryz.func240 (by kernel_rfl) (by kernel_rfl) ?_
 unfold I_CosSeries
 refine Run.q (e:=vIv) (gv:=vIv) (oi_ring) fun r1 _=>?_
 refine Run.q (e:=vB) (gv:=vIv) (oi_InsideI _ _) fun r2 _=>?_
 refine Run.y (gv:=vIv) (fun _=>?_) (fun _=>?_)
 ·refine Run.q (e:=vIv) (gv:=vIv) (oi_Whole) fun r3 _=>?_
  exact Run.x 0
 ·refine Run.q (e:=vIv) (gv:=vIv) (oi_SqrI _) fun r4 _=>?_
  refine Run.q (e:=vIv) (gv:=vIv) (oi_series _ _) fun r5 _=>?_
  refine Run.q (e:=vIv) (gv:=vIv) (oi_tiny) fun r6 _=>?_
  refine Run.q (e:=vIv) (gv:=vIv) (oi_AddI _ _) fun r7 _=>?_
  exact Run.x 0
theorem oi_circleValue (a0 : I64) (a1 : I64) : Fun Tryz.prog 203 [] #[vI a0,vI a1] (vIv (I_circleValue a0 a1)) []:=by
 refine Fun.ofH 400 E_ok mixed Tryz.func203 (by kernel_rfl) (by kernel_rfl) ?_
 unfold I_circleValue
 refine Run.q (e:=vB) (gv:=vIv) (oi_isAngle _) fun r1 _=>?_
 refine Run.y (gv:=vIv) (fun _=>?_) (fun _=>?_)
 ·refine Run.q (e:=vIv) (gv:=vIv) (oi_ring) fun r2 _=>?_
  exact Run.x 0
 ·refine Run.q (e:=vI) (gv:=vIv) (oi_QuarterOf _) fun r3 _=>?_
  refine Run.q (e:=vIv) (gv:=vIv) (oi_at _) fun r4 _=>?_
  refine Run.q (e:=vIv) (gv:=vIv) (oi_TurnI _) fun r5 _=>?_
  refine Run.q (e:=vIv) (gv:=vIv) (oi_SubI _ _) fun r6 _=>?_
  refine Run.y (gv:=vIv) (fun _=>?_) (fun _=>?_)
  ·refine Run.q (e:=vIv) (gv:=vIv) (oi_SinSeries _) fun r7 _=>?_
   refine Run.q (e:=vIv) (gv:=vIv) (oi_inRing _) fun r8 _=>?_
   exact Run.x 0
  ·refine Run.y (gv:=vIv) (fun _=>?_) (fun _=>?_)
   ·refine Run.q (e:=vIv) (gv:=vIv) (oi_CosSeries _) fun r9 _=>?_
    refine Run.q (e:=vIv) (gv:=vIv) (oi_inRing _) fun r10 _=>?_
    exact Run.x 0
   ·refine Run.y (gv:=vIv) (fun _=>?_) (fun _=>?_)
    ·refine Run.q (e:=vIv) (gv:=vIv) (oi_SinSeries _) fun r11 _=>?_
     refine Run.q (e:=vIv) (gv:=vIv) (oi_NegI _) fun r12 _=>?_
     refine Run.q (e:=vIv) (gv:=vIv) (oi_inRing _) fun r13 _=>?_
     exact Run.x 0
    ·refine Run.q (e:=vIv) (gv:=vIv) (oi_CosSeries _) fun r14 _=>?_
     refine Run.q (e:=vIv) (gv:=vIv) (oi_NegI _) fun r15 _=>?_
     refine Run.q (e:=vIv) (gv:=vIv) (oi_inRing _) fun r16 _=>?_
     exact Run.x 0
theorem oi_HullI (a0 : Iv) (a1 : Iv) : Fun Tryz.prog 143 [] #[vIv a0,vIv a1] (vIv (I_HullI a0 a1)) []:=by
 refine Fun.ofH 400 E_ok mixed Tryz.func143 (by kernel_rfl) (by kernel_rfl) ?_
 unfold I_HullI
 refine Run.q (e:=vB) (gv:=vIv) (oi_areBounded _ _) fun r1 _=>?_
 refine Run.y (gv:=vIv) (fun _=>?_) (fun _=>?_)
 ·refine Run.q (e:=vIv) (gv:=vIv) (oi_Whole) fun r2 _=>?_
  exact Run.x 0
 ·exact Run.x 0
theorem oi_OverlapI (a0 : Iv) (a1 : Iv) : Fun Tryz.prog 146 [] #[vIv a0,vIv a1] (vB (I_OverlapI a0 a1)) []:=by
 refine Fun.ofH 400 E_ok mixed Tryz.func146 (by kernel_rfl) (by kernel_rfl) ?_
 unfold I_OverlapI
 refine Run.q (e:=vT_Iv_B) (gv:=vB) (oi_MeetI _ _) fun r1 _=>?_
 exact Run.x 0
theorem len_impl_turnsIn_L0 (a0 : Iv) : ∀ (fu : Nat) (x_k : I64) (acc : List I64),(I_turnsIn_L0 fu a0 x_k acc).length ≤ acc.length + fu:=by
 intro fu
 induction fu with
 | zero=>intro x_k acc; exact Nat.le_refl _
 | succ fu ih=>
  intro x_k acc
  unfold I_turnsIn_L0
  simp only [bindP]
  have h1:=ih (w64 (x_k.val + 1)) (acc ++ [x_k])
  have h2:=ih (w64 (x_k.val + 1)) acc
  rw [List.length_append] at h1
  simp only [List.length_cons,List.length_nil] at h1
  cases decide (x_k.val ≤ (w64 ((I_QuarterOf a0.hi).val + 1)).val)
  ·rw [cond_false]; omega
  ·rw [cond_true]
   cases I_OverlapI (I_TurnI x_k) a0
   ·rw [cond_false]; omega
   ·rw [cond_true]; omega
theorem len_impl_turnsIn (a0 : Iv) : (I_turnsIn a0).length ≤ 4000:=by
 have qb:=impl_quarter_bounds a0.lo
 unfold I_turnsIn
 simp only [bindP]
 have:=len_impl_turnsIn_L0 a0 ((2000 - (w64 ((I_QuarterOf a0.lo).val - 1)).val).toNat + 1) (w64 ((I_QuarterOf a0.lo).val - 1)) []
 have e1 : (w64 ((I_QuarterOf a0.lo).val - 1)).val = (I_QuarterOf a0.lo).val - 1:=by rw [w64_val]; omega
 simp only [List.length_nil,Nat.zero_add] at this
 refine Nat.le_trans this ?_
 omega
theorem oi_turnsIn_L0 (a0 : Iv) : ∀ (fu : Nat) (x_k : I64) (acc : List I64) (v : Value) (X : List Blk) (hv : LS 2 acc v ((#[.int .i64 a0.lo.val,.int .i64 a0.hi.val],31) :: X)) (hm : (2000 - x_k.val).toNat < fu) (hk : -1100 ≤ x_k.val) (hlen : (acc.length : Int) ≤ x_k.val + 1100)
  (t : Array Value) (ht : maskA t [0,2,5,6,7,8,9,10,11,12,13,14,15,16,17,18,19,20,21,22,23,24,25] = #[undef,.pointer (some ⟨0,0,none⟩),undef,v,.int .i64 x_k.val,undef,undef,undef,undef,undef,undef,undef,undef,undef,undef,undef,undef,undef,undef,undef,undef,undef,undef,undef,undef,undef]),
  Cfg Tryz.prog 187 (loopAt Tryz.f187 0) t ((#[.int .i64 a0.lo.val,.int .i64 a0.hi.val],31) :: X) (LS 2 (I_turnsIn_L0 fu a0 x_k acc)):=by
 intro fu
 induction fu with
 | zero=>intro x_k acc v X hv hm; exact absurd hm (Nat.not_lt_zero _)
 | succ fu ih=>
  intro x_k acc v X hv hm hk hlen t ht
  refine Cfg.round E_ok mixed Tryz.func187 ht fun q=>?_
  unfold I_turnsIn_L0
  have qb:=impl_quarter_bounds a0.hi
  refine Run.c (by kernel_rfl) (by kernel_rfl) (oi_QuarterOf a0.hi) rfl ?_
  simp only [bindP]
  generalize I_QuarterOf a0.hi = r1 at *
  refine Run.i (c:=decide (x_k.val ≤ (w64 (r1.val + 1)).val)) (by kernel_rfl) (fun h1=>?_) (fun h1=>?_)
  ·rw [h1,cond_true]
   simp only [w64_val,decide_eq_true_eq] at h1
   refine Run.c (by kernel_rfl) (by kernel_rfl) (oi_TurnI x_k) rfl ?_
   generalize I_TurnI x_k = r2
   refine Run.c (by kernel_rfl) (by kernel_rfl) (oi_OverlapI r2 a0) rfl ?_
   generalize I_OverlapI r2 a0 = r3
   have e1 : (w64 (x_k.val + 1)).val = x_k.val + 1:=by rw [w64_val]; omega
   refine Run.i (c:=r3) (by kernel_rfl) (fun h2=>?_) (fun h2=>?_)
   ·rw [h2,cond_true]
    refine Run.h (td:=appAt Tryz.f187 0) (H:=(#[.int .i64 a0.lo.val,.int .i64 a0.hi.val],31) :: X) (by kernel_rfl) (by kernel_rfl) rfl (by kernel_rfl) ?_
    refine Cfg.app (T:=120) (e:=2) (d1:=21) (d2:=22) (d3:=23) (d4:=24) (s:=3) (x:=4) (L:=acc) (v:=v) (z:=x_k) (by kernel_rfl) (by kernel_rfl) (by kernel_rfl) (by kernel_rfl) (by decide) (by kernel_rfl) (by kernel_rfl) (by kernel_rfl) hv (by omega) fun v4 H4 hv4 hs4=>?_
    obtain ⟨X4,rfl⟩:=head_same hs4 (show (31 : Nat) ≠ 2 by decide)
    refine exec_cfg E_ok mixed Tryz.func187 400 _ _ _ _ ?_
    exact Run.l (by kernel_rfl) (by kernel_rfl) (by kernel_rfl) (by kernel_rfl) (ih (w64 (x_k.val + 1)) (acc ++ [x_k]) v4 X4 hv4 (by omega) (by omega) (by rw [List.length_append]; simp only [List.length_cons,List.length_nil]; omega))
   ·rw [h2,cond_false]
    exact Run.l (by kernel_rfl) (by kernel_rfl) (by kernel_rfl) (by kernel_rfl) (ih (w64 (x_k.val + 1)) acc v X hv (by omega) (by omega) (by omega))
  ·rw [h1,cond_false]
   exact Run.rl (v:=v) (by kernel_rfl) (by kernel_rfl) hv
theorem oi_turnsIn (a0 : Iv) : FunR Tryz.prog 187 [] #[vIv a0] (Lone 2 (I_turnsIn a0)):=by
 refine FunR.lone (FunR.of 400 E_ok mixed Tryz.func187 (by kernel_rfl) ?_)
 unfold I_turnsIn
 have qb:=impl_quarter_bounds a0.lo
 refine Run.c (by kernel_rfl) (by kernel_rfl) (oi_QuarterOf a0.lo) rfl ?_
 simp only [bindP]
 generalize I_QuarterOf a0.lo = r1 at *
 have e1 : (w64 (r1.val - 1)).val = r1.val - 1:=by rw [w64_val]; omega
 exact Run.l (by kernel_rfl) (by kernel_rfl) (by kernel_rfl) (by kernel_rfl) (oi_turnsIn_L0 a0 _ (w64 (r1.val - 1)) [] (.slice none 0 0) [] (.inl ⟨rfl,rfl⟩) (by omega) (by omega) (by simp only [List.length_nil]; omega))
theorem oi_circleHull_L0 : ∀ (fu : Nat) (cp_r7 : Nat) (pd_r7 : List Value) (a1 : I64) (r7 : List I64) (a0 : Iv) (x_24 : I64) (y_2 : Iv) (q0 : 0 ≤ x_24.val) (q1 : ((r7.length : Nat) : Int) ≤ 4000) (hm : (((r7.length : Nat) : Int) - x_24.val).toNat < fu) (t : Array Value) (ht : maskA t [0,2,3,6,7,8,9,10,11,12,13,14,15,16,17,18,19,20,21,25,26,27,28,29,30,31,32,33,34,35,36,37,38,39,40,41,42,43] = #[undef,.int .i64 a1.val,undef,undef,.pointer (some ⟨1,0,none⟩),.pointer (some ⟨2,0,none⟩),undef,undef,undef,undef,undef,undef,undef,undef,undef,undef,undef,undef,undef,undef,undef,undef,.slice (some ⟨3,0,some 0⟩) r7.length cp_r7,.int .i64 (((r7.length : Nat) : Int)),.int .i64 x_24.val,undef,undef,undef,undef,undef,undef,undef,undef,undef,undef,undef,undef,undef,undef,undef,undef,undef,undef,undef]),Cfg Tryz.prog 136 (loopAt Tryz.f136 0) t [(#[.int .i64 a0.lo.val,.int .i64 a0.hi.val],31),(#[.int .i64 0,.int .i64 0],31),(#[.int .i64 y_2.lo.val,.int .i64 y_2.hi.val],31),(rowOf r7 pd_r7,2)] (RvH [] (vIv (I_circleHull_L0 fu a1 r7 a0 x_24 y_2))):=by
 intro fu
 induction fu with
 | zero=>intro cp_r7 pd_r7 a1 r7 a0 x_24 y_2 q0 q1 hm; exact absurd hm (Nat.not_lt_zero _)
 | succ fu ih=>
  intro cp_r7 pd_r7 a1 r7 a0 x_24 y_2 q0 q1 hm t ht
  refine Cfg.round E_ok mixed Tryz.func136 ht fun g=>?_
  unfold I_circleHull_L0
  refine Run.y (gv:=vIv) (fun h8=>?_) (fun h8=>?_)
  ·refine Run.k (c:=(decide (0 ≤ x_24.val ∧ x_24.val < ((r7.length : Nat) : Int)))) (by kernel_rfl) (by simp only [w64_val,wu64_val,c64_val,cu64_val,decide_eq_true_eq,decide_eq_false_iff_not,cond_true,cond_false] at *; omega) ?_
   refine Run.ld (by kernel_rfl) (listAt_ok (L:=r7) (pad:=pd_r7) (i:=x_24) (by simp only [w64_val,wu64_val,c64_val,cu64_val,decide_eq_true_eq,decide_eq_false_iff_not,cond_true,cond_false] at *; omega)) ?_
   refine Run.y (gv:=vIv) (fun h9=>?_) (fun h9=>?_)
   ·refine Run.q (e:=vIv) (gv:=vIv) (oi_Integer _) fun r10 hr10=>?_
    refine Run.q (e:=vIv) (gv:=vIv) (oi_HullI _ _) fun r11 hr11=>?_
    exact Run.l (by kernel_rfl) (by kernel_rfl) (by kernel_rfl) (by kernel_rfl) (ih cp_r7 pd_r7 a1 r7 a0 (w64 (x_24.val + 1)) r11 (by first | omega | (simp only [w64_val,wu64_val,c64_val,cu64_val,decide_eq_true_eq,decide_eq_false_iff_not,cond_true,cond_false] at *; omega)) (by first | omega | (simp only [w64_val,wu64_val,c64_val,cu64_val,decide_eq_true_eq,decide_eq_false_iff_not,cond_true,cond_false] at *; omega)) (by first | omega | (simp only [w64_val,wu64_val,c64_val,cu64_val,decide_eq_true_eq,decide_eq_false_iff_not,cond_true,cond_false] at *; omega)))
   ·refine Run.y (gv:=vIv) (fun h12=>?_) (fun h12=>?_)
    ·refine Run.q (e:=vIv) (gv:=vIv) (oi_Integer _) fun r13 hr13=>?_
     refine Run.q (e:=vIv) (gv:=vIv) (oi_HullI _ _) fun r14 hr14=>?_
     exact Run.l (by kernel_rfl) (by kernel_rfl) (by kernel_rfl) (by kernel_rfl) (ih cp_r7 pd_r7 a1 r7 a0 (w64 (x_24.val + 1)) r14 (by first | omega | (simp only [w64_val,wu64_val,c64_val,cu64_val,decide_eq_true_eq,decide_eq_false_iff_not,cond_true,cond_false] at *; omega)) (by first | omega | (simp only [w64_val,wu64_val,c64_val,cu64_val,decide_eq_true_eq,decide_eq_false_iff_not,cond_true,cond_false] at *; omega)) (by first | omega | (simp only [w64_val,wu64_val,c64_val,cu64_val,decide_eq_true_eq,decide_eq_false_iff_not,cond_true,cond_false] at *; omega)))
    ·exact Run.l (by kernel_rfl) (by kernel_rfl) (by kernel_rfl) (by kernel_rfl) (ih cp_r7 pd_r7 a1 r7 a0 (w64 (x_24.val + 1)) y_2 (by first | omega | (simp only [w64_val,wu64_val,c64_val,cu64_val,decide_eq_true_eq,decide_eq_false_iff_not,cond_true,cond_false] at *; omega)) (by first | omega | (simp only [w64_val,wu64_val,c64_val,cu64_val,decide_eq_true_eq,decide_eq_false_iff_not,cond_true,cond_false] at *; omega)) (by first | omega | (simp only [w64_val,wu64_val,c64_val,cu64_val,decide_eq_true_eq,decide_eq_false_iff_not,cond_true,cond_false] at *; omega)))
  ·exact Run.x 0
theorem oi_circleHull (a0 : Iv) (a1 : I64) : Fun Tryz.prog 136 [] #[vIv a0,vI a1] (vIv (I_circleHull a0 a1)) []:=by
 refine Fun.ofH 400 E_ok mixed Tryz.func136 (by kernel_rfl) (by kernel_rfl) ?_
 unfold I_circleHull
 refine Run.q (e:=vB) (gv:=vIv) (oi_areAngles _) fun r1 hr1=>?_
 refine Run.y (gv:=vIv) (fun h2=>?_) (fun h2=>?_)
 ·refine Run.q (e:=vIv) (gv:=vIv) (oi_ring) fun r3 hr3=>?_
  exact Run.x 0
 ·refine Run.q (e:=vIv) (gv:=vIv) (oi_circleValue _ _) fun r4 hr4=>?_
  refine Run.q (e:=vIv) (gv:=vIv) (oi_circleValue _ _) fun r5 hr5=>?_
  refine Run.q (e:=vIv) (gv:=vIv) (oi_HullI _ _) fun r6 hr6=>?_
  refine Run.bl (gv:=vIv) (by kernel_rfl) (by kernel_rfl) (oi_turnsIn _) (by kernel_rfl) (fun r7 hr7 nr7=>?_) (fun r7 hr7 cp_r7 pd_r7=>?_)
  ·subst nr7
   have e0 : I_circleHull_L0 (((([] : List I64).length : Nat) : Int).toNat + 1) a1 ([] : List I64) a0 (c64 0) r6 = r6:=by rw [I_circleHull_L0]; exact cond_false _ _
   show Run _ _ (RvH [] (vIv (I_circleHull_L0 (((([] : List I64).length : Nat) : Int).toNat + 1) a1 ([] : List I64) a0 (c64 0) r6))) _
   rw [e0]
   refine Run.u 400 E_ok mixed Tryz.func136 ?_
   refine Run.z [false] ?_
   exact Run.x 0
  ·have hl_r7 : ((r7.length : Nat) : Int) ≤ 4000:=by rw [hr7]; exact Int.ofNat_le.2 (len_impl_turnsIn _)
   exact Run.l (by kernel_rfl) (by kernel_rfl) (by kernel_rfl) (by kernel_rfl) (oi_circleHull_L0 (((r7.length : Nat) : Int).toNat + 1) cp_r7 pd_r7 a1 r7 a0 (c64 0) r6 (by first | omega | (simp only [w64_val,wu64_val,c64_val,cu64_val,decide_eq_true_eq,decide_eq_false_iff_not,cond_true,cond_false] at *; omega)) (by first | omega | (simp only [w64_val,wu64_val,c64_val,cu64_val,decide_eq_true_eq,decide_eq_false_iff_not,cond_true,cond_false] at *; omega)) (by first | omega | (simp only [w64_val,wu64_val,c64_val,cu64_val,decide_eq_true_eq,decide_eq_false_iff_not,cond_true,cond_false] at *; omega)))
theorem oi_SinI (a0 : Iv) : Fun Tryz.prog 51 [] #[vIv a0] (vIv (I_SinI a0)) []:=by
 refine Fun.ofH 400 E_ok mixed Tryz.func51 (by kernel_rfl) (by kernel_rfl) ?_
 unfold I_SinI
 refine Run.q (e:=vIv) (gv:=vIv) (oi_circleHull _ _) fun r1 _=>?_
 exact Run.x 0
theorem oi_HalfI (a0 : Iv) : Fun Tryz.prog 106 [] #[vIv a0] (vIv (I_HalfI a0)) []:=by
 refine Fun.ofH 400 E_ok mixed Tryz.func106 (by kernel_rfl) (by kernel_rfl) ?_
 unfold I_HalfI
 refine Run.q (e:=vB) (gv:=vIv) (oi_IsWhole _) fun r1 _=>?_
 refine Run.y (gv:=vIv) (fun _=>?_) (fun _=>?_)
 ·refine Run.q (e:=vIv) (gv:=vIv) (oi_Whole) fun r2 _=>?_
  exact Run.x 0
 ·refine Run.z [true,true] ?_
  exact Run.x 0
theorem oi_CosI (a0 : Iv) : Fun Tryz.prog 53 [] #[vIv a0] (vIv (I_CosI a0)) []:=by
 refine Fun.ofH 400 E_ok mixed Tryz.func53 (by kernel_rfl) (by kernel_rfl) ?_
 unfold I_CosI
 refine Run.q (e:=vIv) (gv:=vIv) (oi_circleHull _ _) fun r1 _=>?_
 exact Run.x 0
theorem oi_twosOf_L1 : ∀ (fu : Nat) (a0 : I64) (x_e : I64) (q0 : 1 ≤ a0.val) (q1 : a0.val ≤ 1152921504606846976) (q2 : -1000 ≤ x_e.val) (q3 : x_e.val ≤ 0 → a0.val * 2 ^ (0 - x_e.val).toNat < 6442450944) (hm : (64 + x_e.val).toNat < fu) (t : Array Value) (ht : maskA t [1,4,5,6,7,8,9,10,11,12,13,14,15,16,17,18,19,20,21] = #[.int .i64 a0.val,undef,.int .i64 0,.int .i64 x_e.val,undef,undef,undef,undef,undef,undef,undef,undef,undef,undef,undef,undef,undef,undef,undef,undef,undef,undef]),Cfg Tryz.prog 246 (loopAt Tryz.f246 1) t [] (RvH [] (vI (I_twosOf_L1 fu a0 x_e))):=by
 intro fu
 induction fu with
 | zero=>intro a0 x_e q0 q1 q2 q3 hm; exact absurd hm (Nat.not_lt_zero _)
 | succ fu ih=>
  intro a0 x_e q0 q1 q2 q3 hm t ht
  refine Cfg.round E_ok mixed Tryz.func246 ht fun g=>?_
  unfold I_twosOf_L1
  refine Run.y (gv:=vI) (fun h2=>?_) (fun h2=>?_)
  ·refine Run.z [true,true,true] ?_
   refine Run.k (c:=(decide (0 ≤ (w64 (0 - x_e.val)).val))) (by kernel_rfl) (by first | exact decide_eq_true (by omega) | (simp only [w64_val,decide_eq_true_eq] at *; omega)) ?_
   refine Run.z [true,true] ?_
   refine Run.y (gv:=vI) (fun h3=>?_) (fun h3=>?_)
   ·exact Run.l (by kernel_rfl) (by kernel_rfl) (by kernel_rfl) (by kernel_rfl) (ih a0 (w64 (x_e.val - 1)) (by first | exact q0 | exact q1 | exact Nat.lt_succ_self _ | (have z:=two_less a0 x_e q0 q3 h2 h3; first | exact z.2.2 | (simp only [w64_val]; omega))) (by first | exact q0 | exact q1 | exact Nat.lt_succ_self _ | (have z:=two_less a0 x_e q0 q3 h2 h3; first | exact z.2.2 | (simp only [w64_val]; omega))) (by first | exact q0 | exact q1 | exact Nat.lt_succ_self _ | (have z:=two_less a0 x_e q0 q3 h2 h3; first | exact z.2.2 | (simp only [w64_val]; omega))) (by first | exact q0 | exact q1 | exact Nat.lt_succ_self _ | (have z:=two_less a0 x_e q0 q3 h2 h3; first | exact z.2.2 | (simp only [w64_val]; omega))) (by first | exact q0 | exact q1 | exact Nat.lt_succ_self _ | (have z:=two_less a0 x_e q0 q3 h2 h3; first | exact z.2.2 | (simp only [w64_val]; omega))))
   ·exact Run.x 0
  ·refine Run.z [false,false,false,false,false,false] ?_
   exact Run.x 0
theorem oi_twosOf_L0 : ∀ (fu : Nat) (a0 : I64) (x_e : I64) (q0 : 1 ≤ a0.val) (q1 : a0.val ≤ 1152921504606846976) (q2 : 0 ≤ x_e.val ∧ x_e.val ≤ 40) (hm : (64 - x_e.val).toNat < fu) (t : Array Value) (ht : maskA t [1,4,5,6,7,8,9,10,11,12,13,14,15,16,17,18,19,20,21] = #[.int .i64 a0.val,undef,.int .i64 0,.int .i64 x_e.val,undef,undef,undef,undef,undef,undef,undef,undef,undef,undef,undef,undef,undef,undef,undef,undef,undef,undef]),Cfg Tryz.prog 246 (loopAt Tryz.f246 0) t [] (RvH [] (vI (I_twosOf_L0 fu a0 x_e))):=by
 intro fu
 induction fu with
 | zero=>intro a0 x_e q0 q1 q2 hm; exact absurd hm (Nat.not_lt_zero _)
 | succ fu ih=>
  intro a0 x_e q0 q1 q2 hm t ht
  refine Cfg.round E_ok mixed Tryz.func246 ht fun g=>?_
  unfold I_twosOf_L0
  refine Run.k (c:=(decide (0 ≤ x_e.val))) (by kernel_rfl) (by first | exact decide_eq_true (by omega) | (simp only [w64_val,decide_eq_true_eq] at *; omega)) ?_
  refine Run.y (gv:=vI) (fun h1=>?_) (fun h1=>?_)
  ·exact Run.l (by kernel_rfl) (by kernel_rfl) (by kernel_rfl) (by kernel_rfl) (ih a0 (w64 (x_e.val + 1)) (by first | exact q0 | exact q1 | exact Nat.lt_succ_self _ | exact two_exit a0 x_e q2.1 h1 | (have z:=shr_big a0 x_e q1 q2.1 h1; simp only [w64_val]; omega)) (by first | exact q0 | exact q1 | exact Nat.lt_succ_self _ | exact two_exit a0 x_e q2.1 h1 | (have z:=shr_big a0 x_e q1 q2.1 h1; simp only [w64_val]; omega)) (by first | exact q0 | exact q1 | exact Nat.lt_succ_self _ | exact two_exit a0 x_e q2.1 h1 | (have z:=shr_big a0 x_e q1 q2.1 h1; simp only [w64_val]; omega)) (by first | exact q0 | exact q1 | exact Nat.lt_succ_self _ | exact two_exit a0 x_e q2.1 h1 | (have z:=shr_big a0 x_e q1 q2.1 h1; simp only [w64_val]; omega)))
  ·exact Run.l (by kernel_rfl) (by kernel_rfl) (by kernel_rfl) (by kernel_rfl) (oi_twosOf_L1 ((64 + x_e.val).toNat + 1) a0 x_e (by first | exact q0 | exact q1 | exact Nat.lt_succ_self _ | exact two_exit a0 x_e q2.1 h1 | omega) (by first | exact q0 | exact q1 | exact Nat.lt_succ_self _ | exact two_exit a0 x_e q2.1 h1 | omega) (by first | exact q0 | exact q1 | exact Nat.lt_succ_self _ | exact two_exit a0 x_e q2.1 h1 | omega) (by first | exact q0 | exact q1 | exact Nat.lt_succ_self _ | exact two_exit a0 x_e q2.1 h1 | omega) (by first | exact q0 | exact q1 | exact Nat.lt_succ_self _ | exact two_exit a0 x_e q2.1 h1 | omega))
theorem oi_twosOf (a0 : I64) (p0 : 1 ≤ a0.val) (p1 : a0.val ≤ 1152921504606846976) : Fun Tryz.prog 246 [] #[vI a0] (vI (I_twosOf a0)) []:=by
 refine Fun.ofH 400 E_ok mixed Tryz.func246 (by kernel_rfl) (by kernel_rfl) ?_
 unfold I_twosOf
 exact Run.l (by kernel_rfl) (by kernel_rfl) (by kernel_rfl) (by kernel_rfl) (oi_twosOf_L0 ((64 - (c64 0).val).toNat + 1) a0 (c64 0) (by first | exact p0 | exact p1 | exact ⟨by decide,by decide⟩ | exact Nat.lt_succ_self _) (by first | exact p0 | exact p1 | exact ⟨by decide,by decide⟩ | exact Nat.lt_succ_self _) (by first | exact p0 | exact p1 | exact ⟨by decide,by decide⟩ | exact Nat.lt_succ_self _) (by first | exact p0 | exact p1 | exact ⟨by decide,by decide⟩ | exact Nat.lt_succ_self _))
theorem oi_FixFloor (a0 : I64) (a1 : I64) : Fun Tryz.prog 267 [] #[vI a0,vI a1] (vT_I_B (I_FixFloor a0 a1)) []:=by
 refine Fun.ofH 400 E_ok mixed Tryz.func267 (by kernel_rfl) (by kernel_rfl) ?_
 unfold I_FixFloor
 refine Run.q (e:=vT_I_B) (gv:=vT_I_B) (oi_MulDivFloor _ _ _) fun r1 _=>?_
 refine Run.q (e:=vT_I_B) (gv:=vT_I_B) (oi_fixed _ _) fun r2 _=>?_
 exact Run.x 0
theorem oi_mulDivCeil (a0 : I64) (a1 : I64) (a2 : I64) : Fun Tryz.prog 277 [] #[vI a0,vI a1,vI a2] (vT_I_B (I_mulDivCeil a0 a1 a2)) []:=by
 refine Fun.ofH 400 E_ok mixed Tryz.func277 (by kernel_rfl) (by kernel_rfl) ?_
 unfold I_mulDivCeil
 refine Run.q (e:=vWd) (gv:=vT_I_B) (oi_WideMul _ _) fun r1 _=>?_
 refine Run.q (e:=vT_Wd_I_B) (gv:=vT_I_B) (oi_WideDiv _ _) fun r2 _=>?_
 refine Run.y (gv:=vT_I_B) (fun _=>?_) (fun _=>?_)
 ·exact Run.x 0
 ·refine Run.q (e:=vT_I_B) (gv:=vT_I_B) (oi_WideInt _) fun r3 _=>?_
  refine Run.y (gv:=vT_I_B) (fun _=>?_) (fun _=>?_)
  ·refine Run.z [true,true,true,true,true] ?_
   exact Run.x 0
  ·refine Run.z [false,false] ?_
   refine Run.y (gv:=vT_I_B) (fun _=>?_) (fun _=>?_)
   ·refine Run.z [true,false,true,false] ?_
    refine Run.y (gv:=vT_I_B) (fun _=>?_) (fun _=>?_)
    ·exact Run.x 0
    ·refine Run.y (gv:=vT_I_B) (fun _=>?_) (fun _=>?_)
     ·exact Run.x 0
     ·exact Run.x 0
   ·refine Run.z [false,false,false,false,false] ?_
    refine Run.y (gv:=vT_I_B) (fun _=>?_) (fun _=>?_)
    ·exact Run.x 0
    ·exact Run.x 0
theorem oi_FixCeil (a0 : I64) (a1 : I64) : Fun Tryz.prog 268 [] #[vI a0,vI a1] (vT_I_B (I_FixCeil a0 a1)) []:=by
 refine Fun.ofH 400 E_ok mixed Tryz.func268 (by kernel_rfl) (by kernel_rfl) ?_
 unfold I_FixCeil
 refine Run.q (e:=vT_I_B) (gv:=vT_I_B) (oi_mulDivCeil _ _ _) fun r1 _=>?_
 refine Run.q (e:=vT_I_B) (gv:=vT_I_B) (oi_fixed _ _) fun r2 _=>?_
 exact Run.x 0
theorem oi_Quotient (a0 : I64) (a1 : I64) : Fun Tryz.prog 247 [] #[vI a0,vI a1] (vIv (I_Quotient a0 a1)) []:=by
 refine Fun.ofH 400 E_ok mixed Tryz.func247 (by kernel_rfl) (by kernel_rfl) ?_
 unfold I_Quotient
 refine Run.y (gv:=vIv) (fun _=>?_) (fun _=>?_)
 ·refine Run.y (gv:=vIv) (fun _=>?_) (fun _=>?_)
  ·refine Run.z [true,true,true] ?_
   refine Run.q (e:=vIv) (gv:=vIv) (oi_Whole) fun r1 _=>?_
   exact Run.x 0
  ·refine Run.z [false,false] ?_
   refine Run.y (gv:=vIv) (fun _=>?_) (fun _=>?_)
   ·refine Run.q (e:=vIv) (gv:=vIv) (oi_Whole) fun r2 _=>?_
    exact Run.x 0
   ·refine Run.q (e:=vT_I_B) (gv:=vIv) (oi_FixFloor _ _) fun r3 _=>?_
    refine Run.q (e:=vT_I_B) (gv:=vIv) (oi_FixCeil _ _) fun r4 _=>?_
    refine Run.y (gv:=vIv) (fun _=>?_) (fun _=>?_)
    ·refine Run.z [true] ?_
     refine Run.q (e:=vIv) (gv:=vIv) (oi_bounded _ _ _) fun r5 _=>?_
     exact Run.x 0
    ·refine Run.z [false] ?_
     refine Run.q (e:=vIv) (gv:=vIv) (oi_bounded _ _ _) fun r6 _=>?_
     exact Run.x 0
 ·refine Run.q (e:=vT_I_B) (gv:=vIv) (oi_FixFloor _ _) fun r7 _=>?_
  refine Run.q (e:=vT_I_B) (gv:=vIv) (oi_FixCeil _ _) fun r8 _=>?_
  refine Run.y (gv:=vIv) (fun _=>?_) (fun _=>?_)
  ·refine Run.z [true] ?_
   refine Run.q (e:=vIv) (gv:=vIv) (oi_bounded _ _ _) fun r9 _=>?_
   exact Run.x 0
  ·refine Run.z [false] ?_
   refine Run.q (e:=vIv) (gv:=vIv) (oi_bounded _ _ _) fun r10 _=>?_
   exact Run.x 0
theorem oi_LogTwoI_r : ∀ (fu : Nat) (a0 : I64) (hm : min (0 - a0.val).toNat 1 < fu),Fun Tryz.prog 232 [] #[vI a0] (vIv (I_LogTwoI_r fu a0)) []:=by
 intro fu
 induction fu with
 | zero=>intro a0 hm; exact absurd hm (Nat.not_lt_zero _)
 | succ fu ih=>
  intro a0 hm
  refine Fun.ofH 400 E_ok mixed Tryz.func232 (by kernel_rfl) (by kernel_rfl) ?_
  unfold I_LogTwoI_r
  unfold I_LogTwoI_b
  refine Run.q (e:=vB) (gv:=vIv) (oi_within _ _ _) fun r1 hr1=>?_
  refine Run.y (gv:=vIv) (fun h2=>?_) (fun h2=>?_)
  ·refine Run.q (e:=vIv) (gv:=vIv) (oi_Whole) fun r3 hr3=>?_
   exact Run.x 0
  ·refine Run.y (gv:=vIv) (fun h4=>?_) (fun h4=>?_)
   ·refine Run.q (e:=vIv) (gv:=vIv) (ih (w64 (0 - a0.val)) (by rw [hr1] at h2; simp [I_within,c64_val] at h2; simp only [w64_val,decide_eq_true_eq,decide_eq_false_iff_not] at *; omega)) fun r5 hr5=>?_
    refine Run.q (e:=vIv) (gv:=vIv) (oi_NegI _) fun r6 hr6=>?_
    exact Run.x 0
   ·refine Run.q (e:=vT_I_B) (gv:=vIv) (oi_MulFloor _ _ _) fun r7 hr7=>?_
    refine Run.q (e:=vT_I_B) (gv:=vIv) (oi_MulFloor _ _ _) fun r8 hr8=>?_
    exact Run.x 0
theorem oi_LogTwoI (a0 : I64) : Fun Tryz.prog 232 [] #[vI a0] (vIv (I_LogTwoI a0)) []:=oi_LogTwoI_r 2 a0 (by omega)
theorem oi_widened (a0 : Iv) (a1 : I64) : Fun Tryz.prog 234 [] #[vIv a0,vI a1] (vIv (I_widened a0 a1)) []:=by
 refine Fun.ofH 400 E_ok mixed Tryz.func234 (by kernel_rfl) (by kernel_rfl) ?_
 unfold I_widened
 refine Run.q (e:=vB) (gv:=vIv) (oi_ValidInterval _) fun r1 _=>?_
 refine Run.q (e:=vIv) (gv:=vIv) (oi_bounded _ _ _) fun r2 _=>?_
 exact Run.x 0
theorem oi_LogAt (a0 : I64) : Fun Tryz.prog 213 [] #[vI a0] (vIv (I_LogAt a0)) []:=by
 refine Fun.ofH 400 E_ok mixed Tryz.func213 (by kernel_rfl) (by kernel_rfl) ?_
 unfold I_LogAt
 refine Run.q (e:=vB) (gv:=vIv) (oi_ValidFix _) fun r1 hr1=>?_
 refine Run.y (gv:=vIv) (fun h2=>?_) (fun h2=>?_)
 ·refine Run.z [true,true,true] ?_
  refine Run.q (e:=vIv) (gv:=vIv) (oi_Whole) fun r3 hr3=>?_
  exact Run.x 0
 ·refine Run.z [false,false] ?_
  refine Run.y (gv:=vIv) (fun h4=>?_) (fun h4=>?_)
  ·refine Run.q (e:=vIv) (gv:=vIv) (oi_Whole) fun r5 hr5=>?_
   exact Run.x 0
  ·refine Run.q (e:=vI) (gv:=vIv) (oi_twosOf _ (by first | (have z:=validfix_p hr1 h2; simp only [decide_eq_false_iff_not] at h4; omega) | (simp only [decide_eq_true_eq] at h8 ⊢; omega) | (have z:=twosOf_b a0; rw [← hr6] at z; simp only [decide_eq_false_iff_not] at h8; simp only [w64_val,decide_eq_true_eq]; omega)) (by first | (have z:=validfix_p hr1 h2; simp only [decide_eq_false_iff_not] at h4; omega) | (simp only [decide_eq_true_eq] at h8 ⊢; omega) | (have z:=twosOf_b a0; rw [← hr6] at z; simp only [decide_eq_false_iff_not] at h8; simp only [w64_val,decide_eq_true_eq]; omega))) fun r6 hr6=>?_
   refine Run.q (e:=vIv) (gv:=vIv) (oi_at _) fun r7 hr7=>?_
   refine Run.y (gv:=vIv) (fun h8=>?_) (fun h8=>?_)
   ·refine Run.k (c:=(decide (0 ≤ r6.val))) (by kernel_rfl) (by first | (have z:=validfix_p hr1 h2; simp only [decide_eq_false_iff_not] at h4; omega) | (simp only [decide_eq_true_eq] at h8 ⊢; omega) | (have z:=twosOf_b a0; rw [← hr6] at z; simp only [decide_eq_false_iff_not] at h8; simp only [w64_val,decide_eq_true_eq]; omega)) ?_
    refine Run.k (c:=(decide (0 ≤ r6.val))) (by kernel_rfl) (by first | (have z:=validfix_p hr1 h2; simp only [decide_eq_false_iff_not] at h4; omega) | (simp only [decide_eq_true_eq] at h8 ⊢; omega) | (have z:=twosOf_b a0; rw [← hr6] at z; simp only [decide_eq_false_iff_not] at h8; simp only [w64_val,decide_eq_true_eq]; omega)) ?_
    refine Run.q (e:=vIv) (gv:=vIv) (oi_Integer _) fun r9 hr9=>?_
    refine Run.q (e:=vIv) (gv:=vIv) (oi_SubI _ _) fun r10 hr10=>?_
    refine Run.q (e:=vIv) (gv:=vIv) (oi_Integer _) fun r11 hr11=>?_
    refine Run.q (e:=vIv) (gv:=vIv) (oi_AddI _ _) fun r12 hr12=>?_
    refine Run.q (e:=vIv) (gv:=vIv) (oi_DivI _ _) fun r13 hr13=>?_
    refine Run.q (e:=vIv) (gv:=vIv) (oi_SqrI _) fun r14 hr14=>?_
    refine Run.q (e:=vIv) (gv:=vIv) (oi_Quotient _ _) fun r15 hr15=>?_
    refine Run.u 400 E_ok mixed Tryz.func213 ?_
    refine Run.z [true] ?_
    refine Run.q (e:=vIv) (gv:=vIv) (oi_Quotient _ _) fun r16 hr16=>?_
    refine Run.q (e:=vIv) (gv:=vIv) (oi_MulI _ _) fun r17 hr17=>?_
    refine Run.q (e:=vIv) (gv:=vIv) (oi_AddI _ _) fun r18 hr18=>?_
    refine Run.u 400 E_ok mixed Tryz.func213 ?_
    refine Run.z [true] ?_
    refine Run.q (e:=vIv) (gv:=vIv) (oi_Quotient _ _) fun r19 hr19=>?_
    refine Run.q (e:=vIv) (gv:=vIv) (oi_MulI _ _) fun r20 hr20=>?_
    refine Run.q (e:=vIv) (gv:=vIv) (oi_AddI _ _) fun r21 hr21=>?_
    refine Run.u 400 E_ok mixed Tryz.func213 ?_
    refine Run.z [true] ?_
    refine Run.q (e:=vIv) (gv:=vIv) (oi_Quotient _ _) fun r22 hr22=>?_
    refine Run.q (e:=vIv) (gv:=vIv) (oi_MulI _ _) fun r23 hr23=>?_
    refine Run.q (e:=vIv) (gv:=vIv) (oi_AddI _ _) fun r24 hr24=>?_
    refine Run.u 400 E_ok mixed Tryz.func213 ?_
    refine Run.z [true] ?_
    refine Run.q (e:=vIv) (gv:=vIv) (oi_Quotient _ _) fun r25 hr25=>?_
    refine Run.q (e:=vIv) (gv:=vIv) (oi_MulI _ _) fun r26 hr26=>?_
    refine Run.q (e:=vIv) (gv:=vIv) (oi_AddI _ _) fun r27 hr27=>?_
    refine Run.u 400 E_ok mixed Tryz.func213 ?_
    refine Run.z [true] ?_
    refine Run.q (e:=vIv) (gv:=vIv) (oi_Quotient _ _) fun r28 hr28=>?_
    refine Run.q (e:=vIv) (gv:=vIv) (oi_MulI _ _) fun r29 hr29=>?_
    refine Run.q (e:=vIv) (gv:=vIv) (oi_AddI _ _) fun r30 hr30=>?_
    refine Run.u 400 E_ok mixed Tryz.func213 ?_
    refine Run.z [false] ?_
    refine Run.q (e:=vIv) (gv:=vIv) (oi_LogTwoI _) fun r31 hr31=>?_
    refine Run.q (e:=vIv) (gv:=vIv) (oi_Integer _) fun r32 hr32=>?_
    refine Run.q (e:=vIv) (gv:=vIv) (oi_MulI _ _) fun r33 hr33=>?_
    refine Run.q (e:=vIv) (gv:=vIv) (oi_MulI _ _) fun r34 hr34=>?_
    refine Run.q (e:=vIv) (gv:=vIv) (oi_widened _ _) fun r35 hr35=>?_
    refine Run.q (e:=vIv) (gv:=vIv) (oi_AddI _ _) fun r36 hr36=>?_
    exact Run.x 0
   ·refine Run.k (c:=(decide (0 ≤ (w64 (0 - r6.val)).val))) (by kernel_rfl) (by first | (have z:=validfix_p hr1 h2; simp only [decide_eq_false_iff_not] at h4; omega) | (simp only [decide_eq_true_eq] at h8 ⊢; omega) | (have z:=twosOf_b a0; rw [← hr6] at z; simp only [decide_eq_false_iff_not] at h8; simp only [w64_val,decide_eq_true_eq]; omega)) ?_
    refine Run.q (e:=vIv) (gv:=vIv) (oi_at _) fun r37 hr37=>?_
    refine Run.q (e:=vIv) (gv:=vIv) (oi_Integer _) fun r38 hr38=>?_
    refine Run.q (e:=vIv) (gv:=vIv) (oi_SubI _ _) fun r39 hr39=>?_
    refine Run.q (e:=vIv) (gv:=vIv) (oi_Integer _) fun r40 hr40=>?_
    refine Run.q (e:=vIv) (gv:=vIv) (oi_AddI _ _) fun r41 hr41=>?_
    refine Run.q (e:=vIv) (gv:=vIv) (oi_DivI _ _) fun r42 hr42=>?_
    refine Run.q (e:=vIv) (gv:=vIv) (oi_SqrI _) fun r43 hr43=>?_
    refine Run.q (e:=vIv) (gv:=vIv) (oi_Quotient _ _) fun r44 hr44=>?_
    refine Run.u 400 E_ok mixed Tryz.func213 ?_
    refine Run.z [true] ?_
    refine Run.q (e:=vIv) (gv:=vIv) (oi_Quotient _ _) fun r45 hr45=>?_
    refine Run.q (e:=vIv) (gv:=vIv) (oi_MulI _ _) fun r46 hr46=>?_
    refine Run.q (e:=vIv) (gv:=vIv) (oi_AddI _ _) fun r47 hr47=>?_
    refine Run.u 400 E_ok mixed Tryz.func213 ?_
    refine Run.z [true] ?_
    refine Run.q (e:=vIv) (gv:=vIv) (oi_Quotient _ _) fun r48 hr48=>?_
    refine Run.q (e:=vIv) (gv:=vIv) (oi_MulI _ _) fun r49 hr49=>?_
    refine Run.q (e:=vIv) (gv:=vIv) (oi_AddI _ _) fun r50 hr50=>?_
    refine Run.u 400 E_ok mixed Tryz.func213 ?_
    refine Run.z [true] ?_
    refine Run.q (e:=vIv) (gv:=vIv) (oi_Quotient _ _) fun r51 hr51=>?_
    refine Run.q (e:=vIv) (gv:=vIv) (oi_MulI _ _) fun r52 hr52=>?_
    refine Run.q (e:=vIv) (gv:=vIv) (oi_AddI _ _) fun r53 hr53=>?_
    refine Run.u 400 E_ok mixed Tryz.func213 ?_
    refine Run.z [true] ?_
    refine Run.q (e:=vIv) (gv:=vIv) (oi_Quotient _ _) fun r54 hr54=>?_
    refine Run.q (e:=vIv) (gv:=vIv) (oi_MulI _ _) fun r55 hr55=>?_
    refine Run.q (e:=vIv) (gv:=vIv) (oi_AddI _ _) fun r56 hr56=>?_
    refine Run.u 400 E_ok mixed Tryz.func213 ?_
    refine Run.z [true] ?_
    refine Run.q (e:=vIv) (gv:=vIv) (oi_Quotient _ _) fun r57 hr57=>?_
    refine Run.q (e:=vIv) (gv:=vIv) (oi_MulI _ _) fun r58 hr58=>?_
    refine Run.q (e:=vIv) (gv:=vIv) (oi_AddI _ _) fun r59 hr59=>?_
    refine Run.u 400 E_ok mixed Tryz.func213 ?_
    refine Run.z [false] ?_
    refine Run.q (e:=vIv) (gv:=vIv) (oi_LogTwoI _) fun r60 hr60=>?_
    refine Run.q (e:=vIv) (gv:=vIv) (oi_Integer _) fun r61 hr61=>?_
    refine Run.q (e:=vIv) (gv:=vIv) (oi_MulI _ _) fun r62 hr62=>?_
    refine Run.q (e:=vIv) (gv:=vIv) (oi_MulI _ _) fun r63 hr63=>?_
    refine Run.q (e:=vIv) (gv:=vIv) (oi_widened _ _) fun r64 hr64=>?_
    refine Run.q (e:=vIv) (gv:=vIv) (oi_AddI _ _) fun r65 hr65=>?_
    exact Run.x 0
theorem oi_monotonic__impl_LogAt (a0 : Iv) : Fun Tryz.prog 197 [] #[vIv a0,.func (.func 213) #[] #[]] (vIv (I_monotonic__impl_LogAt a0)) []:=by
 refine Fun.ofH 400 E_ok mixed Tryz.func197 (by kernel_rfl) (by kernel_rfl) ?_
 unfold I_monotonic__impl_LogAt
 refine Run.q (e:=vB) (gv:=vIv) (oi_IsWhole _) fun r1 _=>?_
 refine Run.y (gv:=vIv) (fun _=>?_) (fun _=>?_)
 ·refine Run.q (e:=vIv) (gv:=vIv) (oi_Whole) fun r2 _=>?_
  exact Run.x 0
 ·refine Run.q (e:=vIv) (gv:=vIv) (oi_LogAt _) fun r3 _=>?_
  refine Run.q (e:=vIv) (gv:=vIv) (oi_LogAt _) fun r4 _=>?_
  refine Run.q (e:=vB) (gv:=vIv) (oi_areBounded _ _) fun r5 _=>?_
  refine Run.y (gv:=vIv) (fun _=>?_) (fun _=>?_)
  ·refine Run.q (e:=vIv) (gv:=vIv) (oi_Whole) fun r6 _=>?_
   exact Run.x 0
  ·refine Run.q (e:=vIv) (gv:=vIv) (oi_bounded _ _ _) fun r7 _=>?_
   exact Run.x 0
theorem oi_LogI (a0 : Iv) : Fun Tryz.prog 150 [] #[vIv a0] (vIv (I_LogI a0)) []:=by
 refine Fun.ofH 400 E_ok mixed Tryz.func150 (by kernel_rfl) (by kernel_rfl) ?_
 unfold I_LogI
 refine Run.q (e:=vIv) (gv:=vIv) (oi_monotonic__impl_LogAt _) fun r1 _=>?_
 exact Run.x 0
theorem oi_SinAt (a0 : I64) : Fun Tryz.prog 188 [] #[vI a0] (vIv (I_SinAt a0)) []:=by
 refine Fun.ofH 400 E_ok mixed Tryz.func188 (by kernel_rfl) (by kernel_rfl) ?_
 unfold I_SinAt
 refine Run.q (e:=vIv) (gv:=vIv) (oi_circleValue _ _) fun r1 _=>?_
 exact Run.x 0
theorem oi_CosAt (a0 : I64) : Fun Tryz.prog 189 [] #[vI a0] (vIv (I_CosAt a0)) []:=by
 refine Fun.ofH 400 E_ok mixed Tryz.func189 (by kernel_rfl) (by kernel_rfl) ?_
 unfold I_CosAt
 refine Run.q (e:=vIv) (gv:=vIv) (oi_circleValue _ _) fun r1 _=>?_
 exact Run.x 0
theorem oi_TanI_L0 : ∀ (fu : Nat) (cp_r4 : Nat) (pd_r4 : List Value) (r4 : List I64) (a0 : Iv) (x_12 : I64) (y_1 : Iv) (q0 : 0 ≤ x_12.val) (q1 : ((r4.length : Nat) : Int) ≤ 4000) (hm : (((r4.length : Nat) : Int) - x_12.val).toNat < fu) (t : Array Value) (ht : maskA t [0,3,4,5,6,7,8,9,13,14,15,16,17,18,19,20,21,22,23,24,25,26,27,28,29,30,31,32,33,34,35] = #[undef,.pointer (some ⟨0,0,none⟩),.pointer (some ⟨1,0,none⟩),undef,undef,undef,undef,undef,undef,undef,.slice (some ⟨2,0,some 0⟩) r4.length cp_r4,.int .i64 (((r4.length : Nat) : Int)),.int .i64 x_12.val,undef,undef,undef,undef,undef,undef,undef,undef,undef,undef,undef,undef,undef,undef,undef,undef,undef,undef,undef,undef,undef,undef,undef]),Cfg Tryz.prog 104 (loopAt Tryz.f104 0) t [(#[.int .i64 a0.lo.val,.int .i64 a0.hi.val],31),(#[.int .i64 y_1.lo.val,.int .i64 y_1.hi.val],31),(rowOf r4 pd_r4,2)] (RvH [] (vIv (I_TanI_L0 fu r4 a0 x_12 y_1))):=by
 intro fu
 induction fu with
 | zero=>intro cp_r4 pd_r4 r4 a0 x_12 y_1 q0 q1 hm; exact absurd hm (Nat.not_lt_zero _)
 | succ fu ih=>
  intro cp_r4 pd_r4 r4 a0 x_12 y_1 q0 q1 hm t ht
  refine Cfg.round E_ok mixed Tryz.func104 ht fun g=>?_
  unfold I_TanI_L0
  refine Run.y (gv:=vIv) (fun h5=>?_) (fun h5=>?_)
  ·refine Run.k (c:=(decide (0 ≤ x_12.val ∧ x_12.val < ((r4.length : Nat) : Int)))) (by kernel_rfl) (by simp only [w64_val,wu64_val,c64_val,cu64_val,decide_eq_true_eq,decide_eq_false_iff_not,cond_true,cond_false] at *; omega) ?_
   refine Run.ld (by kernel_rfl) (listAt_ok (L:=r4) (pad:=pd_r4) (i:=x_12) (by simp only [w64_val,wu64_val,c64_val,cu64_val,decide_eq_true_eq,decide_eq_false_iff_not,cond_true,cond_false] at *; omega)) ?_
   refine Run.y (gv:=vIv) (fun h6=>?_) (fun h6=>?_)
   ·refine Run.q (e:=vIv) (gv:=vIv) (oi_Whole) fun r7 hr7=>?_
    exact Run.x 0
   ·exact Run.l (by kernel_rfl) (by kernel_rfl) (by kernel_rfl) (by kernel_rfl) (ih cp_r4 pd_r4 r4 a0 (w64 (x_12.val + 1)) y_1 (by first | omega | (simp only [w64_val,wu64_val,c64_val,cu64_val,decide_eq_true_eq,decide_eq_false_iff_not,cond_true,cond_false] at *; omega)) (by first | omega | (simp only [w64_val,wu64_val,c64_val,cu64_val,decide_eq_true_eq,decide_eq_false_iff_not,cond_true,cond_false] at *; omega)) (by first | omega | (simp only [w64_val,wu64_val,c64_val,cu64_val,decide_eq_true_eq,decide_eq_false_iff_not,cond_true,cond_false] at *; omega)))
  ·refine Run.q (e:=vIv) (gv:=vIv) (oi_SinAt _) fun r8 hr8=>?_
   refine Run.q (e:=vIv) (gv:=vIv) (oi_CosAt _) fun r9 hr9=>?_
   refine Run.q (e:=vIv) (gv:=vIv) (oi_DivI _ _) fun r10 hr10=>?_
   refine Run.q (e:=vIv) (gv:=vIv) (oi_SinAt _) fun r11 hr11=>?_
   refine Run.q (e:=vIv) (gv:=vIv) (oi_CosAt _) fun r12 hr12=>?_
   refine Run.q (e:=vIv) (gv:=vIv) (oi_DivI _ _) fun r13 hr13=>?_
   refine Run.q (e:=vIv) (gv:=vIv) (oi_HullI _ _) fun r14 hr14=>?_
   exact Run.x 0
theorem oi_TanI (a0 : Iv) : Fun Tryz.prog 104 [] #[vIv a0] (vIv (I_TanI a0)) []:=by
 refine Fun.ofH 400 E_ok mixed Tryz.func104 (by kernel_rfl) (by kernel_rfl) ?_
 unfold I_TanI
 refine Run.q (e:=vB) (gv:=vIv) (oi_areAngles _) fun r1 hr1=>?_
 refine Run.y (gv:=vIv) (fun h2=>?_) (fun h2=>?_)
 ·refine Run.q (e:=vIv) (gv:=vIv) (oi_Whole) fun r3 hr3=>?_
  exact Run.x 0
 ·refine Run.bl (gv:=vIv) (by kernel_rfl) (by kernel_rfl) (oi_turnsIn _) (by kernel_rfl) (fun r4 hr4 nr4=>?_) (fun r4 hr4 cp_r4 pd_r4=>?_)
  ·subst nr4
   have e0 : I_TanI_L0 (((([] : List I64).length : Nat) : Int).toNat + 1) ([] : List I64) a0 (c64 0) (⟨(c64 0),(c64 0)⟩ : Iv) = bindP (I_SinAt a0.lo) fun r15=>bindP (I_CosAt a0.lo) fun r16=>bindP (I_DivI r15 r16) fun r17=>bindP (I_SinAt a0.hi) fun r18=>bindP (I_CosAt a0.hi) fun r19=>bindP (I_DivI r18 r19) fun r20=>bindP (I_HullI r17 r20) fun r21=>r21:=by rw [I_TanI_L0]; exact cond_false _ _
   show Run _ _ (RvH [] (vIv (I_TanI_L0 (((([] : List I64).length : Nat) : Int).toNat + 1) ([] : List I64) a0 (c64 0) (⟨(c64 0),(c64 0)⟩ : Iv)))) _
   rw [e0]
   refine Run.u 400 E_ok mixed Tryz.func104 ?_
   refine Run.z [false] ?_
   refine Run.q (e:=vIv) (gv:=vIv) (oi_SinAt _) fun r15 hr15=>?_
   refine Run.q (e:=vIv) (gv:=vIv) (oi_CosAt _) fun r16 hr16=>?_
   refine Run.q (e:=vIv) (gv:=vIv) (oi_DivI _ _) fun r17 hr17=>?_
   refine Run.q (e:=vIv) (gv:=vIv) (oi_SinAt _) fun r18 hr18=>?_
   refine Run.q (e:=vIv) (gv:=vIv) (oi_CosAt _) fun r19 hr19=>?_
   refine Run.q (e:=vIv) (gv:=vIv) (oi_DivI _ _) fun r20 hr20=>?_
   refine Run.q (e:=vIv) (gv:=vIv) (oi_HullI _ _) fun r21 hr21=>?_
   exact Run.x 0
  ·have hl_r4 : ((r4.length : Nat) : Int) ≤ 4000:=by rw [hr4]; exact Int.ofNat_le.2 (len_impl_turnsIn _)
   exact Run.l (by kernel_rfl) (by kernel_rfl) (by kernel_rfl) (by kernel_rfl) (oi_TanI_L0 (((r4.length : Nat) : Int).toNat + 1) cp_r4 pd_r4 r4 a0 (c64 0) (⟨(c64 0),(c64 0)⟩ : Iv) (by first | omega | (simp only [w64_val,wu64_val,c64_val,cu64_val,decide_eq_true_eq,decide_eq_false_iff_not,cond_true,cond_false] at *; omega)) (by first | omega | (simp only [w64_val,wu64_val,c64_val,cu64_val,decide_eq_true_eq,decide_eq_false_iff_not,cond_true,cond_false] at *; omega)) (by first | omega | (simp only [w64_val,wu64_val,c64_val,cu64_val,decide_eq_true_eq,decide_eq_false_iff_not,cond_true,cond_false] at *; omega)))
theorem oi_odd (g : FuncId) : Fun Tryz.prog 235 [] #[.func (.func g) #[] #[]] (.func (.func 261) #[] #[.pointer (some ⟨0,0,none⟩)]) [(#[.func (.func g) #[] #[]],35)]:=by
 refine FunR.fo rfl (FunR.of 400 E_ok mixed Tryz.func235 (by kernel_rfl) ?_)
 exact Run.r (by kernel_rfl) ⟨0,rfl,by kernel_rfl⟩
theorem oi_WideSqrt_L0 : ∀ (fu : Nat) (a0 : Wd) (x_root : U64) (x_i : I64) (q0 : x_i.val ≤ 63) (hm : (x_i.val + 1).toNat < fu) (t : Array Value) (ht : maskA t [0,6,7,8,9,10,11,12,13,14,15,16,17,18,19,20,21,22,23,24,25,26,27,28,29,30,31,32,33,34,35,36,37,38,39,40,41,42,43,44,45] = #[undef,.pointer (some ⟨0,0,none⟩),.int .u64 0,.bool false,.int .u64 x_root.val,.int .i64 x_i.val,undef,undef,undef,undef,undef,undef,undef,undef,undef,undef,undef,undef,undef,undef,undef,undef,undef,undef,undef,undef,undef,undef,undef,undef,undef,undef,undef,undef,undef,undef,undef,undef,undef,undef,undef,undef,undef,undef,undef,undef]),Cfg Tryz.prog 241 (loopAt Tryz.f241 0) t [(#[.int .i64 a0.hi.val,.int .u64 a0.lo.val],110)] (RvH [] (vT_U_B (I_WideSqrt_L0 fu a0 x_root x_i))):=by
 intro fu
 induction fu with
 | zero=>intro a0 x_root x_i q0 hm; exact absurd hm (Nat.not_lt_zero _)
 | succ fu ih=>
  intro a0 x_root x_i q0 hm t ht
  refine Cfg.round E_ok mixed Tryz.func241 ht fun g=>?_
  unfold I_WideSqrt_L0
  refine Run.y (gv:=vT_U_B) (fun h2=>?_) (fun h2=>?_)
  ·refine Run.k (c:=(decide (0 ≤ x_i.val))) (by kernel_rfl) (by simp only [w64_val,wu64_val,c64_val,cu64_val,decide_eq_true_eq] at *; omega) ?_
   refine Run.q (e:=vT_U_U) (gv:=vT_U_B) (ok_bits_Mul64 _ _) fun r3 hr3=>?_
   refine Run.y (gv:=vT_U_B) (fun h4=>?_) (fun h4=>?_)
   ·refine Run.z [true,true,true,true,true,true,true,true] ?_
    exact Run.l (by kernel_rfl) (by kernel_rfl) (by kernel_rfl) (by kernel_rfl) (ih a0 (ior .u64 x_root.val (ishl .u64 1 x_i.val).val) (w64 (x_i.val - 1)) (by have q1:=x_i.lo; simp only [w64_val,wu64_val,c64_val,cu64_val,decide_eq_true_eq] at *; omega) (by have q1:=x_i.lo; simp only [w64_val,wu64_val,c64_val,cu64_val,decide_eq_true_eq] at *; omega))
   ·refine Run.z [false,false,false,false,false] ?_
    refine Run.y (gv:=vT_U_B) (fun h5=>?_) (fun h5=>?_)
    ·refine Run.z [true,true,true,false,true,false] ?_
     refine Run.y (gv:=vT_U_B) (fun h6=>?_) (fun h6=>?_)
     ·exact Run.l (by kernel_rfl) (by kernel_rfl) (by kernel_rfl) (by kernel_rfl) (ih a0 (ior .u64 x_root.val (ishl .u64 1 x_i.val).val) (w64 (x_i.val - 1)) (by have q1:=x_i.lo; simp only [w64_val,wu64_val,c64_val,cu64_val,decide_eq_true_eq] at *; omega) (by have q1:=x_i.lo; simp only [w64_val,wu64_val,c64_val,cu64_val,decide_eq_true_eq] at *; omega))
     ·exact Run.l (by kernel_rfl) (by kernel_rfl) (by kernel_rfl) (by kernel_rfl) (ih a0 x_root (w64 (x_i.val - 1)) (by have q1:=x_i.lo; simp only [w64_val,wu64_val,c64_val,cu64_val,decide_eq_true_eq] at *; omega) (by have q1:=x_i.lo; simp only [w64_val,wu64_val,c64_val,cu64_val,decide_eq_true_eq] at *; omega))
    ·refine Run.z [false,false,false,false,false,false,false] ?_
     exact Run.l (by kernel_rfl) (by kernel_rfl) (by kernel_rfl) (by kernel_rfl) (ih a0 x_root (w64 (x_i.val - 1)) (by have q1:=x_i.lo; simp only [w64_val,wu64_val,c64_val,cu64_val,decide_eq_true_eq] at *; omega) (by have q1:=x_i.lo; simp only [w64_val,wu64_val,c64_val,cu64_val,decide_eq_true_eq] at *; omega))
  ·exact Run.x 0
theorem oi_WideSqrt (a0 : Wd) : Fun Tryz.prog 241 [] #[vWd a0] (vT_U_B (I_WideSqrt a0)) []:=by
 refine Fun.ofH 400 E_ok mixed Tryz.func241 (by kernel_rfl) (by kernel_rfl) ?_
 unfold I_WideSqrt
 refine Run.y (gv:=vT_U_B) (fun h1=>?_) (fun h1=>?_)
 ·exact Run.x 0
 ·exact Run.l (by kernel_rfl) (by kernel_rfl) (by kernel_rfl) (by kernel_rfl) (oi_WideSqrt_L0 65 a0 (cu64 0) (c64 63) (by decide) (by decide))
theorem oi_SqrtFloor (a0 : I64) (a1 : I64) : Fun Tryz.prog 204 [] #[vI a0,vI a1] (vT_I_B (I_SqrtFloor a0 a1)) []:=by
 refine Fun.ofH 400 E_ok mixed Tryz.func204 (by kernel_rfl) (by kernel_rfl) ?_
 unfold I_SqrtFloor
 refine Run.y (gv:=vT_I_B) (fun _=>?_) (fun _=>?_)
 ·refine Run.z [true,true,true] ?_
  exact Run.x 0
 ·refine Run.z [false,false] ?_
  refine Run.y (gv:=vT_I_B) (fun _=>?_) (fun _=>?_)
  ·exact Run.x 0
  ·refine Run.q (e:=vWd) (gv:=vT_I_B) (oi_WideMul _ _) fun r1 _=>?_
   refine Run.q (e:=vT_U_B) (gv:=vT_I_B) (oi_WideSqrt _) fun r2 _=>?_
   exact Run.x 0
theorem oi_SqrtDown (a0 : I64) : Fun Tryz.prog 138 [] #[vI a0] (vT_I_B (I_SqrtDown a0)) []:=by
 refine Fun.ofH 400 E_ok mixed Tryz.func138 (by kernel_rfl) (by kernel_rfl) ?_
 unfold I_SqrtDown
 refine Run.q (e:=vB) (gv:=vT_I_B) (oi_ValidFix _) fun r1 _=>?_
 refine Run.y (gv:=vT_I_B) (fun _=>?_) (fun _=>?_)
 ·exact Run.x 0
 ·refine Run.q (e:=vT_I_B) (gv:=vT_I_B) (oi_SqrtFloor _ _) fun r2 _=>?_
  refine Run.q (e:=vT_I_B) (gv:=vT_I_B) (oi_fixed _ _) fun r3 _=>?_
  exact Run.x 0
theorem oi_SqrtUp (a0 : I64) : Fun Tryz.prog 139 [] #[vI a0] (vT_I_B (I_SqrtUp a0)) []:=by
 refine Fun.ofH 400 E_ok mixed Tryz.func139 (by kernel_rfl) (by kernel_rfl) ?_
 unfold I_SqrtUp
 refine Run.q (e:=vT_I_B) (gv:=vT_I_B) (oi_SqrtDown _) fun r1 _=>?_
 refine Run.y (gv:=vT_I_B) (fun _=>?_) (fun _=>?_)
 ·refine Run.z [true,true] ?_
  refine Run.q (e:=vWd) (gv:=vT_I_B) (oi_WideMul _ _) fun r2 _=>?_
  refine Run.z [true,true] ?_
  refine Run.q (e:=vWd) (gv:=vT_I_B) (oi_WideMul _ _) fun r3 _=>?_
  refine Run.z [true,true] ?_
  refine Run.y (gv:=vT_I_B) (fun _=>?_) (fun _=>?_)
  ·refine Run.q (e:=vT_I_B) (gv:=vT_I_B) (oi_fixed _ _) fun r4 _=>?_
   exact Run.x 0
  ·refine Run.q (e:=vT_I_B) (gv:=vT_I_B) (oi_fixed _ _) fun r5 _=>?_
   exact Run.x 0
 ·refine Run.z [false,false,false,false,false,false,false] ?_
  refine Run.q (e:=vT_I_B) (gv:=vT_I_B) (oi_fixed _ _) fun r6 _=>?_
  exact Run.x 0
theorem oi_SqrtI (a0 : Iv) : Fun Tryz.prog 54 [] #[vIv a0] (vIv (I_SqrtI a0)) []:=by
 refine Fun.ofH 400 E_ok mixed Tryz.func54 (by kernel_rfl) (by kernel_rfl) ?_
 unfold I_SqrtI
 refine Run.q (e:=vB) (gv:=vIv) (oi_IsWhole _) fun r1 _=>?_
 refine Run.y (gv:=vIv) (fun _=>?_) (fun _=>?_)
 ·refine Run.z [true,true,true,true] ?_
  refine Run.q (e:=vIv) (gv:=vIv) (oi_Whole) fun r2 _=>?_
  exact Run.x 0
 ·refine Run.z [false,false,false] ?_
  refine Run.y (gv:=vIv) (fun _=>?_) (fun _=>?_)
  ·refine Run.q (e:=vIv) (gv:=vIv) (oi_Whole) fun r3 _=>?_
   exact Run.x 0
  ·refine Run.q (e:=vT_I_B) (gv:=vIv) (oi_SqrtDown _) fun r4 _=>?_
   refine Run.q (e:=vT_I_B) (gv:=vIv) (oi_SqrtUp _) fun r5 _=>?_
   refine Run.y (gv:=vIv) (fun _=>?_) (fun _=>?_)
   ·refine Run.z [true] ?_
    refine Run.q (e:=vIv) (gv:=vIv) (oi_bounded _ _ _) fun r6 _=>?_
    exact Run.x 0
   ·refine Run.z [false] ?_
    refine Run.q (e:=vIv) (gv:=vIv) (oi_bounded _ _ _) fun r7 _=>?_
    exact Run.x 0
theorem oi_AsinhI_1 (a0 : I64) : Fun Tryz.prog 236 [] #[vI a0] (vIv (I_AsinhI_1 a0)) []:=by
 refine Fun.ofH 400 E_ok mixed Tryz.func236 (by kernel_rfl) (by kernel_rfl) ?_
 unfold I_AsinhI_1
 refine Run.y (gv:=vIv) (fun _=>?_) (fun _=>?_)
 ·refine Run.q (e:=vIv) (gv:=vIv) (oi_at _) fun r1 _=>?_
  refine Run.q (e:=vIv) (gv:=vIv) (oi_at _) fun r2 _=>?_
  refine Run.q (e:=vIv) (gv:=vIv) (oi_SqrI _) fun r3 _=>?_
  refine Run.q (e:=vIv) (gv:=vIv) (oi_Integer _) fun r4 _=>?_
  refine Run.q (e:=vIv) (gv:=vIv) (oi_AddI _ _) fun r5 _=>?_
  refine Run.q (e:=vIv) (gv:=vIv) (oi_SqrtI _) fun r6 _=>?_
  refine Run.q (e:=vIv) (gv:=vIv) (oi_AddI _ _) fun r7 _=>?_
  refine Run.q (e:=vIv) (gv:=vIv) (oi_LogI _) fun r8 _=>?_
  exact Run.x 0
 ·refine Run.q (e:=vIv) (gv:=vIv) (oi_LogTwoI _) fun r9 _=>?_
  refine Run.q (e:=vIv) (gv:=vIv) (oi_LogAt _) fun r10 _=>?_
  refine Run.q (e:=vIv) (gv:=vIv) (oi_AddI _ _) fun r11 _=>?_
  refine Run.q (e:=vIv) (gv:=vIv) (oi_AddI _ _) fun r12 _=>?_
  exact Run.x 0
theorem oi_odd_1__p_impl_AsinhI_1 (a0 : I64) : Fun Tryz.prog 261 [(#[.func (.func 236) #[] #[]],35)] #[vI a0,.pointer (some ⟨0,0,none⟩)] (vIv (I_odd_1__p_impl_AsinhI_1 a0)) [(#[.func (.func 236) #[] #[]],35)]:=by
 refine Fun.ofH 400 E_ok mixed Tryz.func261 (by kernel_rfl) (by kernel_rfl) ?_
 unfold I_odd_1__p_impl_AsinhI_1
 refine Run.y (gv:=vIv) (fun _=>?_) (fun _=>?_)
 ·refine Run.q (e:=vIv) (gv:=vIv) (oi_AsinhI_1 _) fun r1 _=>?_
  refine Run.q (e:=vIv) (gv:=vIv) (oi_NegI _) fun r2 _=>?_
  exact Run.x 1
 ·refine Run.q (e:=vIv) (gv:=vIv) (oi_AsinhI_1 _) fun r3 _=>?_
  exact Run.x 1
theorem oi_monotonic__impl_odd_1_p_impl_AsinhI_1 (a0 : Iv) : Fun Tryz.prog 197 [(#[.func (.func 236) #[] #[]],35)] #[vIv a0,.func (.func 261) #[] #[.pointer (some ⟨0,0,none⟩)]] (vIv (I_monotonic__impl_odd_1_p_impl_AsinhI_1 a0)) [(#[.func (.func 236) #[] #[]],35)]:=by
 refine Fun.ofH 400 E_ok mixed Tryz.func197 (by kernel_rfl) (by kernel_rfl) ?_
 unfold I_monotonic__impl_odd_1_p_impl_AsinhI_1
 refine Run.q (e:=vB) (gv:=vIv) (oi_IsWhole _) fun r1 _=>?_
 refine Run.y (gv:=vIv) (fun _=>?_) (fun _=>?_)
 ·refine Run.q (e:=vIv) (gv:=vIv) (oi_Whole) fun r2 _=>?_
  exact Run.x 1
 ·refine Run.w (e:=vIv) (gv:=vIv) [0] (oi_odd_1__p_impl_AsinhI_1 _) fun r3 _=>?_
  refine Run.w (e:=vIv) (gv:=vIv) [0] (oi_odd_1__p_impl_AsinhI_1 _) fun r4 _=>?_
  refine Run.q (e:=vB) (gv:=vIv) (oi_areBounded _ _) fun r5 _=>?_
  refine Run.y (gv:=vIv) (fun _=>?_) (fun _=>?_)
  ·refine Run.q (e:=vIv) (gv:=vIv) (oi_Whole) fun r6 _=>?_
   exact Run.x 1
  ·refine Run.q (e:=vIv) (gv:=vIv) (oi_bounded _ _ _) fun r7 _=>?_
   exact Run.x 1
theorem oi_AsinhI (a0 : Iv) : Fun Tryz.prog 199 [] #[vIv a0] (vIv (I_AsinhI a0)) []:=by
 refine Fun.ofH 400 E_ok mixed Tryz.func199 (by kernel_rfl) (by kernel_rfl) ?_
 unfold I_AsinhI
 refine Run.o (by kernel_rfl) ?_ ?_
 ·refine Run.m (by kernel_rfl) (by kernel_rfl) (oi_odd 236) (by kernel_rfl) (by kernel_rfl) (by kernel_rfl) ?_
  refine Run.w (e:=vIv) (gv:=vIv) [2] (oi_monotonic__impl_odd_1_p_impl_AsinhI_1 _) fun r1 hr1=>?_
  exact Run.x 0
 ·refine Run.m (by kernel_rfl) (by kernel_rfl) (oi_odd 236) (by kernel_rfl) (by kernel_rfl) (by kernel_rfl) ?_
  refine Run.w (e:=vIv) (gv:=vIv) [2] (oi_monotonic__impl_odd_1_p_impl_AsinhI_1 _) fun r2 hr2=>?_
  exact Run.x 0
theorem oi_isometricSphere (a0 : Iv) : Fun Tryz.prog 131 [] #[vIv a0] (vIv (I_isometricSphere a0)) []:=by
 refine Fun.ofH 400 E_ok mixed Tryz.func131 (by kernel_rfl) (by kernel_rfl) ?_
 unfold I_isometricSphere
 refine Run.q (e:=vIv) (gv:=vIv) (oi_TanI _) fun r1 _=>?_
 refine Run.q (e:=vIv) (gv:=vIv) (oi_AsinhI _) fun r2 _=>?_
 exact Run.x 0
theorem oi_conic_cone__pCn (b0 : Cn) : Fun Tryz.prog 125 [(#[.int .i64 b0.p.kind.val,.int .i64 b0.p.lat0.val,.int .i64 b0.p.lon0.val,.int .i64 b0.p.lat1.val,.int .i64 b0.p.lat2.val,.int .i64 b0.a.lo.val,.int .i64 b0.a.hi.val,.int .i64 b0.b.lo.val,.int .i64 b0.b.hi.val,.int .i64 b0.o.lo.val,.int .i64 b0.o.hi.val,.int .i64 b0.n.lo.val,.int .i64 b0.n.hi.val,.int .i64 b0.g.lo.val,.int .i64 b0.g.hi.val],67)] #[.pointer (some ⟨0,0,none⟩)] (vIv (I_conic_cone__pCn b0)) [(#[.int .i64 b0.p.kind.val,.int .i64 b0.p.lat0.val,.int .i64 b0.p.lon0.val,.int .i64 b0.p.lat1.val,.int .i64 b0.p.lat2.val,.int .i64 b0.a.lo.val,.int .i64 b0.a.hi.val,.int .i64 b0.b.lo.val,.int .i64 b0.b.hi.val,.int .i64 b0.o.lo.val,.int .i64 b0.o.hi.val,.int .i64 b0.n.lo.val,.int .i64 b0.n.hi.val,.int .i64 b0.g.lo.val,.int .i64 b0.g.hi.val],67)]:=by
 refine Fun.ofH 400 E_ok mixed Tryz.func125 (by kernel_rfl) (by kernel_rfl) ?_
 unfold I_conic_cone__pCn
 refine Run.y (gv:=vIv) (fun _=>?_) (fun _=>?_)
 ·refine Run.q (e:=vIv) (gv:=vIv) (oi_SinI _) fun r1 _=>?_
  refine Run.q (e:=vIv) (gv:=vIv) (oi_SinI _) fun r2 _=>?_
  refine Run.q (e:=vIv) (gv:=vIv) (oi_AddI _ _) fun r3 _=>?_
  refine Run.q (e:=vIv) (gv:=vIv) (oi_HalfI _) fun r4 _=>?_
  exact Run.x 1
 ·refine Run.y (gv:=vIv) (fun _=>?_) (fun _=>?_)
  ·refine Run.q (e:=vIv) (gv:=vIv) (oi_SinI _) fun r5 _=>?_
   exact Run.x 1
  ·refine Run.y (gv:=vIv) (fun _=>?_) (fun _=>?_)
   ·refine Run.q (e:=vIv) (gv:=vIv) (oi_CosI _) fun r6 _=>?_
    refine Run.q (e:=vIv) (gv:=vIv) (oi_LogI _) fun r7 _=>?_
    refine Run.q (e:=vIv) (gv:=vIv) (oi_CosI _) fun r8 _=>?_
    refine Run.q (e:=vIv) (gv:=vIv) (oi_LogI _) fun r9 _=>?_
    refine Run.q (e:=vIv) (gv:=vIv) (oi_SubI _ _) fun r10 _=>?_
    refine Run.q (e:=vIv) (gv:=vIv) (oi_isometricSphere _) fun r11 _=>?_
    refine Run.q (e:=vIv) (gv:=vIv) (oi_isometricSphere _) fun r12 _=>?_
    refine Run.q (e:=vIv) (gv:=vIv) (oi_SubI _ _) fun r13 _=>?_
    refine Run.q (e:=vIv) (gv:=vIv) (oi_DivI _ _) fun r14 _=>?_
    exact Run.x 1
   ·refine Run.q (e:=vIv) (gv:=vIv) (oi_CosI _) fun r15 _=>?_
    refine Run.q (e:=vIv) (gv:=vIv) (oi_CosI _) fun r16 _=>?_
    refine Run.q (e:=vIv) (gv:=vIv) (oi_SubI _ _) fun r17 _=>?_
    refine Run.q (e:=vIv) (gv:=vIv) (oi_SubI _ _) fun r18 _=>?_
    refine Run.q (e:=vIv) (gv:=vIv) (oi_DivI _ _) fun r19 _=>?_
    exact Run.x 1
theorem oi_times (a0 : I64) (a1 : Iv) : Fun Tryz.prog 105 [] #[vI a0,vIv a1] (vIv (I_times a0 a1)) []:=by
 refine Fun.ofH 400 E_ok mixed Tryz.func105 (by kernel_rfl) (by kernel_rfl) ?_
 unfold I_times
 refine Run.q (e:=vIv) (gv:=vIv) (oi_Integer _) fun r1 _=>?_
 refine Run.q (e:=vIv) (gv:=vIv) (oi_MulI _ _) fun r2 _=>?_
 exact Run.x 0
theorem oi_DoubleI (a0 : Iv) : Fun Tryz.prog 243 [] #[vIv a0] (vIv (I_DoubleI a0)) []:=by
 refine Fun.ofH 400 E_ok mixed Tryz.func243 (by kernel_rfl) (by kernel_rfl) ?_
 unfold I_DoubleI
 refine Run.q (e:=vIv) (gv:=vIv) (oi_AddI _ _) fun r1 _=>?_
 exact Run.x 0
theorem oi_scaled_L0 : ∀ (fu : Nat) (x_k : I64) (y_0 : Iv) (q0 : -100 ≤ x_k.val) (q1 : x_k.val ≤ 100) (hm : x_k.val.toNat < fu) (t : Array Value) (ht : maskA t [0,3,5,6,7,8,9,10,11,12,13,14,15,16,17,18,19,20,21,22,23,24,25,26] = #[undef,.int .i64 x_k.val,.pointer (some ⟨0,0,none⟩),undef,.pointer (some ⟨1,0,none⟩),undef,undef,undef,undef,undef,undef,undef,undef,undef,undef,undef,undef,undef,undef,undef,undef,undef,undef,undef,undef,undef,undef]),Cfg Tryz.prog 233 (loopAt Tryz.f233 0) t [(#[.int .i64 y_0.lo.val,.int .i64 y_0.hi.val],31),(#[.int .i64 0,.int .i64 0],31)] (RvH [] (vIv (I_scaled_L0 fu x_k y_0))):=by
 intro fu
 induction fu with
 | zero=>intro x_k y_0 q0 q1 hm; exact absurd hm (Nat.not_lt_zero _)
 | succ fu ih=>
  intro x_k y_0 q0 q1 hm t ht
  refine Cfg.round E_ok mixed Tryz.func233 ht fun g=>?_
  unfold I_scaled_L0
  refine Run.y (gv:=vIv) (fun h1=>?_) (fun h1=>?_)
  ·refine Run.q (e:=vIv) (gv:=vIv) (oi_DoubleI _) fun r2 hr2=>?_
   exact Run.l (by kernel_rfl) (by kernel_rfl) (by kernel_rfl) (by kernel_rfl) (ih (w64 (x_k.val - 1)) r2 (by first | omega | (simp only [w64_val,wu64_val,c64_val,cu64_val,decide_eq_true_eq,decide_eq_false_iff_not,cond_true,cond_false] at *; omega)) (by first | omega | (simp only [w64_val,wu64_val,c64_val,cu64_val,decide_eq_true_eq,decide_eq_false_iff_not,cond_true,cond_false] at *; omega)) (by first | omega | (simp only [w64_val,wu64_val,c64_val,cu64_val,decide_eq_true_eq,decide_eq_false_iff_not,cond_true,cond_false] at *; omega)))
  ·refine Run.q (e:=vB) (gv:=vIv) (oi_IsWhole _) fun r3 hr3=>?_
   refine Run.y (gv:=vIv) (fun h4=>?_) (fun h4=>?_)
   ·refine Run.q (e:=vIv) (gv:=vIv) (oi_Whole) fun r5 hr5=>?_
    exact Run.x 0
   ·refine Run.k (c:=(decide (0 ≤ (w64 (0 - x_k.val)).val))) (by kernel_rfl) (by simp only [w64_val,wu64_val,c64_val,cu64_val,decide_eq_true_eq,decide_eq_false_iff_not,cond_true,cond_false] at *; omega) ?_
    refine Run.k (c:=(decide (0 ≤ (w64 (0 - x_k.val)).val))) (by kernel_rfl) (by simp only [w64_val,wu64_val,c64_val,cu64_val,decide_eq_true_eq,decide_eq_false_iff_not,cond_true,cond_false] at *; omega) ?_
    exact Run.x 0
theorem oi_scaled (a0 : Iv) (a1 : I64) (p0 : -100 ≤ a1.val) (p1 : a1.val ≤ 100) : Fun Tryz.prog 233 [] #[vIv a0,vI a1] (vIv (I_scaled a0 a1)) []:=by
 refine Fun.ofH 400 E_ok mixed Tryz.func233 (by kernel_rfl) (by kernel_rfl) ?_
 unfold I_scaled
 exact Run.l (by kernel_rfl) (by kernel_rfl) (by kernel_rfl) (by kernel_rfl) (oi_scaled_L0 (a1.val.toNat + 1) a1 a0 (by first | omega | (simp only [w64_val,wu64_val,c64_val,cu64_val,decide_eq_true_eq,decide_eq_false_iff_not,cond_true,cond_false] at *; omega)) (by first | omega | (simp only [w64_val,wu64_val,c64_val,cu64_val,decide_eq_true_eq,decide_eq_false_iff_not,cond_true,cond_false] at *; omega)) (by first | omega | (simp only [w64_val,wu64_val,c64_val,cu64_val,decide_eq_true_eq,decide_eq_false_iff_not,cond_true,cond_false] at *; omega)))
theorem oi_ExpAt (a0 : I64) : Fun Tryz.prog 198 [] #[vI a0] (vIv (I_ExpAt a0)) []:=by
 refine Fun.ofH 400 E_ok mixed Tryz.func198 (by kernel_rfl) (by kernel_rfl) ?_
 unfold I_ExpAt
 refine Run.q (e:=vB) (gv:=vIv) (oi_ValidFix _) fun r1 hr1=>?_
 refine Run.y (gv:=vIv) (fun h2=>?_) (fun h2=>?_)
 ·refine Run.z [true,true,true] ?_
  refine Run.q (e:=vIv) (gv:=vIv) (oi_Whole) fun r3 hr3=>?_
  exact Run.x 0
 ·refine Run.z [false,false] ?_
  refine Run.y (gv:=vIv) (fun h4=>?_) (fun h4=>?_)
  ·refine Run.q (e:=vIv) (gv:=vIv) (oi_Whole) fun r5 hr5=>?_
   exact Run.x 0
  ·refine Run.y (gv:=vIv) (fun h6=>?_) (fun h6=>?_)
   ·exact Run.x 0
   ·refine Run.z [true] ?_
    refine Run.y (gv:=vIv) (fun h7=>?_) (fun h7=>?_)
    ·refine Run.q (e:=vIv) (gv:=vIv) (oi_at _) fun r8 hr8=>?_
     refine Run.q (e:=vIv) (gv:=vIv) (oi_LogTwoI _) fun r9 hr9=>?_
     refine Run.q (e:=vIv) (gv:=vIv) (oi_SubI _ _) fun r10 hr10=>?_
     refine Run.q (e:=vIv) (gv:=vIv) (oi_Integer _) fun r11 hr11=>?_
     refine Run.u 400 E_ok mixed Tryz.func198 ?_
     refine Run.z [true] ?_
     refine Run.q (e:=vIv) (gv:=vIv) (oi_Integer _) fun r12 hr12=>?_
     refine Run.q (e:=vIv) (gv:=vIv) (oi_MulI _ _) fun r13 hr13=>?_
     refine Run.q (e:=vIv) (gv:=vIv) (oi_Integer _) fun r14 hr14=>?_
     refine Run.q (e:=vIv) (gv:=vIv) (oi_DivI _ _) fun r15 hr15=>?_
     refine Run.q (e:=vIv) (gv:=vIv) (oi_AddI _ _) fun r16 hr16=>?_
     refine Run.u 400 E_ok mixed Tryz.func198 ?_
     refine Run.z [true] ?_
     refine Run.q (e:=vIv) (gv:=vIv) (oi_Integer _) fun r17 hr17=>?_
     refine Run.q (e:=vIv) (gv:=vIv) (oi_MulI _ _) fun r18 hr18=>?_
     refine Run.q (e:=vIv) (gv:=vIv) (oi_Integer _) fun r19 hr19=>?_
     refine Run.q (e:=vIv) (gv:=vIv) (oi_DivI _ _) fun r20 hr20=>?_
     refine Run.q (e:=vIv) (gv:=vIv) (oi_AddI _ _) fun r21 hr21=>?_
     refine Run.u 400 E_ok mixed Tryz.func198 ?_
     refine Run.z [true] ?_
     refine Run.q (e:=vIv) (gv:=vIv) (oi_Integer _) fun r22 hr22=>?_
     refine Run.q (e:=vIv) (gv:=vIv) (oi_MulI _ _) fun r23 hr23=>?_
     refine Run.q (e:=vIv) (gv:=vIv) (oi_Integer _) fun r24 hr24=>?_
     refine Run.q (e:=vIv) (gv:=vIv) (oi_DivI _ _) fun r25 hr25=>?_
     refine Run.q (e:=vIv) (gv:=vIv) (oi_AddI _ _) fun r26 hr26=>?_
     refine Run.u 400 E_ok mixed Tryz.func198 ?_
     refine Run.z [true] ?_
     refine Run.q (e:=vIv) (gv:=vIv) (oi_Integer _) fun r27 hr27=>?_
     refine Run.q (e:=vIv) (gv:=vIv) (oi_MulI _ _) fun r28 hr28=>?_
     refine Run.q (e:=vIv) (gv:=vIv) (oi_Integer _) fun r29 hr29=>?_
     refine Run.q (e:=vIv) (gv:=vIv) (oi_DivI _ _) fun r30 hr30=>?_
     refine Run.q (e:=vIv) (gv:=vIv) (oi_AddI _ _) fun r31 hr31=>?_
     refine Run.u 400 E_ok mixed Tryz.func198 ?_
     refine Run.z [true] ?_
     refine Run.q (e:=vIv) (gv:=vIv) (oi_Integer _) fun r32 hr32=>?_
     refine Run.q (e:=vIv) (gv:=vIv) (oi_MulI _ _) fun r33 hr33=>?_
     refine Run.q (e:=vIv) (gv:=vIv) (oi_Integer _) fun r34 hr34=>?_
     refine Run.q (e:=vIv) (gv:=vIv) (oi_DivI _ _) fun r35 hr35=>?_
     refine Run.q (e:=vIv) (gv:=vIv) (oi_AddI _ _) fun r36 hr36=>?_
     refine Run.u 400 E_ok mixed Tryz.func198 ?_
     refine Run.z [true] ?_
     refine Run.q (e:=vIv) (gv:=vIv) (oi_Integer _) fun r37 hr37=>?_
     refine Run.q (e:=vIv) (gv:=vIv) (oi_MulI _ _) fun r38 hr38=>?_
     refine Run.q (e:=vIv) (gv:=vIv) (oi_Integer _) fun r39 hr39=>?_
     refine Run.q (e:=vIv) (gv:=vIv) (oi_DivI _ _) fun r40 hr40=>?_
     refine Run.q (e:=vIv) (gv:=vIv) (oi_AddI _ _) fun r41 hr41=>?_
     refine Run.u 400 E_ok mixed Tryz.func198 ?_
     refine Run.z [true] ?_
     refine Run.q (e:=vIv) (gv:=vIv) (oi_Integer _) fun r42 hr42=>?_
     refine Run.q (e:=vIv) (gv:=vIv) (oi_MulI _ _) fun r43 hr43=>?_
     refine Run.q (e:=vIv) (gv:=vIv) (oi_Integer _) fun r44 hr44=>?_
     refine Run.q (e:=vIv) (gv:=vIv) (oi_DivI _ _) fun r45 hr45=>?_
     refine Run.q (e:=vIv) (gv:=vIv) (oi_AddI _ _) fun r46 hr46=>?_
     refine Run.u 400 E_ok mixed Tryz.func198 ?_
     refine Run.z [true] ?_
     refine Run.q (e:=vIv) (gv:=vIv) (oi_Integer _) fun r47 hr47=>?_
     refine Run.q (e:=vIv) (gv:=vIv) (oi_MulI _ _) fun r48 hr48=>?_
     refine Run.q (e:=vIv) (gv:=vIv) (oi_Integer _) fun r49 hr49=>?_
     refine Run.q (e:=vIv) (gv:=vIv) (oi_DivI _ _) fun r50 hr50=>?_
     refine Run.q (e:=vIv) (gv:=vIv) (oi_AddI _ _) fun r51 hr51=>?_
     refine Run.u 400 E_ok mixed Tryz.func198 ?_
     refine Run.z [true] ?_
     refine Run.q (e:=vIv) (gv:=vIv) (oi_Integer _) fun r52 hr52=>?_
     refine Run.q (e:=vIv) (gv:=vIv) (oi_MulI _ _) fun r53 hr53=>?_
     refine Run.q (e:=vIv) (gv:=vIv) (oi_Integer _) fun r54 hr54=>?_
     refine Run.q (e:=vIv) (gv:=vIv) (oi_DivI _ _) fun r55 hr55=>?_
     refine Run.q (e:=vIv) (gv:=vIv) (oi_AddI _ _) fun r56 hr56=>?_
     refine Run.u 400 E_ok mixed Tryz.func198 ?_
     refine Run.z [false] ?_
     refine Run.q (e:=vIv) (gv:=vIv) (oi_widened _ _) fun r57 hr57=>?_
     refine Run.q (e:=vIv) (gv:=vIv) (oi_scaled _ _ (by have z:=expk_range a0 h6 h4; first | exact z.1 | exact z.2.1 | exact z.2.2.1 | exact z.2.2.2) (by have z:=expk_range a0 h6 h4; first | exact z.1 | exact z.2.1 | exact z.2.2.1 | exact z.2.2.2)) fun r58 hr58=>?_
     exact Run.x 0
    ·refine Run.q (e:=vIv) (gv:=vIv) (oi_at _) fun r59 hr59=>?_
     refine Run.q (e:=vIv) (gv:=vIv) (oi_LogTwoI _) fun r60 hr60=>?_
     refine Run.q (e:=vIv) (gv:=vIv) (oi_SubI _ _) fun r61 hr61=>?_
     refine Run.q (e:=vIv) (gv:=vIv) (oi_Integer _) fun r62 hr62=>?_
     refine Run.u 400 E_ok mixed Tryz.func198 ?_
     refine Run.z [true] ?_
     refine Run.q (e:=vIv) (gv:=vIv) (oi_Integer _) fun r63 hr63=>?_
     refine Run.q (e:=vIv) (gv:=vIv) (oi_MulI _ _) fun r64 hr64=>?_
     refine Run.q (e:=vIv) (gv:=vIv) (oi_Integer _) fun r65 hr65=>?_
     refine Run.q (e:=vIv) (gv:=vIv) (oi_DivI _ _) fun r66 hr66=>?_
     refine Run.q (e:=vIv) (gv:=vIv) (oi_AddI _ _) fun r67 hr67=>?_
     refine Run.u 400 E_ok mixed Tryz.func198 ?_
     refine Run.z [true] ?_
     refine Run.q (e:=vIv) (gv:=vIv) (oi_Integer _) fun r68 hr68=>?_
     refine Run.q (e:=vIv) (gv:=vIv) (oi_MulI _ _) fun r69 hr69=>?_
     refine Run.q (e:=vIv) (gv:=vIv) (oi_Integer _) fun r70 hr70=>?_
     refine Run.q (e:=vIv) (gv:=vIv) (oi_DivI _ _) fun r71 hr71=>?_
     refine Run.q (e:=vIv) (gv:=vIv) (oi_AddI _ _) fun r72 hr72=>?_
     refine Run.u 400 E_ok mixed Tryz.func198 ?_
     refine Run.z [true] ?_
     refine Run.q (e:=vIv) (gv:=vIv) (oi_Integer _) fun r73 hr73=>?_
     refine Run.q (e:=vIv) (gv:=vIv) (oi_MulI _ _) fun r74 hr74=>?_
     refine Run.q (e:=vIv) (gv:=vIv) (oi_Integer _) fun r75 hr75=>?_
     refine Run.q (e:=vIv) (gv:=vIv) (oi_DivI _ _) fun r76 hr76=>?_
     refine Run.q (e:=vIv) (gv:=vIv) (oi_AddI _ _) fun r77 hr77=>?_
     refine Run.u 400 E_ok mixed Tryz.func198 ?_
     refine Run.z [true] ?_
     refine Run.q (e:=vIv) (gv:=vIv) (oi_Integer _) fun r78 hr78=>?_
     refine Run.q (e:=vIv) (gv:=vIv) (oi_MulI _ _) fun r79 hr79=>?_
     refine Run.q (e:=vIv) (gv:=vIv) (oi_Integer _) fun r80 hr80=>?_
     refine Run.q (e:=vIv) (gv:=vIv) (oi_DivI _ _) fun r81 hr81=>?_
     refine Run.q (e:=vIv) (gv:=vIv) (oi_AddI _ _) fun r82 hr82=>?_
     refine Run.u 400 E_ok mixed Tryz.func198 ?_
     refine Run.z [true] ?_
     refine Run.q (e:=vIv) (gv:=vIv) (oi_Integer _) fun r83 hr83=>?_
     refine Run.q (e:=vIv) (gv:=vIv) (oi_MulI _ _) fun r84 hr84=>?_
     refine Run.q (e:=vIv) (gv:=vIv) (oi_Integer _) fun r85 hr85=>?_
     refine Run.q (e:=vIv) (gv:=vIv) (oi_DivI _ _) fun r86 hr86=>?_
     refine Run.q (e:=vIv) (gv:=vIv) (oi_AddI _ _) fun r87 hr87=>?_
     refine Run.u 400 E_ok mixed Tryz.func198 ?_
     refine Run.z [true] ?_
     refine Run.q (e:=vIv) (gv:=vIv) (oi_Integer _) fun r88 hr88=>?_
     refine Run.q (e:=vIv) (gv:=vIv) (oi_MulI _ _) fun r89 hr89=>?_
     refine Run.q (e:=vIv) (gv:=vIv) (oi_Integer _) fun r90 hr90=>?_
     refine Run.q (e:=vIv) (gv:=vIv) (oi_DivI _ _) fun r91 hr91=>?_
     refine Run.q (e:=vIv) (gv:=vIv) (oi_AddI _ _) fun r92 hr92=>?_
     refine Run.u 400 E_ok mixed Tryz.func198 ?_
     refine Run.z [true] ?_
     refine Run.q (e:=vIv) (gv:=vIv) (oi_Integer _) fun r93 hr93=>?_
     refine Run.q (e:=vIv) (gv:=vIv) (oi_MulI _ _) fun r94 hr94=>?_
     refine Run.q (e:=vIv) (gv:=vIv) (oi_Integer _) fun r95 hr95=>?_
     refine Run.q (e:=vIv) (gv:=vIv) (oi_DivI _ _) fun r96 hr96=>?_
     refine Run.q (e:=vIv) (gv:=vIv) (oi_AddI _ _) fun r97 hr97=>?_
     refine Run.u 400 E_ok mixed Tryz.func198 ?_
     refine Run.z [true] ?_
     refine Run.q (e:=vIv) (gv:=vIv) (oi_Integer _) fun r98 hr98=>?_
     refine Run.q (e:=vIv) (gv:=vIv) (oi_MulI _ _) fun r99 hr99=>?_
     refine Run.q (e:=vIv) (gv:=vIv) (oi_Integer _) fun r100 hr100=>?_
     refine Run.q (e:=vIv) (gv:=vIv) (oi_DivI _ _) fun r101 hr101=>?_
     refine Run.q (e:=vIv) (gv:=vIv) (oi_AddI _ _) fun r102 hr102=>?_
     refine Run.u 400 E_ok mixed Tryz.func198 ?_
     refine Run.z [true] ?_
     refine Run.q (e:=vIv) (gv:=vIv) (oi_Integer _) fun r103 hr103=>?_
     refine Run.q (e:=vIv) (gv:=vIv) (oi_MulI _ _) fun r104 hr104=>?_
     refine Run.q (e:=vIv) (gv:=vIv) (oi_Integer _) fun r105 hr105=>?_
     refine Run.q (e:=vIv) (gv:=vIv) (oi_DivI _ _) fun r106 hr106=>?_
     refine Run.q (e:=vIv) (gv:=vIv) (oi_AddI _ _) fun r107 hr107=>?_
     refine Run.u 400 E_ok mixed Tryz.func198 ?_
     refine Run.z [false] ?_
     refine Run.q (e:=vIv) (gv:=vIv) (oi_widened _ _) fun r108 hr108=>?_
     refine Run.q (e:=vIv) (gv:=vIv) (oi_scaled _ _ (by have z:=expk_range a0 h6 h4; first | exact z.1 | exact z.2.1 | exact z.2.2.1 | exact z.2.2.2) (by have z:=expk_range a0 h6 h4; first | exact z.1 | exact z.2.1 | exact z.2.2.1 | exact z.2.2.2)) fun r109 hr109=>?_
     exact Run.x 0
theorem oi_monotonic__impl_ExpAt (a0 : Iv) : Fun Tryz.prog 197 [] #[vIv a0,.func (.func 198) #[] #[]] (vIv (I_monotonic__impl_ExpAt a0)) []:=by
 refine Fun.ofH 400 E_ok mixed Tryz.func197 (by kernel_rfl) (by kernel_rfl) ?_
 unfold I_monotonic__impl_ExpAt
 refine Run.q (e:=vB) (gv:=vIv) (oi_IsWhole _) fun r1 _=>?_
 refine Run.y (gv:=vIv) (fun _=>?_) (fun _=>?_)
 ·refine Run.q (e:=vIv) (gv:=vIv) (oi_Whole) fun r2 _=>?_
  exact Run.x 0
 ·refine Run.q (e:=vIv) (gv:=vIv) (oi_ExpAt _) fun r3 _=>?_
  refine Run.q (e:=vIv) (gv:=vIv) (oi_ExpAt _) fun r4 _=>?_
  refine Run.q (e:=vB) (gv:=vIv) (oi_areBounded _ _) fun r5 _=>?_
  refine Run.y (gv:=vIv) (fun _=>?_) (fun _=>?_)
  ·refine Run.q (e:=vIv) (gv:=vIv) (oi_Whole) fun r6 _=>?_
   exact Run.x 0
  ·refine Run.q (e:=vIv) (gv:=vIv) (oi_bounded _ _ _) fun r7 _=>?_
   exact Run.x 0
theorem oi_ExpI (a0 : Iv) : Fun Tryz.prog 130 [] #[vIv a0] (vIv (I_ExpI a0)) []:=by
 refine Fun.ofH 400 E_ok mixed Tryz.func130 (by kernel_rfl) (by kernel_rfl) ?_
 unfold I_ExpI
 refine Run.q (e:=vIv) (gv:=vIv) (oi_monotonic__impl_ExpAt _) fun r1 _=>?_
 exact Run.x 0
theorem oi_conic_constant__pCn (b0 : Cn) : Fun Tryz.prog 126 [(#[.int .i64 b0.p.kind.val,.int .i64 b0.p.lat0.val,.int .i64 b0.p.lon0.val,.int .i64 b0.p.lat1.val,.int .i64 b0.p.lat2.val,.int .i64 b0.a.lo.val,.int .i64 b0.a.hi.val,.int .i64 b0.b.lo.val,.int .i64 b0.b.hi.val,.int .i64 b0.o.lo.val,.int .i64 b0.o.hi.val,.int .i64 b0.n.lo.val,.int .i64 b0.n.hi.val,.int .i64 b0.g.lo.val,.int .i64 b0.g.hi.val],67)] #[.pointer (some ⟨0,0,none⟩)] (vIv (I_conic_constant__pCn b0)) [(#[.int .i64 b0.p.kind.val,.int .i64 b0.p.lat0.val,.int .i64 b0.p.lon0.val,.int .i64 b0.p.lat1.val,.int .i64 b0.p.lat2.val,.int .i64 b0.a.lo.val,.int .i64 b0.a.hi.val,.int .i64 b0.b.lo.val,.int .i64 b0.b.hi.val,.int .i64 b0.o.lo.val,.int .i64 b0.o.hi.val,.int .i64 b0.n.lo.val,.int .i64 b0.n.hi.val,.int .i64 b0.g.lo.val,.int .i64 b0.g.hi.val],67)]:=by
 refine Fun.ofH 400 E_ok mixed Tryz.func126 (by kernel_rfl) (by kernel_rfl) ?_
 unfold I_conic_constant__pCn
 refine Run.y (gv:=vIv) (fun _=>?_) (fun _=>?_)
 ·refine Run.q (e:=vIv) (gv:=vIv) (oi_CosI _) fun r1 _=>?_
  refine Run.q (e:=vIv) (gv:=vIv) (oi_SqrI _) fun r2 _=>?_
  refine Run.q (e:=vIv) (gv:=vIv) (oi_times _ _) fun r3 _=>?_
  refine Run.q (e:=vIv) (gv:=vIv) (oi_SinI _) fun r4 _=>?_
  refine Run.q (e:=vIv) (gv:=vIv) (oi_MulI _ _) fun r5 _=>?_
  refine Run.q (e:=vIv) (gv:=vIv) (oi_AddI _ _) fun r6 _=>?_
  exact Run.x 1
 ·refine Run.y (gv:=vIv) (fun _=>?_) (fun _=>?_)
  ·refine Run.q (e:=vIv) (gv:=vIv) (oi_CosI _) fun r7 _=>?_
   refine Run.q (e:=vIv) (gv:=vIv) (oi_isometricSphere _) fun r8 _=>?_
   refine Run.q (e:=vIv) (gv:=vIv) (oi_MulI _ _) fun r9 _=>?_
   refine Run.q (e:=vIv) (gv:=vIv) (oi_ExpI _) fun r10 _=>?_
   refine Run.q (e:=vIv) (gv:=vIv) (oi_MulI _ _) fun r11 _=>?_
   refine Run.q (e:=vIv) (gv:=vIv) (oi_DivI _ _) fun r12 _=>?_
   exact Run.x 1
  ·refine Run.q (e:=vIv) (gv:=vIv) (oi_CosI _) fun r13 _=>?_
   refine Run.q (e:=vIv) (gv:=vIv) (oi_DivI _ _) fun r14 _=>?_
   refine Run.q (e:=vIv) (gv:=vIv) (oi_AddI _ _) fun r15 _=>?_
   exact Run.x 1
def R_impl_newConic (r : Cn × I64) : Value → List Blk → Prop:=MB 67 (r.2.val != 0) (vCn r.1).cells
theorem oi_newConic (a0 : Pj) : FunR Tryz.prog 37 [] #[vPj a0] (MBx 67 ((I_newConic a0).2.val != 0) (vCn (I_newConic a0).1).cells):=by
 refine FunR.mb (by kernel_rfl) (FunR.of 400 E_ok mixed Tryz.func37 (by kernel_rfl) ?_)
 show Run _ _ (R_impl_newConic (I_newConic a0)) _
 unfold I_newConic
 refine Run.gq (Rg:=R_impl_newConic) (e:=vB) (oi_ValidProjection _) fun r1 hr1=>?_
 refine Run.gy (Rg:=R_impl_newConic) (fun h2=>?_) (fun h2=>?_)
 ·refine Run.z [true,true,true,true,true] ?_
  exact Run.mbn (by kernel_rfl) (by kernel_rfl)
 ·refine Run.z [false,false] ?_
  refine Run.gq (Rg:=R_impl_newConic) (e:=vB) (oi_isConic _) fun r3 hr3=>?_
  refine Run.z [false,false] ?_
  refine Run.gy (Rg:=R_impl_newConic) (fun h4=>?_) (fun h4=>?_)
  ·exact Run.mbn (by kernel_rfl) (by kernel_rfl)
  ·refine Run.gq (Rg:=R_impl_newConic) (e:=vIv) (oi_RadiansOf _) fun r5 hr5=>?_
   refine Run.gq (Rg:=R_impl_newConic) (e:=vIv) (oi_RadiansOf _) fun r6 hr6=>?_
   refine Run.gq (Rg:=R_impl_newConic) (e:=vIv) (oi_RadiansOf _) fun r7 hr7=>?_
   refine Run.gw (Rg:=R_impl_newConic) (e:=vIv) [1] (oi_conic_cone__pCn _) fun r8 hr8=>?_
   refine Run.gw (Rg:=R_impl_newConic) (e:=vIv) [1] (oi_conic_constant__pCn _) fun r9 hr9=>?_
   exact Run.mbp 1 (by kernel_rfl) (by kernel_rfl) (by kernel_rfl)
end Go.Proofs.YtbipmdgocmdgdaaGreat.Abs
