/- Plain laws of the functions on numbers: what the program computes is what the reference computes. -/
import Derived.Test.YtcdkepbgjgcjfaaGreatTsQqr
import Derived.Test.YtcdkepbgjgcjfaaGreatTsFx
set_option linter.unusedVariables false
set_option linter.unusedSimpArgs false
namespace Go.Proofs.YtcdkepbgjgcjfaaGreat.Abs
open Go
theorem eq_sinh (n : I64) : I_SinhI_1 n = S_l08Sinh n:=by
  unfold I_SinhI_1 S_l08Sinh
  simp only [bindP_e,eq_ExpAt,eq_SubI,eq_HalfI]
theorem eq_SinhI (x : Iv) : I_SinhI x = S_SinhI x:=by
  unfold I_SinhI S_SinhI I_monotonic__impl_SinhI_1
  rw [bindP_e,mono_eq x I_SinhI_1 S_l08Sinh fun _=>⟨eq_sinh _,eq_sinh _⟩]
  simp only [bindP_e]
theorem eq_cosh (n : I64) : I_CoshI_1 n = S_l08Cosh n:=by
  unfold I_CoshI_1 S_l08Cosh
  simp only [bindP_e,eq_ExpAt,eq_AddI,eq_HalfI]
theorem AbsI_ok (x : Iv) : S_l04Ok (S_AbsI x) = S_l04Ok x:=by
  cases ho : S_l04Ok x with
  | true=>
    rw [AbsI_val ho]
    obtain ⟨h1,h2,h3⟩:=Ends_val ho
    exact Ok4_of ⟨by show _ < (S_l04Ends x).1.val; omega,h2,h3⟩
  | false=>
    unfold S_AbsI
    simp only [bindP_e,ho,Bool.not_false,cond_t]
    decide
theorem eq_CoshI (x : Iv) : I_CoshI x = S_CoshI x:=by
  unfold I_CoshI S_CoshI I_monotonic__impl_CoshI_1
  simp only [bindP_e,eq_AbsI2]
  have h:=mono_eq (S_AbsI x) I_CoshI_1 S_l08Cosh fun _=>⟨eq_cosh _,eq_cosh _⟩
  simp only [bindP_e,AbsI_ok] at h
  exact h
theorem atanh_pos (f : I64 → Iv) (n : I64) (h0 : 0 ≤ n.val) (h1 : n.val < 1152921504606846976) : I_AtanhI_1 n = S_l08Atanh_b f n:=by
  unfold I_AtanhI_1 S_l08Atanh_b
  rw [decide_eq_false (by omega : ¬ n.val < 0),cond_f]
  by_cases h : n.val ≥ 4294967296
  · simp only [decide_eq_true h,cond_t,bindP_e,eq_Whole]
  · simp only [decide_eq_false h,cond_f,bindP_e]
    rw [at8 (by rw [w64_val]; omega),at8 (by rw [w64_val]; omega),eq_DivI,eq_LogI,eq_HalfI]
theorem eq_atanh (n : I64) (h0 : -1152921504606846976 < n.val) (h1 : n.val < 1152921504606846976) : I_odd_1__p_impl_AtanhI_1 n = S_l08Atanh n:=by
  unfold I_odd_1__p_impl_AtanhI_1 S_l08Atanh S_l08Atanh_r
  simp only [bindP_e,eq_NegI]
  by_cases h : n.val < 0
  · have en : (w64 (0 - n.val)).val = -n.val:=by rw [w64_val]; omega
    rw [decide_eq_true h,cond_t,atanh_pos (S_l08Atanh_r 0) (w64 (0 - n.val)) (by omega) (by omega)]
    rw [show S_l08Atanh_b (S_l08Atanh_r 1) n = S_NegI (S_l08Atanh_r 1 (w64 (0 - n.val))) by
      rw [S_l08Atanh_b]
      simp only [bindP_e,decide_eq_true h,cond_t]]
    rw [S_l08Atanh_r]
  · rw [decide_eq_false h,cond_f]
    exact atanh_pos _ n (by omega) h1
theorem eq_AtanhI (x : Iv) : I_AtanhI x = S_AtanhI x:=by
  unfold I_AtanhI S_AtanhI I_monotonic__impl_odd_1_p_impl_AtanhI_1
  rw [bindP_e,mono_eq x I_odd_1__p_impl_AtanhI_1 S_l08Atanh fun h=>by
    obtain ⟨h1,h2,h3⟩:=Ok4 h
    exact ⟨eq_atanh _ h1 (by omega),eq_atanh _ (by omega) h3⟩]
  simp only [bindP_e]
theorem code_zero : ((c64 0).val != 0) = false:=by decide
theorem code_one : ((c64 1).val != 0) = true:=by decide
theorem code_eight : ((c64 8).val != 0) = true:=by decide
theorem eq_TransverseForward (p : Pj) (q : Pt) : I_TransverseForward p q = S_TransverseForward p q:=by
  unfold I_TransverseForward S_TransverseForward S_l21Forward__pPj S_l21Side__pPj
  simp only [bindP_e,eq_transverse]
  cases S_l21Ok__pPj p with
  | false=>simp only [Bool.not_false,cond_t,code_one]
  | true=>
    cases S_l11Ok q with
    | false=>simp only [Bool.not_false,Bool.not_true,cond_t,cond_f,code_one]
    | true=>
      cases S_l21Edge__pPj p q with
      | true=>simp only [Bool.not_true,cond_t,cond_f,code_eight]
      | false=>simp only [Bool.not_true,cond_f,code_zero,eq_AtanhI,eq_SinI,eq_MulI,eq_CosI,eq_DirectionI,eq_RadiansOf,eq_SubI,eq_planar]
theorem spec_whole (x : Iv) : S_IsWhole x = !S_l04Ok x:=by
  unfold S_IsWhole
  simp only [bindP_e]
theorem eq_TransverseInverse (p : Pj) (q : Pn) : I_TransverseInverse p q = S_TransverseInverse p q:=by
  unfold I_TransverseInverse S_TransverseInverse
  simp only [bindP_e,eq_isTransverse,eq_RadiansOf,eq_AddI,eq_SinI,eq_CosI,eq_CoshI,eq_SinhI,eq_DivI,eq_AsinI,eq_areBounded,eq_DirectionI,eq_IsWhole,spec_whole]
  cases S_l21Ok__pPj p with
  | false=>simp only [Bool.not_false,cond_t]
  | true=>
    simp only [Bool.not_true,cond_f]
    cases S_l04Ok (S_AddI q.y (S_RadiansOf p.lat0)) with
    | false=>simp only [Bool.false_and,Bool.not_false,cond_t]
    | true=>
      cases S_l04Ok (S_DivI (S_SinI (S_AddI q.y (S_RadiansOf p.lat0))) (S_CoshI q.x)) with
      | false=>simp only [Bool.true_and,Bool.not_true,Bool.not_false,cond_t,cond_f]
      | true=>simp only [Bool.true_and,Bool.not_true,cond_f]
end Go.Proofs.YtcdkepbgjgcjfaaGreat.Abs
