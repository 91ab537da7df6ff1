/- Plain laws of the functions on numbers: what the program computes is what the reference computes. -/
import Derived.Test.YtbipmdgocmdgdaaGreatCsQmnop
import Derived.Test.YtbipmdgocmdgdaaGreatCsFx
set_option linter.unusedVariables false
set_option linter.unusedSimpArgs false
namespace Go.Proofs.YtbipmdgocmdgdaaGreat.Abs
open Go
theorem Shift_z29 (w : Wd) : (S_l02Shift w (c64 29)).z = w.z / 536870912:=by
  have a1:=w.lo.lo
  have a2:=w.lo.hi
  unfold S_l02Shift
  have e0 : ((c64 29).val == 0) = false:=by decide
  have e1 : decide ((c64 29).val < 64) = true:=by decide
  have e2 : (wu64 (c64 29).val).val = 29:=by decide
  have e3 : (wu64 (w64 (64 - (c64 29).val)).val).val = 35:=by decide
  simp only [e0,e1,e2,e3,cond_true,cond_false]
  have s1 : (ishr w.hi 29).val = w.hi.val / 536870912:=by rw [ishr_val,Int.fdiv_eq_ediv_of_nonneg _ (by decide)]; rfl
  have s2 : (ishr w.lo 29).val = w.lo.val / 536870912:=by rw [ishr_val,Int.fdiv_eq_ediv_of_nonneg _ (by decide)]; rfl
  have s3 : (ishl .u64 (wu64 w.hi.val).val 35).val = (w.hi.val % 18446744073709551616 * 34359738368) % 18446744073709551616:=by
    show IntKind.u64.wrap ((wu64 w.hi.val).val * 2 ^ 35) = _
    rw [IntKind.wrap_u64,wu64_val]
    rfl
  have s4 : (ior .u64 (ishr w.lo 29).val (ishl .u64 (wu64 w.hi.val).val 35).val).val = (w.hi.val % 18446744073709551616 * 34359738368) % 18446744073709551616 + w.lo.val / 536870912:=by
    rw [ior_comm,s2,s3]
    exact or_add 35 _ _ (by omega) (by omega) (by rw [show (2 : Int) ^ 35 = 34359738368 by decide]; omega) (by omega) (by rw [show (2 : Int) ^ 35 = 34359738368 by decide]; omega) (by decide)
  show (ishr w.hi 29).val * 18446744073709551616 + (ior .u64 (ishr w.lo 29).val (ishl .u64 (wu64 w.hi.val).val 35).val).val = (w.hi.val * 18446744073709551616 + w.lo.val) / 536870912
  rw [s1,s4]
  omega
theorem Ln_lo (a : I64) (h0 : -100 ≤ a.val) (h1 : a.val ≤ 100) : ∃ r : I64,S_MulFloor a (c64 1598288580650331957) (c64 29) = (r,true) ∧ r.val = a.val * 1598288580650331957 / 536870912:=by
  have hz : (S_l02Shift (S_l02Mul a (c64 1598288580650331957)) (c64 29)).z = a.val * 1598288580650331957 / 536870912:=by rw [Shift_z29,sp_Mul,c64_v]
  obtain ⟨n,e1,e2⟩:=Int_in (S_l02Shift (S_l02Mul a (c64 1598288580650331957)) (c64 29)) (by rw [hz]; omega) (by rw [hz]; omega)
  refine ⟨n,?_,by rw [e1,hz]⟩
  unfold S_MulFloor
  have e3 : S_l00In (c64 29) (c64 0) (c64 126) = true:=by decide
  simp only [bindP_e,e2,e3,Bool.not_true,cond_f]
theorem Ln_hi (a : I64) (h0 : -100 ≤ a.val) (h1 : a.val ≤ 100) : ∃ r : I64,S_MulFloor a (c64 1598288580650331958) (c64 29) = (r,true) ∧ r.val = a.val * 1598288580650331958 / 536870912:=by
  have hz : (S_l02Shift (S_l02Mul a (c64 1598288580650331958)) (c64 29)).z = a.val * 1598288580650331958 / 536870912:=by rw [Shift_z29,sp_Mul,c64_v]
  obtain ⟨n,e1,e2⟩:=Int_in (S_l02Shift (S_l02Mul a (c64 1598288580650331958)) (c64 29)) (by rw [hz]; omega) (by rw [hz]; omega)
  refine ⟨n,?_,by rw [e1,hz]⟩
  unfold S_MulFloor
  have e3 : S_l00In (c64 29) (c64 0) (c64 126) = true:=by decide
  simp only [bindP_e,e2,e3,Bool.not_true,cond_f]
theorem in64_val {a : I64} (h : S_l00In a (c64 (-64)) (c64 64) = true) : -64 ≤ a.val ∧ a.val ≤ 64:=by
  rw [sp_in] at h
  simp only [Bool.and_eq_true,decide_eq_true_eq,c64_v] at h
  exact h
theorem in64_of {a : I64} (h : -64 ≤ a.val ∧ a.val ≤ 64) : S_l00In a (c64 (-64)) (c64 64) = true:=by
  rw [sp_in]
  simp only [Bool.and_eq_true,decide_eq_true_eq,c64_v]
  exact h
theorem log_pos (g : I64 → Iv) (a : I64) (h0 : 0 ≤ a.val) (h1 : a.val ≤ 64) : ∃ z : Iv,S_LogTwoI_b g a = z ∧ I_LogTwoI_b g a = z ∧ S_l04Ok z = true ∧ a.val * 2977044472 - 70 ≤ z.lo.val ∧ z.hi.val ≤ a.val * 2977044472 + 70:=by
  have en : (w64 (0 - a.val)).val = -a.val:=by rw [w64_val]; omega
  obtain ⟨r,r1,r2⟩:=Ln_lo a (by omega) (by omega)
  obtain ⟨s,s1,s2⟩:=Ln_hi (w64 (0 - a.val)) (by omega) (by omega)
  rw [en] at s2
  have eh : (w64 (0 - s.val)).val = -s.val:=by rw [w64_val]; omega
  have hb : -1152921504606846976 < r.val ∧ r.val ≤ (w64 (0 - s.val)).val ∧ (w64 (0 - s.val)).val < 1152921504606846976:=by omega
  have hn : decide (a.val < 0) = false:=decide_eq_false (by omega)
  have hi : S_l00In a (c64 (-64)) (c64 64) = true:=in64_of (by omega)
  refine ⟨⟨r,w64 (0 - s.val)⟩,?_,?_,Ok4_of hb,?_,?_⟩
  · unfold S_LogTwoI_b
    simp only [bindP_e,hi,hn,r1,s1,Bool.not_true,cond_f]
    rw [Make_ok hb]
  · unfold I_LogTwoI_b
    simp only [bindP_e,eq_in,eq_MulFloor,hi,hn,r1,s1,Bool.not_true,cond_f]
  · show a.val * 2977044472 - 70 ≤ r.val
    omega
  · show (w64 (0 - s.val)).val ≤ _
    omega
theorem log_step (g : I64 → Iv) (a : I64) (h0 : -64 ≤ a.val) (h1 : a.val < 0) : S_LogTwoI_b g a = S_NegI (g (w64 (0 - a.val))) ∧ I_LogTwoI_b g a = S_NegI (g (w64 (0 - a.val))):=by
  have hn : decide (a.val < 0) = true:=decide_eq_true (by omega)
  have hi : S_l00In a (c64 (-64)) (c64 64) = true:=in64_of (by omega)
  constructor
  · unfold S_LogTwoI_b
    simp only [bindP_e,hi,hn,Bool.not_true,cond_f,cond_t]
  · unfold I_LogTwoI_b
    simp only [bindP_e,eq_in,eq_NegI,hi,hn,Bool.not_true,cond_f,cond_t]
theorem neg_val {a : Iv} (h : S_l04Ok a = true) : ∃ z : Iv,S_NegI a = z ∧ S_l04Ok z = true ∧ z.lo.val = -a.hi.val ∧ z.hi.val = -a.lo.val:=by
  obtain ⟨h1,h2,h3⟩:=Ok4 h
  have e1 : (w64 (0 - a.hi.val)).val = -a.hi.val:=by rw [w64_val]; omega
  have e2 : (w64 (0 - a.lo.val)).val = -a.lo.val:=by rw [w64_val]; omega
  have hb : -1152921504606846976 < (w64 (0 - a.hi.val)).val ∧ (w64 (0 - a.hi.val)).val ≤ (w64 (0 - a.lo.val)).val ∧ (w64 (0 - a.lo.val)).val < 1152921504606846976:=by omega
  refine ⟨⟨w64 (0 - a.hi.val),w64 (0 - a.lo.val)⟩,?_,Ok4_of hb,e1,e2⟩
  unfold S_NegI
  simp only [bindP_e,h,Bool.not_true,cond_f]
  rw [Make_ok hb]
theorem LogTwoI_all (a : I64) : I_LogTwoI a = S_LogTwoI a ∧ (-64 ≤ a.val → a.val ≤ 64 → ∃ z : Iv,S_LogTwoI a = z ∧ S_l04Ok z = true ∧ a.val * 2977044472 - 70 ≤ z.lo.val ∧ z.hi.val ≤ a.val * 2977044472 + 70):=by
  unfold I_LogTwoI S_LogTwoI I_LogTwoI_r S_LogTwoI_r
  cases hi : S_l00In a (c64 (-64)) (c64 64) with
  | false=>
    constructor
    · unfold I_LogTwoI_b S_LogTwoI_b
      simp only [bindP_e,eq_in,hi,eq_Whole,Bool.not_false,cond_t]
    · intro h1 h2
      rw [in64_of ⟨h1,h2⟩] at hi
      cases hi
  | true=>
    obtain ⟨h1,h2⟩:=in64_val hi
    by_cases hn : a.val < 0
    · rw [(log_step _ a h1 hn).2,(log_step _ a h1 hn).1]
      have en : (w64 (0 - a.val)).val = -a.val:=by rw [w64_val]; omega
      unfold I_LogTwoI_r S_LogTwoI_r
      obtain ⟨z,z1,_,z3,z4,z5⟩:=log_pos (S_LogTwoI_r 0) (w64 (0 - a.val)) (by omega) (by omega)
      obtain ⟨y,y1,y2,_⟩:=log_pos (I_LogTwoI_r 0) (w64 (0 - a.val)) (by omega) (by omega)
      have e0 : I_LogTwoI_r 0 = S_LogTwoI_r 0:=by funext x; unfold I_LogTwoI_r S_LogTwoI_r; rfl
      rw [e0] at y1 y2
      rw [e0,y2,← y1,z1]
      refine ⟨rfl,fun _ _=>?_⟩
      obtain ⟨v,v1,v2,v3,v4⟩:=neg_val z3
      exact ⟨v,v1,v2,by omega,by omega⟩
    · obtain ⟨z,z1,_,z3,z4,z5⟩:=log_pos (S_LogTwoI_r 1) a (by omega) (by omega)
      obtain ⟨y,y1,y2,_⟩:=log_pos (I_LogTwoI_r 1) a (by omega) (by omega)
      refine ⟨?_,fun _ _=>⟨z,z1,z3,z4,z5⟩⟩
      rw [y2,z1]
      have e1 : S_LogTwoI_b (I_LogTwoI_r 1) a = S_LogTwoI_b (S_LogTwoI_r 1) a:=by
        unfold S_LogTwoI_b
        simp only [bindP_e,decide_eq_false hn,cond_f]
      rw [← y1,e1,z1]
theorem eq_LogTwoI (a : I64) : I_LogTwoI a = S_LogTwoI a:=(LogTwoI_all a).1
theorem eq_widened (a : Iv) (n : I64) : I_widened a n = S_l08Widen a n:=by
  unfold I_widened S_l08Widen
  simp only [bindP_e,eq_Valid]
  cases S_l04Ok a
  · simp only [bounded_false,Bool.not_false,cond_t]
  · simp only [eq_bounded,Bool.not_true,cond_f]
theorem eq_One8 : S_l08One = S_Integer (c64 1):=by
  obtain ⟨z,e,h1,h2,h3⟩:=Integer_val (c64 1) (by decide) (by decide)
  rw [c64_v] at h2 h3
  rw [e]
  unfold S_l08One S_l08At
  simp only [bindP_e]
  rw [Make_ok (by simp only [c64_v]; omega)]
  obtain ⟨lo,hi⟩:=z
  simp only at h2 h3
  have e1 : c64 4294967296 = lo:=IK.eq (by rw [c64_v,h2]; rfl)
  have e2 : c64 4294967296 = hi:=IK.eq (by rw [c64_v,h3]; rfl)
  rw [← e1,← e2]
def Pos2 (z : Iv) : Prop:=S_l04Ok z = true ∧ 1 ≤ z.lo.val ∧ z.hi.val ≤ 8589934592
def Rest (r : Iv) : Prop:=S_l04Ok r = true ∧ -1488522400 ≤ r.lo.val ∧ r.hi.val ≤ 1488522400
theorem exp_step {r p : Iv} (hr : Rest r) (hp : Pos2 p) {c : I64} (hc : 1 ≤ c.val ∧ c.val ≤ 100) : Pos2 (S_AddI (S_Integer (c64 1)) (S_DivI (S_MulI r p) (S_Integer c))):=by
  obtain ⟨hr0,hr1,hr2⟩:=hr
  obtain ⟨hp0,hp1,hp2⟩:=hp
  have rb:=Ok4 hr0
  have pb:=Ok4 hp0
  obtain ⟨i1,e1,o1,l1,u1⟩:=Integer_val (c64 1) (by decide) (by decide)
  obtain ⟨ic,ec,oc,lc,uc⟩:=Integer_val c (by omega) (by omega)
  rw [e1,ec]
  rw [c64_v] at l1 u1
  have key : ∀ p q : Int,-1488522400 ≤ p → p ≤ 1488522400 → 0 ≤ q → q ≤ 8589934592 → -2977044800 * 4294967296 ≤ p * q ∧ p * q ≤ 2977044800 * 4294967296:=fun p q h1 h2 h3 h4=>by
    have a1 : -1488522400 * q ≤ p * q:=Int.mul_le_mul_of_nonneg_right h1 h3
    have a2 : p * q ≤ 1488522400 * q:=Int.mul_le_mul_of_nonneg_right h2 h3
    omega
  obtain ⟨m,em,om,m0,m1,_⟩:=MulI_in hr0 hp0 (L:=-2977044800) (U:=2977044800) (by decide) (by decide) (key _ _ (by omega) (by omega) (by omega) (by omega)) (key _ _ (by omega) (by omega) (by omega) (by omega)) (key _ _ (by omega) (by omega) (by omega) (by omega)) (key _ _ (by omega) (by omega) (by omega) (by omega))
  rw [em]
  have mb:=Ok4 om
  obtain ⟨d,ed,od,d0,d1⟩:=DivI_in om oc (by omega) (L:=-2977044800) (U:=2977044800) (by decide) (by decide) (by omega) (by omega) (by omega) (by omega)
  rw [ed]
  have db:=Ok4 od
  have hb : -1152921504606846976 < (w64 (i1.lo.val + d.lo.val)).val ∧ (w64 (i1.lo.val + d.lo.val)).val ≤ (w64 (i1.hi.val + d.hi.val)).val ∧ (w64 (i1.hi.val + d.hi.val)).val < 1152921504606846976:=by simp only [w64_val]; omega
  have e : S_AddI i1 d = ⟨w64 (i1.lo.val + d.lo.val),w64 (i1.hi.val + d.hi.val)⟩:=by
    unfold S_AddI
    simp only [bindP_e,o1,od,Bool.not_true,cond_f]
    rw [Make_ok hb]
  rw [e]
  exact ⟨Ok4_of hb,by show 1 ≤ (w64 _).val; rw [w64_val]; omega,by show (w64 _).val ≤ _; rw [w64_val]; omega⟩
theorem one_pos2 : Pos2 (S_Integer (c64 1)):=by
  obtain ⟨z,e,h1,h2,h3⟩:=Integer_val (c64 1) (by decide) (by decide)
  rw [c64_v] at h2 h3
  rw [e]
  exact ⟨h1,by omega,by omega⟩
theorem exp_rest {a k : I64} (ha : -98784247808 ≤ a.val ∧ a.val ≤ 85899345920) (hk : k.val * 5954088944 ≤ 2 * a.val + 2977044472 ∧ 2 * a.val + 2977044472 < (k.val + 1) * 5954088944) : Rest (S_SubI (S_l08At a) (S_LogTwoI k)):=by
  obtain ⟨z,e,oz,z1,z2⟩:=(LogTwoI_all k).2 (by omega) (by omega)
  have zb:=Ok4 oz
  have ea : S_l08At a = ⟨a,a⟩:=by
    unfold S_l08At
    rw [bindP_e,Make_ok (by omega)]
  have oa : S_l04Ok ⟨a,a⟩ = true:=Ok4_of (by simp only; omega)
  rw [e,ea]
  have hb : -1152921504606846976 < (w64 (a.val - z.hi.val)).val ∧ (w64 (a.val - z.hi.val)).val ≤ (w64 (a.val - z.lo.val)).val ∧ (w64 (a.val - z.lo.val)).val < 1152921504606846976:=by simp only [w64_val]; omega
  have es : S_SubI ⟨a,a⟩ z = ⟨w64 (a.val - z.hi.val),w64 (a.val - z.lo.val)⟩:=by
    unfold S_SubI
    simp only [bindP_e,oa,oz,Bool.not_true,cond_f]
    rw [Make_ok hb]
  rw [es]
  exact ⟨Ok4_of hb,by show _ ≤ (w64 _).val; rw [w64_val]; omega,by show (w64 _).val ≤ _; rw [w64_val]; omega⟩
theorem dbl_AddI (a : Iv) : I_DoubleI a = S_AddI a a:=by
  unfold I_DoubleI
  rw [bindP_e,eq_AddI]
theorem double_whole : I_DoubleI S_l04Whole = S_l04Whole:=by
  rw [dbl_AddI]
  unfold S_AddI
  have : S_l04Ok S_l04Whole = false:=by decide
  simp only [bindP_e,this,Bool.not_false,cond_t]
theorem scaled_whole : ∀ (K fu : Nat) (k : I64),k.val = K → K < fu → I_scaled_L0 fu k S_l04Whole = S_l04Whole:=by
  intro K
  induction K with
  | zero=>
    intro fu k hk hf
    obtain ⟨fu,rfl⟩ : ∃ g,fu = g + 1:=⟨fu - 1,by omega⟩
    unfold I_scaled_L0
    have h0 : decide (k.val > 0) = false:=decide_eq_false (by omega)
    have hw : S_l04Ok S_l04Whole = false:=by decide
    simp only [bindP_e,h0,cond_f,eq_IsWhole,hw,Bool.not_false,cond_t,eq_Whole]
  | succ K ih=>
    intro fu k hk hf
    obtain ⟨fu,rfl⟩ : ∃ g,fu = g + 1:=⟨fu - 1,by omega⟩
    unfold I_scaled_L0
    have h0 : decide (k.val > 0) = true:=decide_eq_true (by omega)
    have hk1 : (w64 (k.val - 1)).val = K:=by have:=k.hi; rw [w64_val]; omega
    simp only [bindP_e,h0,cond_t,double_whole]
    exact ih fu _ hk1 (by omega)
theorem shl_val_nat (x k : I64) (K : Nat) (hk : k.val = K) (hK : K ≤ 60) (h0 : 0 ≤ x.val) (h1 : x.val * 2 ^ K < 9223372036854775808) : (ishl .i64 x.val (wu64 k.val).val).val = x.val * 2 ^ K:=by
  rw [wu_nn k (by omega)]
  show IntKind.i64.wrap (x.val * 2 ^ (min k.val.toNat 64)) = _
  have e : min k.val.toNat 64 = K:=by omega
  rw [e,IntKind.wrap_i64]
  have : 0 ≤ x.val * 2 ^ K:=Int.mul_nonneg h0 (Int.le_of_lt (Int.pow_pos (by decide)))
  omega
theorem scaled_up : ∀ (K fu : Nat) (k : I64) (x : Iv),k.val = K → K ≤ 60 → K < fu → S_l04Ok x = true → 0 ≤ x.lo.val → x.hi.val * 2 ^ K < 9223372036854775808 →
    I_scaled_L0 fu k x = S_l04Make (ishl .i64 x.lo.val (wu64 k.val).val) (ishl .i64 x.hi.val (wu64 k.val).val):=by
  intro K
  induction K with
  | zero=>
    intro fu k x hk _ hf ho hl hh
    obtain ⟨h1,h2,h3⟩:=Ok4 ho
    obtain ⟨fu,rfl⟩ : ∃ g,fu = g + 1:=⟨fu - 1,by omega⟩
    unfold I_scaled_L0
    have h0 : decide (k.val > 0) = false:=decide_eq_false (by omega)
    have hk0 : k.val = 0:=by omega
    have ek : (w64 (0 - k.val)).val = 0:=by rw [w64_val]; omega
    have el : ishl .i64 x.lo.val (wu64 k.val).val = x.lo:=IK.eq (by rw [shl_val_nat x.lo k 0 hk (by omega) hl (by rw [Int.pow_zero]; omega),Int.pow_zero]; omega)
    have eh : ishl .i64 x.hi.val (wu64 k.val).val = x.hi:=IK.eq (by rw [shl_val_nat x.hi k 0 hk (by omega) (by omega) (by rw [Int.pow_zero]; omega),Int.pow_zero]; omega)
    simp only [bindP_e,h0,cond_f,eq_IsWhole,ho,Bool.not_true,ek,shr0,el,eh]
    rw [Make_ok ⟨h1,h2,h3⟩]
    have : w64 (0 - (w64 (0 - x.hi.val)).val) = x.hi:=IK.eq (by simp only [w64_val]; omega)
    rw [this]
  | succ K ih=>
    intro fu k x hk hK hf ho hl hh
    obtain ⟨h1,h2,h3⟩:=Ok4 ho
    obtain ⟨fu,rfl⟩ : ∃ g,fu = g + 1:=⟨fu - 1,by omega⟩
    have hp : (0 : Int) < 2 ^ K:=Int.pow_pos (by decide)
    have e2 : ∀ y : Int,y * 2 ^ (K + 1) = 2 * y * 2 ^ K:=fun y=>by rw [Int.pow_succ,← Int.mul_assoc,Int.mul_comm,← Int.mul_assoc]
    have hlo : x.lo.val * 2 ^ (K + 1) ≤ x.hi.val * 2 ^ (K + 1):=Int.mul_le_mul_of_nonneg_right h2 (Int.le_of_lt (Int.pow_pos (by decide)))
    have h0 : decide (k.val > 0) = true:=decide_eq_true (by omega)
    have hk1 : (w64 (k.val - 1)).val = K:=by have:=k.hi; rw [w64_val]; omega
    rw [show I_scaled_L0 (fu + 1) k x = I_scaled_L0 fu (w64 (k.val - 1)) (I_DoubleI x) by
      rw [I_scaled_L0]
      simp only [bindP_e,h0,cond_t]]
    have ed : I_DoubleI x = S_l04Make (w64 (2 * x.lo.val)) (w64 (2 * x.hi.val)):=by
      rw [dbl_AddI]
      unfold S_AddI
      have z1 : x.lo.val + x.lo.val = 2 * x.lo.val:=by omega
      have z2 : x.hi.val + x.hi.val = 2 * x.hi.val:=by omega
      simp only [bindP_e,ho,Bool.not_true,cond_f,z1,z2]
    rw [ed]
    have d1 : (w64 (2 * x.lo.val)).val = 2 * x.lo.val:=by rw [w64_val]; omega
    have d2 : (w64 (2 * x.hi.val)).val = 2 * x.hi.val:=by rw [w64_val]; omega
    have sl:=shl_val_nat x.lo k (K + 1) hk (by omega) hl (by omega)
    have sh:=shl_val_nat x.hi k (K + 1) hk (by omega) (by omega) hh
    by_cases hf2 : 2 * x.hi.val < 1152921504606846976
    · have hb : -1152921504606846976 < (w64 (2 * x.lo.val)).val ∧ (w64 (2 * x.lo.val)).val ≤ (w64 (2 * x.hi.val)).val ∧ (w64 (2 * x.hi.val)).val < 1152921504606846976:=by omega
      rw [Make_ok hb,ih fu _ _ hk1 (by omega) (by omega) (Ok4_of hb) (by show 0 ≤ (w64 _).val; omega) (by show (w64 _).val * _ < _; rw [d2,← e2]; exact hh)]
      have hl2:=shl_val_nat (w64 (2 * x.lo.val)) (w64 (k.val - 1)) K hk1 (by omega) (by omega) (by rw [d1,← e2]; omega)
      have hh2:=shl_val_nat (w64 (2 * x.hi.val)) (w64 (k.val - 1)) K hk1 (by omega) (by omega) (by rw [d2,← e2]; omega)
      have q1 : ishl .i64 (w64 (2 * x.lo.val)).val (wu64 (w64 (k.val - 1)).val).val = ishl .i64 x.lo.val (wu64 k.val).val:=IK.eq (by rw [hl2,sl,d1,e2])
      have q2 : ishl .i64 (w64 (2 * x.hi.val)).val (wu64 (w64 (k.val - 1)).val).val = ishl .i64 x.hi.val (wu64 k.val).val:=IK.eq (by rw [hh2,sh,d2,e2])
      show S_l04Make (ishl .i64 (w64 (2 * x.lo.val)).val (wu64 (w64 (k.val - 1)).val).val) (ishl .i64 (w64 (2 * x.hi.val)).val (wu64 (w64 (k.val - 1)).val).val) = _
      rw [q1,q2]
    · rw [Make_bad (by omega),scaled_whole K fu _ hk1 (by omega),Make_bad]
      rw [sh,e2]
      have : 2 * x.hi.val * 1 ≤ 2 * x.hi.val * 2 ^ K:=Int.mul_le_mul_of_nonneg_left (by omega) (by omega)
      omega
theorem scaled_down (fu : Nat) (k : I64) (x : Iv) (h0 : -100 ≤ k.val) (h1 : k.val < 0) (ho : S_l04Ok x = true) (hl : 0 ≤ x.lo.val) :
    I_scaled_L0 (fu + 1) k x = S_l04Make (ishr x.lo (wu64 (w64 (0 - k.val)).val).val) (w64 (0 - (ishr (w64 (0 - x.hi.val)) (wu64 (w64 (0 - k.val)).val).val).val)):=by
  obtain ⟨b1,b2,b3⟩:=Ok4 ho
  have ek : (w64 (0 - k.val)).val = 0 - k.val:=by rw [w64_val]; omega
  rw [wu_nn _ (by omega)]
  have hd : decide (k.val > 0) = false:=decide_eq_false (by omega)
  unfold I_scaled_L0
  simp only [bindP_e,hd,cond_f,eq_IsWhole,ho,Bool.not_true]
  have en : (w64 (0 - x.hi.val)).val = -x.hi.val:=by rw [w64_val]; omega
  have hp : (0 : Int) < 2 ^ (min (w64 (0 - k.val)).val.toNat IntKind.i64.bits):=Int.pow_pos (by decide)
  have s1 : (ishr x.lo (w64 (0 - k.val)).val).val = x.lo.val / 2 ^ (min (w64 (0 - k.val)).val.toNat IntKind.i64.bits):=by rw [ishr_val,Int.fdiv_eq_ediv_of_nonneg _ (Int.le_of_lt hp)]
  have s2 : (ishr (w64 (0 - x.hi.val)) (w64 (0 - k.val)).val).val = -x.hi.val / 2 ^ (min (w64 (0 - k.val)).val.toNat IntKind.i64.bits):=by rw [ishr_val,Int.fdiv_eq_ediv_of_nonneg _ (Int.le_of_lt hp),en]
  generalize (2 : Int) ^ (min (w64 (0 - k.val)).val.toNat IntKind.i64.bits) = p at *
  have q0 : 0 ≤ x.lo.val / p:=Int.ediv_nonneg hl (by omega)
  have q1 : x.lo.val / p ≤ x.hi.val / p:=Int.ediv_le_ediv hp b2
  have i1:=div_in (q:=x.hi.val) (b:=p) (L:=0) (U:=x.hi.val) hp (by omega) (by
    have : x.hi.val * 1 ≤ x.hi.val * p:=Int.mul_le_mul_of_nonneg_left (by omega) (by omega)
    omega)
  obtain ⟨_,_,_,i4,i5,_⟩:=i1
  rw [Make_ok]
  have ew : (w64 (0 - (ishr (w64 (0 - x.hi.val)) (w64 (0 - k.val)).val).val)).val = -(-x.hi.val / p):=by rw [w64_val,s2]; omega
  rw [ew,s1]
  omega
theorem eq_scaled (x : Iv) (k : I64) (h0 : -100 ≤ k.val) (h1 : k.val ≤ 29) (ho : S_l04Ok x = true) (hl : 0 ≤ x.lo.val) (hh : x.hi.val ≤ 8589934593) : I_scaled x k = S_l08Scale x k:=by
  unfold I_scaled S_l08Scale
  by_cases hk : k.val ≥ 0
  · simp only [hk,decide_true,cond_t,bindP_e]
    have b:=Ok4 ho
    have hp : (2 : Int) ^ k.val.toNat ≤ 536870912:=by
      have : (2 : Nat) ^ k.val.toNat ≤ 2 ^ 29:=Nat.pow_le_pow_right (by decide) (by omega)
      have h3 : ((2 ^ k.val.toNat : Nat) : Int) ≤ ((2 ^ 29 : Nat) : Int):=Int.ofNat_le.2 this
      rw [Int.natCast_pow] at h3
      exact h3
    refine scaled_up k.val.toNat _ k x (by omega) (by omega) (by omega) ho hl ?_
    have a1 : x.hi.val * 2 ^ k.val.toNat ≤ x.hi.val * 536870912:=Int.mul_le_mul_of_nonneg_left hp (by omega)
    omega
  · simp only [hk,decide_false,cond_f,bindP_e]
    exact scaled_down _ k x h0 (by omega) ho hl
theorem exp_end {p : Iv} {k : I64} (hp : Pos2 p) (h0 : -100 ≤ k.val) (h1 : k.val ≤ 29) : I_scaled (S_l08Widen p (c64 1)) k = S_l08Scale (S_l08Widen p (c64 1)) k:=by
  obtain ⟨ho,hl,hh⟩:=hp
  have b:=Ok4 ho
  have hb : -1152921504606846976 < (w64 (p.lo.val - 1)).val ∧ (w64 (p.lo.val - 1)).val ≤ (w64 (p.hi.val + 1)).val ∧ (w64 (p.hi.val + 1)).val < 1152921504606846976:=by simp only [w64_val]; omega
  have e : S_l08Widen p (c64 1) = ⟨w64 (p.lo.val - 1),w64 (p.hi.val + 1)⟩:=by
    unfold S_l08Widen
    simp only [bindP_e,ho,Bool.not_true,cond_f,c64_v]
    rw [Make_ok hb]
  rw [e]
  exact eq_scaled _ k h0 h1 (Ok4_of hb) (by show 0 ≤ (w64 _).val; rw [w64_val]; omega) (by show (w64 _).val ≤ _; rw [w64_val]; omega)
theorem exp_round (a : I64) (h1 : -98784247808 ≤ a.val) (h2 : a.val ≤ 85899345920) :
    ∃ q : I64,w64 (Int.tdiv (w64 ((w64 (2 * a.val)).val + 2977044472)).val 5954088944) = q ∧ -40 ≤ q.val ∧ q.val ≤ 29 ∧ (w64 (q.val - 1)).val = q.val - 1 ∧
      ((decide ((w64 ((w64 (q.val * 2)).val * 2977044472)).val > (w64 ((w64 (2 * a.val)).val + 2977044472)).val) = true ∧ decide ((imod (w64 ((w64 (2 * a.val)).val + 2977044472)) 5954088944).val < 0) = true ∧ ((q.val - 1) * 5954088944 ≤ 2 * a.val + 2977044472 ∧ 2 * a.val + 2977044472 < (q.val - 1 + 1) * 5954088944)) ∨
       (decide ((w64 ((w64 (q.val * 2)).val * 2977044472)).val > (w64 ((w64 (2 * a.val)).val + 2977044472)).val) = false ∧ decide ((imod (w64 ((w64 (2 * a.val)).val + 2977044472)) 5954088944).val < 0) = false ∧ (q.val * 5954088944 ≤ 2 * a.val + 2977044472 ∧ 2 * a.val + 2977044472 < (q.val + 1) * 5954088944))):=by
  have e : (w64 ((w64 (2 * a.val)).val + 2977044472)).val = 2 * a.val + 2977044472:=by simp only [w64_val]; omega
  have q : -40 ≤ Int.tdiv (2 * a.val + 2977044472) 5954088944 ∧ Int.tdiv (2 * a.val + 2977044472) 5954088944 ≤ 29:=by
    by_cases hs : 0 ≤ 2 * a.val + 2977044472
    · rw [Int.tdiv_eq_ediv_of_nonneg hs]; omega
    · have : Int.tdiv (2 * a.val + 2977044472) 5954088944 = -((-(2 * a.val + 2977044472)) / 5954088944):=by
        rw [← Int.tdiv_eq_ediv_of_nonneg (by omega),Int.neg_tdiv,Int.neg_neg]
      rw [this]; omega
  have m:=Int.tmod_add_mul_tdiv (2 * a.val + 2977044472) 5954088944
  have m1 : 0 ≤ 2 * a.val + 2977044472 → 0 ≤ Int.tmod (2 * a.val + 2977044472) 5954088944:=fun h=>Int.tmod_nonneg _ h
  have m2 : 2 * a.val + 2977044472 ≤ 0 → Int.tmod (2 * a.val + 2977044472) 5954088944 ≤ 0:=fun h=>by
    have:=Int.tmod_nonneg (b:=5954088944) (a:=-(2 * a.val + 2977044472)) (by omega)
    rw [Int.neg_tmod] at this
    omega
  have m3 : -5954088944 < Int.tmod (2 * a.val + 2977044472) 5954088944 ∧ Int.tmod (2 * a.val + 2977044472) 5954088944 < 5954088944:=by
    refine ⟨?_,Int.tmod_lt_of_pos _ (by decide)⟩
    have:=Int.tmod_lt_of_pos (b:=5954088944) (-(2 * a.val + 2977044472)) (by decide)
    rw [Int.neg_tmod] at this
    omega
  have em : (imod (w64 ((w64 (2 * a.val)).val + 2977044472)) 5954088944).val = Int.tmod (2 * a.val + 2977044472) 5954088944:=by rw [imod_val,e]
  refine ⟨_,rfl,?_⟩
  rw [em,e]
  generalize Int.tdiv (2 * a.val + 2977044472) 5954088944 = t at *
  generalize Int.tmod (2 * a.val + 2977044472) 5954088944 = r at *
  have et : (w64 t).val = t:=by rw [w64_val]; omega
  rw [et]
  have et1 : (w64 (t - 1)).val = t - 1:=by rw [w64_val]; omega
  have et2 : (w64 ((w64 (t * 2)).val * 2977044472)).val = t * 5954088944:=by simp only [w64_val]; omega
  rw [et1,et2]
  refine ⟨by omega,by omega,rfl,?_⟩
  by_cases hr : r < 0
  · left
    exact ⟨decide_eq_true (by omega),decide_eq_true hr,by omega,by omega⟩
  · right
    exact ⟨decide_eq_false (by omega),decide_eq_false hr,by omega,by omega⟩
theorem at8 {a : I64} (h : -1152921504606846976 < a.val ∧ a.val < 1152921504606846976) : I_at a = S_l08At a:=by
  unfold I_at S_l08At
  rw [bindP_e,Make_ok ⟨h.1,by omega,h.2⟩]
theorem exp_nest {r : Iv} (hr : Rest r) {c1 c2 c3 c4 c5 c6 c7 c8 c9 : I64} (h : ∀ c : I64,c = c1 ∨ c = c2 ∨ c = c3 ∨ c = c4 ∨ c = c5 ∨ c = c6 ∨ c = c7 ∨ c = c8 ∨ c = c9 → 1 ≤ c.val ∧ c.val ≤ 100) :
    Pos2 (S_AddI (S_Integer (c64 1)) (S_DivI (S_MulI r (S_AddI (S_Integer (c64 1)) (S_DivI (S_MulI r (S_AddI (S_Integer (c64 1)) (S_DivI (S_MulI r (S_AddI (S_Integer (c64 1)) (S_DivI (S_MulI r (S_AddI (S_Integer (c64 1)) (S_DivI (S_MulI r (S_AddI (S_Integer (c64 1)) (S_DivI (S_MulI r (S_AddI (S_Integer (c64 1)) (S_DivI (S_MulI r (S_AddI (S_Integer (c64 1)) (S_DivI (S_MulI r (S_AddI (S_Integer (c64 1)) (S_DivI (S_MulI r (S_Integer (c64 1))) (S_Integer c1)))) (S_Integer c2)))) (S_Integer c3)))) (S_Integer c4)))) (S_Integer c5)))) (S_Integer c6)))) (S_Integer c7)))) (S_Integer c8)))) (S_Integer c9))):=by
  refine exp_step hr (exp_step hr (exp_step hr (exp_step hr (exp_step hr (exp_step hr (exp_step hr (exp_step hr (exp_step hr one_pos2 ?_) ?_) ?_) ?_) ?_) ?_) ?_) ?_) ?_ <;> exact h _ (by simp)
theorem eq_ExpAt (a : I64) : I_ExpAt a = S_ExpAt a:=by
  unfold I_ExpAt S_ExpAt
  simp only [bindP_e,eq_ValidFix,eq_Whole,eq_LogTwoI,eq_SubI,eq_Integer,eq_MulI,eq_DivI,eq_AddI,eq_widened,eq_One8]
  cases ho : S_l03Ok a with
  | false=>simp only [Bool.not_false,cond_t]
  | true=>
    simp only [Bool.not_true,cond_f]
    by_cases g1 : a.val > 85899345920
    · rw [decide_eq_true g1,cond_t,cond_t]
    · by_cases g2 : a.val < -98784247808
      · rw [decide_eq_false g1,cond_f,cond_f,decide_eq_true g2,cond_t,cond_t]
      · rw [decide_eq_false g1,cond_f,cond_f,decide_eq_false g2,cond_f,cond_f,at8 (by omega)]
        obtain ⟨q,e,q1,q2,q3,h⟩:=exp_round a (by omega) (by omega)
        rw [e]
        rcases h with ⟨t1,t2,t3⟩ | ⟨t1,t2,t3⟩
        · rw [t1,t2,cond_t,cond_t]
          exact exp_end (exp_nest (exp_rest (k:=w64 (q.val - 1)) ⟨by omega,by omega⟩ (by rw [q3]; exact t3)) (by intro c hc; rcases hc with rfl | rfl | rfl | rfl | rfl | rfl | rfl | rfl | rfl <;> decide)) (by omega) (by omega)
        · rw [t1,t2,cond_f,cond_f]
          exact exp_end (exp_nest (exp_rest (k:=q) ⟨by omega,by omega⟩ t3) (by intro c hc; rcases hc with rfl | rfl | rfl | rfl | rfl | rfl | rfl | rfl | rfl <;> decide)) (by omega) (by omega)
def logEnd (e : I64) (m : Iv) : Iv:=
  bindP (S_DivI (S_SubI m (S_Integer (c64 1))) (S_AddI m (S_Integer (c64 1)))) fun z=>bindP (S_SqrI z) fun q=>
  S_AddI (S_LogTwoI e) (S_l08Widen (S_MulI (S_MulI (S_Integer (c64 2)) z)
    (S_AddI (S_Quotient (c64 1) (c64 1)) (S_MulI q (S_AddI (S_Quotient (c64 1) (c64 3)) (S_MulI q (S_AddI (S_Quotient (c64 1) (c64 5)) (S_MulI q (S_AddI (S_Quotient (c64 1) (c64 7)) (S_MulI q (S_AddI (S_Quotient (c64 1) (c64 9)) (S_MulI q (S_Quotient (c64 1) (c64 11))))))))))))) (c64 1))
theorem log_L1_end (fu : Nat) (a e : I64) (m : Iv) (h : ¬ m.lo.val < 3221225472) : S_LogAt_L1 (fu + 1) a e m = logEnd e m:=by
  unfold S_LogAt_L1 logEnd
  simp only [bindP_e,decide_eq_false h,cond_f,eq_One8]
theorem log_up (a : I64) (ha : 1 ≤ a.val) : ∀ (fu : Nat) (e : I64) (m : Iv),-1000 ≤ e.val → e.val ≤ 0 → m = ⟨ishl .i64 a.val (w64 (0 - e.val)).val,ishl .i64 a.val (w64 (0 - e.val)).val⟩ → a.val * 2 ^ (0 - e.val).toNat < 6442450944 → (64 + e.val).toNat < fu →
    ∃ q : I64,I_twosOf_L1 fu a e = q ∧ q.val ≤ 0 ∧ -40 ≤ q.val ∧ S_LogAt_L1 fu a e m = logEnd q ⟨ishl .i64 a.val (w64 (0 - q.val)).val,ishl .i64 a.val (w64 (0 - q.val)).val⟩ ∧ (ishl .i64 a.val (w64 (0 - q.val)).val).val < 6442450944 ∧ 0 ≤ (ishl .i64 a.val (w64 (0 - q.val)).val).val:=by
  intro fu
  induction fu with
  | zero=>intro e m _ _ _ _ h; exact absurd h (Nat.not_lt_zero _)
  | succ fu ih=>
    intro e m hl he hm hb hf
    have hu:=two_up a e hb ha he
    have hn : (w64 (0 - e.val)).val = 0 - e.val:=by rw [w64_val]; omega
    have hs:=shl_val_lo a e (w64 (0 - e.val)) hb ha he hn
    have hp : (0 : Int) ≤ a.val * 2 ^ (0 - e.val).toNat:=Int.mul_nonneg (by omega) (Int.le_of_lt (Int.pow_pos (by decide)))
    have hml : m.lo.val = a.val * 2 ^ (0 - e.val).toNat:=by rw [hm]; exact hs
    by_cases h : m.lo.val < 3221225472
    · have h1 : decide ((ishl .i64 a.val (w64 (0 - e.val)).val).val < 3221225472) = true:=decide_eq_true (by rw [hs]; omega)
      have e1 : (w64 (e.val - 1)).val = e.val - 1:=by rw [w64_val]; omega
      have e2 : I_twosOf_L1 (fu + 1) a e = I_twosOf_L1 fu a (w64 (e.val - 1)):=by
        rw [I_twosOf_L1,decide_eq_true he,cond_t,h1,cond_t]
      have e0 : (w64 (0 - (w64 (e.val - 1)).val)).val = 0 - (w64 (e.val - 1)).val:=by rw [e1,w64_val]; omega
      have e3 : S_LogAt_L1 (fu + 1) a e m = S_LogAt_L1 fu a (w64 (e.val - 1)) ⟨ishl .i64 a.val (w64 (0 - (w64 (e.val - 1)).val)).val,ishl .i64 a.val (w64 (0 - (w64 (e.val - 1)).val)).val⟩:=by
        rw [S_LogAt_L1,decide_eq_true h,cond_t,wu_nn (w64 (0 - (w64 (e.val - 1)).val)) (by rw [e0,e1]; omega)]
      rw [e2,e3]
      exact ih (w64 (e.val - 1)) _ (by omega) (by omega) rfl (by rw [e1,pow_step a.val e.val he]; omega) (by omega)
    · have h1 : decide ((ishl .i64 a.val (w64 (0 - e.val)).val).val < 3221225472) = false:=decide_eq_false (by rw [hs]; omega)
      refine ⟨e,?_,he,by omega,?_,by rw [hs]; exact hb,by rw [hs]; exact hp⟩
      · rw [I_twosOf_L1,decide_eq_true he,cond_t,h1,cond_f]
      · rw [log_L1_end _ _ _ _ h,hm]
def logM (a e : I64) : Iv:=bif decide (e.val > 0) then ⟨ishr a e.val,w64 (0 - (ishr (w64 (0 - a.val)) e.val).val)⟩ else ⟨ishl .i64 a.val (w64 (0 - e.val)).val,ishl .i64 a.val (w64 (0 - e.val)).val⟩
theorem logM_zero (a e : I64) (h : e.val = 0) : logM a e = ⟨a,a⟩:=by
  unfold logM
  have h0 : decide (e.val > 0) = false:=decide_eq_false (by omega)
  have e0 : (w64 (0 - e.val)).val = 0:=by rw [w64_val,h]; rfl
  have : ishl .i64 a.val 0 = a:=IK.eq (by
    show IntKind.i64.wrap (a.val * 2 ^ 0) = a.val
    rw [Int.pow_zero,Int.mul_one,IntKind.wrap_i64]
    have:=a.lo
    have:=a.hi
    omega)
  rw [h0,cond_f,e0,this]
theorem log_down (a : I64) (ha : 1 ≤ a.val) (ha2 : a.val ≤ 1152921504606846976) : ∀ (fu : Nat) (e : I64) (m : Iv),0 ≤ e.val → e.val ≤ 28 → m = logM a e → (e.val = 0 ∨ 3221225472 ≤ m.lo.val) → (64 - e.val).toNat < fu →
    ∃ q : I64,I_twosOf_L0 fu a e = q ∧ -40 ≤ q.val ∧ q.val ≤ 28 ∧ S_LogAt_L0 fu a e m = logEnd q (logM a q) ∧ (q.val ≤ 0 → -1152921504606846976 < (ishl .i64 a.val (w64 (0 - q.val)).val).val ∧ (ishl .i64 a.val (w64 (0 - q.val)).val).val < 1152921504606846976):=by
  intro fu
  induction fu with
  | zero=>intro e m _ _ _ _ h; exact absurd h (Nat.not_lt_zero _)
  | succ fu ih=>
    intro e m h0 h28 hm hc hf
    have hml : m.lo.val = (ishr a e.val).val:=by
      rw [hm]
      by_cases hz : e.val = 0
      · rw [logM_zero a e hz,hz,shr0']
      · unfold logM
        rw [decide_eq_true (by omega : e.val > 0),cond_t]
    by_cases h : m.lo.val ≥ 6442450944
    · have h1 : decide ((ishr a e.val).val ≥ 6442450944) = true:=decide_eq_true (by rw [← hml]; exact h)
      have b:=spec_shr_big a e m ha2 h0 (by omega) (by rw [wu_nn e h0]; exact hml) (decide_eq_true h)
      have e1 : (w64 (e.val + 1)).val = e.val + 1:=by rw [w64_val]; omega
      have e2 : I_twosOf_L0 (fu + 1) a e = I_twosOf_L0 fu a (w64 (e.val + 1)):=by rw [I_twosOf_L0,h1,cond_t]
      have hw:=wu_nn (w64 (e.val + 1)) (by omega)
      have e3 : S_LogAt_L0 (fu + 1) a e m = S_LogAt_L0 fu a (w64 (e.val + 1)) (logM a (w64 (e.val + 1))):=by
        rw [S_LogAt_L0,decide_eq_true h,cond_t,hw]
        unfold logM
        rw [decide_eq_true (by omega : (w64 (e.val + 1)).val > 0),cond_t]
      rw [e2,e3]
      refine ih (w64 (e.val + 1)) _ (by omega) (by omega) rfl (.inr ?_) (by omega)
      have b2:=b.2
      rw [hw] at b2
      unfold logM
      rw [decide_eq_true (by omega : (w64 (e.val + 1)).val > 0),cond_t]
      exact b2
    · have h1 : decide ((ishr a e.val).val ≥ 6442450944) = false:=decide_eq_false (by rw [← hml]; exact h)
      have e2 : I_twosOf_L0 (fu + 1) a e = I_twosOf_L1 ((64 + e.val).toNat + 1) a e:=by rw [I_twosOf_L0,h1,cond_f]
      have e3 : S_LogAt_L0 (fu + 1) a e m = S_LogAt_L1 ((64 + e.val).toNat + 1) a e m:=by rw [S_LogAt_L0,decide_eq_false h,cond_f]
      rw [e2,e3]
      by_cases hz : e.val = 0
      · have hma : m.lo.val = a.val:=by rw [hm,logM_zero a e hz]
        have hlt : a.val * 2 ^ (0 - e.val).toNat < 6442450944:=by
          rw [hz]
          show a.val * 2 ^ 0 < _
          rw [Int.pow_zero,Int.mul_one]
          omega
        have hmm : m = ⟨ishl .i64 a.val (w64 (0 - e.val)).val,ishl .i64 a.val (w64 (0 - e.val)).val⟩:=by
          rw [hm]
          unfold logM
          rw [decide_eq_false (by omega : ¬ e.val > 0),cond_f]
        obtain ⟨q,q1,q2,q3,q4,q5,q6⟩:=log_up a ha _ e m (by omega) (by omega) hmm hlt (Nat.lt_succ_self _)
        refine ⟨q,q1,q3,by omega,?_,fun _=>by omega⟩
        rw [q4]
        unfold logM
        rw [decide_eq_false (by omega : ¬ q.val > 0),cond_f]
      · refine ⟨e,?_,by omega,by omega,?_,fun h=>by omega⟩
        · rw [I_twosOf_L1,decide_eq_false (by omega : ¬ e.val ≤ 0),cond_f]
        · rw [log_L1_end _ _ _ _ (by omega),hm]
theorem eq_LogAt (a : I64) : I_LogAt a = S_LogAt a:=by
  unfold I_LogAt S_LogAt
  simp only [bindP_e,eq_ValidFix,eq_Whole]
  have hv:=sp_Ok3 a
  have hi:=sp_in a (c64 1) (c64 1152921504606846976)
  simp only [c64_v] at hi
  by_cases h1 : 1 ≤ a.val
  · by_cases h2 : a.val ≤ 1152921504606846976
    · have a0 : decide (a.val ≤ 0) = false:=decide_eq_false (by omega)
      rw [decide_eq_true h1,decide_eq_true h2] at hi
      rw [decide_eq_true (by omega : -1152921504606846976 ≤ a.val),decide_eq_true h2] at hv
      rw [hi,hv]
      simp only [Bool.and_true,Bool.not_true,cond_f,a0]
      obtain ⟨q,q1,q2,q3,q4,q5⟩:=log_down a h1 h2 ((64 - (c64 0).val).toNat + 1) (c64 0) ⟨a,a⟩ (by decide) (by decide) (logM_zero a (c64 0) (by rw [c64_v])).symm (.inl (by rw [c64_v])) (Nat.lt_succ_self _)
      rw [q4]
      unfold I_twosOf
      rw [q1]
      unfold logM logEnd
      simp only [bindP_e,eq_Integer,eq_SubI,eq_AddI,eq_DivI,eq_SqrI,eq_Quotient,eq_MulI,eq_LogTwoI,eq_widened]
      by_cases hq : q.val > 0
      · rw [decide_eq_true hq]
        simp only [cond_t]
      · rw [decide_eq_false hq]
        simp only [cond_f]
        have : ∀ n,I_at n = ⟨n,n⟩:=fun n=>rfl
        simp only [this]
    · rw [decide_eq_false h2,Bool.and_false] at hi hv
      rw [hi,hv]
      simp only [Bool.not_false,cond_t]
  · have a0 : decide (a.val ≤ 0) = true:=decide_eq_true (by omega)
    rw [decide_eq_false h1,Bool.false_and] at hi
    rw [hi]
    simp only [a0,Bool.not_false,cond_t]
    cases S_l03Ok a
    · rw [Bool.not_false,cond_t]
    · rw [Bool.not_true,cond_f]
theorem mono_eq (x : Iv) (f g : I64 → Iv) (h : S_l04Ok x = true → f x.lo = g x.lo ∧ f x.hi = g x.hi) :
    (bindP (I_IsWhole x) fun r1=>(bif r1 then bindP (I_Whole) fun r2=>r2 else bindP (f x.lo) fun r3=>bindP (f x.hi) fun r4=>bindP (I_areBounded r3 r4) fun r5=>(bif (!r5) then bindP (I_Whole) fun r6=>r6 else bindP (I_bounded r3.lo r4.hi true) fun r7=>r7))) =
    (bif (!S_l04Ok x) then S_l04Whole else S_l08Ends (g x.lo) (g x.hi)):=by
  unfold S_l08Ends
  simp only [bindP_e,eq_IsWhole,eq_Whole,eq_areBounded,eq_bounded]
  cases ho : S_l04Ok x with
  | false=>rw [Bool.not_false,cond_t,cond_t]
  | true=>
    obtain ⟨h1,h2⟩:=h ho
    rw [Bool.not_true,cond_f,cond_f,h1,h2]
    cases S_l04Ok (g x.lo)
    · simp only [Bool.false_and,Bool.not_false,cond_t]
    · simp only [Bool.true_and,Bool.not_true,cond_f]
theorem eq_LogI (x : Iv) : I_LogI x = S_LogI x:=by
  unfold I_LogI S_LogI I_monotonic__impl_LogAt
  rw [bindP_e,mono_eq x I_LogAt S_LogAt fun _=>⟨eq_LogAt _,eq_LogAt _⟩]
  simp only [bindP_e]
theorem eq_ExpI (x : Iv) : I_ExpI x = S_ExpI x:=by
  unfold I_ExpI S_ExpI I_monotonic__impl_ExpAt
  rw [bindP_e,mono_eq x I_ExpAt S_ExpAt fun _=>⟨eq_ExpAt _,eq_ExpAt _⟩]
  simp only [bindP_e]
theorem asinh_pos (f : I64 → Iv) (n : I64) (h0 : 0 ≤ n.val) (h1 : n.val < 1152921504606846976) : I_AsinhI_1 n = S_l08Asinh_b f n:=by
  unfold I_AsinhI_1 S_l08Asinh_b
  simp only [bindP_e,at8 ⟨by omega,h1⟩,eq_SqrI,eq_Integer,eq_AddI,eq_SqrtI,eq_LogI,eq_LogTwoI,eq_LogAt,eq_One8,decide_eq_false (by omega : ¬ n.val < 0),cond_f]
theorem eq_asinh (n : I64) (h0 : -1152921504606846976 < n.val) (h1 : n.val < 1152921504606846976) : I_odd_1__p_impl_AsinhI_1 n = S_l08Asinh n:=by
  unfold I_odd_1__p_impl_AsinhI_1 S_l08Asinh S_l08Asinh_r
  simp only [bindP_e,eq_NegI]
  by_cases h : n.val < 0
  · have en : (w64 (0 - n.val)).val = -n.val:=by rw [w64_val]; omega
    rw [decide_eq_true h,cond_t,asinh_pos (S_l08Asinh_r 0) (w64 (0 - n.val)) (by omega) (by omega)]
    rw [show S_l08Asinh_b (S_l08Asinh_r 1) n = S_NegI (S_l08Asinh_r 1 (w64 (0 - n.val))) by
      rw [S_l08Asinh_b]
      simp only [bindP_e,decide_eq_true h,cond_t]]
    rw [S_l08Asinh_r]
  · rw [decide_eq_false h,cond_f]
    exact asinh_pos _ n (by omega) h1
theorem eq_AsinhI (x : Iv) : I_AsinhI x = S_AsinhI x:=by
  unfold I_AsinhI S_AsinhI I_monotonic__impl_odd_1_p_impl_AsinhI_1
  rw [bindP_e,mono_eq x I_odd_1__p_impl_AsinhI_1 S_l08Asinh fun h=>by
    obtain ⟨h1,h2,h3⟩:=Ok4 h
    exact ⟨eq_asinh _ h1 (by omega),eq_asinh _ (by omega) h3⟩]
  simp only [bindP_e]
theorem eq_SinAt (n : I64) : I_SinAt n = S_SinAt n:=by
  unfold I_SinAt S_SinAt
  simp only [bindP_e,eq_circleValue]
theorem eq_CosAt (n : I64) : I_CosAt n = S_CosAt n:=by
  unfold I_CosAt S_CosAt
  simp only [bindP_e,eq_circleValue]
def tanEnd (a : Iv) : Iv:=S_HullI (S_DivI (S_SinAt a.lo) (S_CosAt a.lo)) (S_DivI (S_SinAt a.hi) (S_CosAt a.hi))
def isOdd (k : I64) : Bool:=(iand .i64 k.val 1).val == 1
theorem tan_any (L : List I64) (a : Iv) (hL : L.length ≤ 4000) : ∀ (fu : Nat) (i : I64) (y : Iv),0 ≤ i.val → ((L.length : Int) - i.val).toNat < fu → I_TanI_L0 fu L a i y = bif (L.drop i.val.toNat).any isOdd then S_l04Whole else tanEnd a:=by
  intro fu
  induction fu with
  | zero=>intro i y _ h; exact absurd h (Nat.not_lt_zero _)
  | succ fu ih=>
    intro i y hi hf
    unfold I_TanI_L0
    by_cases h : i.val < (L.length : Int)
    · have h' : i.val.toNat < L.length:=by omega
      have ei : (w64 (i.val + 1)).val = i.val + 1:=by rw [w64_val]; omega
      have hk : L.drop i.val.toNat = listAt L i :: L.drop (i.val.toNat + 1):=by
        rw [List.drop_eq_getElem_cons h']
        unfold listAt
        simp [List.getD,List.getElem?_eq_getElem h']
      have hn : (w64 (i.val + 1)).val.toNat = i.val.toNat + 1:=by rw [ei]; omega
      have ih':=fun y=>ih (w64 (i.val + 1)) y (by omega) (by omega)
      rw [hn] at ih'
      rw [hk,List.any_cons]
      simp only [h,decide_true,cond_t,bindP_e,eq_Whole,ih']
      generalize listAt L i = k
      unfold isOdd
      cases ((iand .i64 k.val 1).val == 1)
      · simp only [Bool.false_or,cond_f]
      · simp only [Bool.true_or,cond_t]
    · have : L.drop i.val.toNat = []:=List.drop_eq_nil_of_le (by omega)
      rw [this]
      unfold tanEnd
      simp only [h,decide_false,cond_f,List.any_nil,bindP_e,eq_SinAt,eq_CosAt,eq_DivI,eq_HullI]
theorem tan_spec (a : Iv) : ∀ (fu : Nat) (k : I64) (y : Iv),-1100 ≤ k.val → (2000 - k.val).toNat < fu → S_TanI_L0 fu a k y = bif (I_turnsIn_L0 fu a k []).any isOdd then S_l04Whole else tanEnd a:=by
  intro fu
  induction fu with
  | zero=>intro k y _ h; exact absurd h (Nat.not_lt_zero _)
  | succ fu ih=>
    intro k y hk hf
    have qb:=spec_quarter_bounds a.hi
    have hw : S_Whole = S_l04Whole:=Eq.trans rfl rfl
    unfold I_turnsIn_L0 S_TanI_L0
    simp only [bindP_e,eq_QuarterOf,eq_TurnI,eq_OverlapI,hw]
    generalize S_QuarterOf a.hi = q at *
    by_cases h : k.val ≤ (w64 (q.val + 1)).val
    · have h':=h
      rw [w64_val] at h'
      have ek : (w64 (k.val + 1)).val = k.val + 1:=by rw [w64_val]; omega
      have ih':=fun y=>ih (w64 (k.val + 1)) y (by omega) (by omega)
      simp only [h,decide_true,cond_t,ih']
      cases S_OverlapI (S_TurnI k) a
      · simp only [cond_f]
        cases ((iand .i64 k.val 1).val == 1)
        · rw [cond_f]
        · rw [cond_t]
      · simp only [cond_t]
        rw [turns_acc a fu (w64 (k.val + 1)) ([] ++ [k]),List.nil_append,List.any_append,List.any_cons,List.any_nil,Bool.or_false]
        unfold isOdd
        cases ((iand .i64 k.val 1).val == 1)
        · simp only [Bool.false_or,cond_f]
        · simp only [Bool.true_or,cond_t]
    · unfold tanEnd
      simp only [h,decide_false,cond_f,List.any_nil]
theorem eq_TanI (a : Iv) : I_TanI a = S_TanI a:=by
  have qb:=spec_quarter_bounds a.lo
  unfold I_TanI S_TanI I_turnsIn
  have hw : S_Whole = S_l04Whole:=Eq.trans rfl rfl
  simp only [bindP_e,eq_areAngles,eq_QuarterOf,eq_Whole,hw]
  cases S_l06Fits a
  · simp only [Bool.not_false,cond_t]
  · simp only [Bool.not_true,cond_f]
    generalize S_QuarterOf a.lo = q at *
    have ek : (w64 (q.val - 1)).val = q.val - 1:=by rw [w64_val]; omega
    have hl:=turns_len a ((2000 - (w64 (q.val - 1)).val).toNat + 1) (w64 (q.val - 1))
    rw [tan_any _ a (by omega) _ _ _ (by rw [c64_v]; omega) (by rw [c64_v]; omega)]
    have e0 : (c64 0).val.toNat = 0:=by rw [c64_v]; rfl
    rw [e0,List.drop_zero]
    exact (tan_spec a _ _ _ (by omega) (by omega)).symm
theorem eq_isometric (x : Iv) : I_isometricSphere x = S_l19Iso x:=by
  unfold I_isometricSphere S_l19Iso
  simp only [bindP_e,eq_TanI,eq_AsinhI]
theorem eq_cone (p : Pj) (o n g : Iv) : I_conic_cone__pCn ⟨p,S_RadiansOf p.lat1,S_RadiansOf p.lat2,o,n,g⟩ = S_l19Cone p:=by
  unfold I_conic_cone__pCn S_l19Cone
  simp only [bindP_e,eq_SinI,eq_CosI,eq_AddI,eq_HalfI,eq_LogI,eq_SubI,eq_isometric,eq_DivI]
theorem eq_constant (p : Pj) (b o n g : Iv) : I_conic_constant__pCn ⟨p,S_RadiansOf p.lat1,b,o,n,g⟩ = S_l19Constant p n:=by
  unfold I_conic_constant__pCn S_l19Constant
  simp only [bindP_e,eq_SinI,eq_CosI,eq_AddI,eq_SqrI,eq_times,eq_MulI,eq_ExpI,eq_isometric,eq_DivI]
def conicOf (p : Pj) : Cn:=⟨p,S_RadiansOf p.lat1,S_RadiansOf p.lat2,S_RadiansOf p.lat0,S_l19Cone p,S_l19Constant p (S_l19Cone p)⟩
theorem eq_newConic (p : Pj) : (S_l19Ok p = true ∧ I_newConic p = (conicOf p,c64 0)) ∨ (S_l19Ok p = false ∧ (I_newConic p).2 = c64 1):=by
  unfold I_newConic S_l19Ok I_isConic conicOf
  simp only [bindP_e,eq_l17Ok,eq_in,eq_RadiansOf,eq_cone,eq_constant]
  cases S_l17Ok p
  · right
    simp only [Bool.not_false,cond_t]
    cases S_l00In p.kind (c64 10) (c64 12)
    · exact ⟨cond_f _ _,trivial⟩
    · exact ⟨cond_t _ _,trivial⟩
  · simp only [Bool.not_true,cond_f]
    cases S_l00In p.kind (c64 10) (c64 12)
    · right
      simp only [Bool.not_false,cond_t,cond_f]
      exact ⟨trivial,trivial⟩
    · left
      simp only [Bool.not_true,cond_t,cond_f]
      exact ⟨trivial,trivial⟩
theorem known19 (x : Iv) : I_knownI x = S_l19Known x:=by
  unfold I_knownI S_l19Known
  simp only [bindP_e,eq_IsWhole]
end Go.Proofs.YtbipmdgocmdgdaaGreat.Abs
