/- The program's functions are these; part 2 (written by w.py). -/
import Derived.Test.YtcdkepbgjgcjfaaGreatTsE
import Derived.Test.YtcdkepbgjgcjfaaGreatTsF4
import Derived.Test.YtcdkepbgjgcjfaaGreatTsQpre
import Derived.Test.YtcdkepbgjgcjfaaGreatTsK1
set_option linter.unusedVariables false
set_option linter.unusedSimpArgs false
namespace Go.Proofs.YtcdkepbgjgcjfaaGreat.Abs
open Go Go.RowKit
theorem os_MeetI (a0 : Iv) (a1 : Iv) : Fun Tryz.prog 59 [] #[vIv a0,vIv a1] (vT_Iv_B (S_MeetI a0 a1)) []:=by
 refine Fun.ofH 400 E_ok mixed Tryz.func59 (by kernel_rfl) (by kernel_rfl) ?_
 unfold S_MeetI
 refine Run.q (e:=vB) (gv:=vT_Iv_B) (os_l04Ok _) fun r1 _=>?_
 refine Run.y (gv:=vT_Iv_B) (fun _=>?_) (fun _=>?_)
 ·refine Run.z [true] ?_
  refine Run.q (e:=vB) (gv:=vT_Iv_B) (os_l04Ok _) fun r2 _=>?_
  refine Run.z [true,true] ?_
  refine Run.y (gv:=vT_Iv_B) (fun _=>?_) (fun _=>?_)
  ·refine Run.q (e:=vIv) (gv:=vT_Iv_B) (os_l04Whole) fun r3 _=>?_
   exact Run.x 0
  ·refine Run.q (e:=vB) (gv:=vT_Iv_B) (os_l04Ok _) fun r4 _=>?_
   refine Run.y (gv:=vT_Iv_B) (fun _=>?_) (fun _=>?_)
   ·exact Run.x 0
   ·refine Run.q (e:=vB) (gv:=vT_Iv_B) (os_l04Ok _) fun r5 _=>?_
    refine Run.y (gv:=vT_Iv_B) (fun _=>?_) (fun _=>?_)
    ·exact Run.x 0
    ·refine Run.q (e:=vI) (gv:=vT_Iv_B) (os_l00Max _ _) fun r6 _=>?_
     refine Run.q (e:=vI) (gv:=vT_Iv_B) (os_l00Min _ _) fun r7 _=>?_
     refine Run.y (gv:=vT_Iv_B) (fun _=>?_) (fun _=>?_)
     ·exact Run.x 0
     ·exact Run.x 0
 ·refine Run.z [false,false,false,false] ?_
  refine Run.q (e:=vB) (gv:=vT_Iv_B) (os_l04Ok _) fun r8 _=>?_
  refine Run.y (gv:=vT_Iv_B) (fun _=>?_) (fun _=>?_)
  ·exact Run.x 0
  ·refine Run.q (e:=vB) (gv:=vT_Iv_B) (os_l04Ok _) fun r9 _=>?_
   refine Run.y (gv:=vT_Iv_B) (fun _=>?_) (fun _=>?_)
   ·exact Run.x 0
   ·refine Run.q (e:=vI) (gv:=vT_Iv_B) (os_l00Max _ _) fun r10 _=>?_
    refine Run.q (e:=vI) (gv:=vT_Iv_B) (os_l00Min _ _) fun r11 _=>?_
    refine Run.y (gv:=vT_Iv_B) (fun _=>?_) (fun _=>?_)
    ·exact Run.x 0
    ·exact Run.x 0
theorem os_l06Meet (a0 : Iv) : Fun Tryz.prog 256 [] #[vIv a0] (vIv (S_l06Meet a0)) []:=by
 refine Fun.ofH 400 E_ok mixed Tryz.func256 (by kernel_rfl) (by kernel_rfl) ?_
 unfold S_l06Meet
 refine Run.q (e:=vIv) (gv:=vIv) (os_l06Ring) fun r1 _=>?_
 refine Run.q (e:=vT_Iv_B) (gv:=vIv) (os_MeetI _ _) fun r2 _=>?_
 refine Run.y (gv:=vIv) (fun _=>?_) (fun _=>?_)
 ·refine Run.q (e:=vIv) (gv:=vIv) (os_l06Ring) fun r3 _=>?_
  exact Run.x 0
 ·exact Run.x 0
theorem os_CosSeries (a0 : Iv) : Fun Tryz.prog 258 [] #[vIv a0] (vIv (S_CosSeries a0)) []:=by
 refine Fun.ofH 400 E_ok mixed Tryz.func258 (by kernel_rfl) (by kernel_rfl) ?_
 unfold S_CosSeries
 refine Run.q (e:=vIv) (gv:=vIv) (os_l06Ring) fun r1 _=>?_
 refine Run.q (e:=vB) (gv:=vIv) (os_InsideI _ _) fun r2 _=>?_
 refine Run.y (gv:=vIv) (fun _=>?_) (fun _=>?_)
 ·refine Run.q (e:=vIv) (gv:=vIv) (os_Whole) fun r3 _=>?_
  exact Run.x 0
 ·refine Run.q (e:=vIv) (gv:=vIv) (os_SqrI _) fun r4 _=>?_
  refine Run.q (e:=vIv) (gv:=vIv) (os_l06Series _ _) fun r5 _=>?_
  refine Run.q (e:=vIv) (gv:=vIv) (os_l06Tiny) fun r6 _=>?_
  refine Run.q (e:=vIv) (gv:=vIv) (os_AddI _ _) fun r7 _=>?_
  exact Run.x 0
theorem os_l06At (a0 : I64) (a1 : I64) : Fun Tryz.prog 203 [] #[vI a0,vI a1] (vIv (S_l06At a0 a1)) []:=by
 refine Fun.ofH 400 E_ok mixed Tryz.func203 (by kernel_rfl) (by kernel_rfl) ?_
 unfold S_l06At
 refine Run.q (e:=vB) (gv:=vIv) (os_l06Angle _) fun r1 _=>?_
 refine Run.y (gv:=vIv) (fun _=>?_) (fun _=>?_)
 ·refine Run.q (e:=vIv) (gv:=vIv) (os_l06Ring) fun r2 _=>?_
  exact Run.x 0
 ·refine Run.q (e:=vI) (gv:=vIv) (os_QuarterOf _) fun r3 _=>?_
  refine Run.q (e:=vIv) (gv:=vIv) (os_l05At _) fun r4 _=>?_
  refine Run.q (e:=vIv) (gv:=vIv) (os_TurnI _) fun r5 _=>?_
  refine Run.q (e:=vIv) (gv:=vIv) (os_SubI _ _) fun r6 _=>?_
  refine Run.y (gv:=vIv) (fun _=>?_) (fun _=>?_)
  ·refine Run.q (e:=vIv) (gv:=vIv) (os_SinSeries _) fun r7 _=>?_
   refine Run.q (e:=vIv) (gv:=vIv) (os_l06Meet _) fun r8 _=>?_
   exact Run.x 0
  ·refine Run.y (gv:=vIv) (fun _=>?_) (fun _=>?_)
   ·refine Run.q (e:=vIv) (gv:=vIv) (os_CosSeries _) fun r9 _=>?_
    refine Run.q (e:=vIv) (gv:=vIv) (os_l06Meet _) fun r10 _=>?_
    exact Run.x 0
   ·refine Run.y (gv:=vIv) (fun _=>?_) (fun _=>?_)
    ·refine Run.q (e:=vIv) (gv:=vIv) (os_SinSeries _) fun r11 _=>?_
     refine Run.q (e:=vIv) (gv:=vIv) (os_NegI _) fun r12 _=>?_
     refine Run.q (e:=vIv) (gv:=vIv) (os_l06Meet _) fun r13 _=>?_
     exact Run.x 0
    ·refine Run.q (e:=vIv) (gv:=vIv) (os_CosSeries _) fun r14 _=>?_
     refine Run.q (e:=vIv) (gv:=vIv) (os_NegI _) fun r15 _=>?_
     refine Run.q (e:=vIv) (gv:=vIv) (os_l06Meet _) fun r16 _=>?_
     exact Run.x 0
theorem os_HullI (a0 : Iv) (a1 : Iv) : Fun Tryz.prog 202 [] #[vIv a0,vIv a1] (vIv (S_HullI a0 a1)) []:=by
 refine Fun.ofH 400 E_ok mixed Tryz.func202 (by kernel_rfl) (by kernel_rfl) ?_
 unfold S_HullI
 refine Run.q (e:=vB) (gv:=vIv) (os_l04Ok _) fun r1 _=>?_
 refine Run.y (gv:=vIv) (fun _=>?_) (fun _=>?_)
 ·refine Run.z [true,true,true,true] ?_
  refine Run.q (e:=vIv) (gv:=vIv) (os_l04Whole) fun r2 _=>?_
  exact Run.x 0
 ·refine Run.z [false] ?_
  refine Run.q (e:=vB) (gv:=vIv) (os_l04Ok _) fun r3 _=>?_
  refine Run.z [false,false] ?_
  refine Run.y (gv:=vIv) (fun _=>?_) (fun _=>?_)
  ·refine Run.q (e:=vIv) (gv:=vIv) (os_l04Whole) fun r4 _=>?_
   exact Run.x 0
  ·refine Run.q (e:=vI) (gv:=vIv) (os_l00Min _ _) fun r5 _=>?_
   refine Run.q (e:=vI) (gv:=vIv) (os_l00Max _ _) fun r6 _=>?_
   refine Run.q (e:=vIv) (gv:=vIv) (os_l04Make _ _) fun r7 _=>?_
   exact Run.x 0
theorem os_OverlapI (a0 : Iv) (a1 : Iv) : Fun Tryz.prog 10 [] #[vIv a0,vIv a1] (vB (S_OverlapI a0 a1)) []:=by
 refine Fun.ofH 400 E_ok mixed Tryz.func10 (by kernel_rfl) (by kernel_rfl) ?_
 unfold S_OverlapI
 refine Run.q (e:=vT_Iv_B) (gv:=vB) (os_MeetI _ _) fun r1 _=>?_
 exact Run.x 0
theorem os_l06Over_L0 : ∀ (fu : Nat) (a1 : I64) (a0 : Iv) (x_k : I64) (y_2 : Iv) (hm : (2000 - x_k.val).toNat < fu) (t : Array Value) (ht : maskA t [0,3,7,8,9,10,11,12,13,14,15,16,17,18,19,20,21,22,23,24,25,26,27,28,29,30,31,32,33,34,35,36,37,38,39,40,41,42,43,44,45,46,47,48,49,50,51] = #[undef,.int .i64 a1.val,.pointer (some ⟨0,0,none⟩),undef,.pointer (some ⟨1,0,none⟩),.pointer (some ⟨2,0,none⟩),.int .i64 x_k.val,undef,undef,undef,undef,undef,undef,undef,undef,undef,undef,undef,undef,undef,undef,undef,undef,undef,undef,undef,undef,undef,undef,undef,undef,undef,undef,undef,undef,undef,undef,undef,undef,undef,undef,undef,undef,undef,undef,undef,undef,undef,undef,undef,undef,undef]),Cfg Tryz.prog 112 (loopAt Tryz.f112 0) t [(#[.int .i64 a0.lo.val,.int .i64 a0.hi.val],31),(#[.int .i64 0,.int .i64 0],31),(#[.int .i64 y_2.lo.val,.int .i64 y_2.hi.val],31)] (RvH [] (vIv (S_l06Over_L0 fu a1 a0 x_k y_2))):=by
 intro fu
 induction fu with
 | zero=>intro a1 a0 x_k y_2 hm; exact absurd hm (Nat.not_lt_zero _)
 | succ fu ih=>
  intro a1 a0 x_k y_2 hm t ht
  refine Cfg.round E_ok mixed Tryz.func112 ht fun g=>?_
  unfold S_l06Over_L0
  refine Run.q (e:=vI) (gv:=vIv) (os_QuarterOf _) fun r8 hr8=>?_
  refine Run.y (gv:=vIv) (fun h9=>?_) (fun h9=>?_)
  ·refine Run.q (e:=vIv) (gv:=vIv) (os_TurnI _) fun r10 hr10=>?_
   refine Run.q (e:=vB) (gv:=vIv) (os_OverlapI _ _) fun r11 hr11=>?_
   refine Run.y (gv:=vIv) (fun h12=>?_) (fun h12=>?_)
   ·exact Run.l (by kernel_rfl) (by kernel_rfl) (by kernel_rfl) (by kernel_rfl) (ih a1 a0 (w64 (x_k.val + 1)) y_2 (by have q1:=x_k.lo; first | exact Nat.lt_succ_self _ | (have q2:=spec_quarter_le a0.hi; have q3:=spec_quarter_ge a0.hi; simp only [w64_val,decide_eq_true_eq,decide_eq_false_iff_not, *] at *; omega)))
   ·refine Run.y (gv:=vIv) (fun h13=>?_) (fun h13=>?_)
    ·refine Run.q (e:=vIv) (gv:=vIv) (os_Integer _) fun r14 hr14=>?_
     refine Run.q (e:=vIv) (gv:=vIv) (os_HullI _ _) fun r15 hr15=>?_
     exact Run.l (by kernel_rfl) (by kernel_rfl) (by kernel_rfl) (by kernel_rfl) (ih a1 a0 (w64 (x_k.val + 1)) r15 (by have q1:=x_k.lo; first | exact Nat.lt_succ_self _ | (have q2:=spec_quarter_le a0.hi; have q3:=spec_quarter_ge a0.hi; simp only [w64_val,decide_eq_true_eq,decide_eq_false_iff_not, *] at *; omega)))
    ·refine Run.y (gv:=vIv) (fun h16=>?_) (fun h16=>?_)
     ·refine Run.q (e:=vIv) (gv:=vIv) (os_Integer _) fun r17 hr17=>?_
      refine Run.q (e:=vIv) (gv:=vIv) (os_HullI _ _) fun r18 hr18=>?_
      exact Run.l (by kernel_rfl) (by kernel_rfl) (by kernel_rfl) (by kernel_rfl) (ih a1 a0 (w64 (x_k.val + 1)) r18 (by have q1:=x_k.lo; first | exact Nat.lt_succ_self _ | (have q2:=spec_quarter_le a0.hi; have q3:=spec_quarter_ge a0.hi; simp only [w64_val,decide_eq_true_eq,decide_eq_false_iff_not, *] at *; omega)))
     ·exact Run.l (by kernel_rfl) (by kernel_rfl) (by kernel_rfl) (by kernel_rfl) (ih a1 a0 (w64 (x_k.val + 1)) y_2 (by have q1:=x_k.lo; first | exact Nat.lt_succ_self _ | (have q2:=spec_quarter_le a0.hi; have q3:=spec_quarter_ge a0.hi; simp only [w64_val,decide_eq_true_eq,decide_eq_false_iff_not, *] at *; omega)))
  ·exact Run.x 0
theorem os_l06Over (a0 : Iv) (a1 : I64) : Fun Tryz.prog 112 [] #[vIv a0,vI a1] (vIv (S_l06Over a0 a1)) []:=by
 refine Fun.ofH 400 E_ok mixed Tryz.func112 (by kernel_rfl) (by kernel_rfl) ?_
 unfold S_l06Over
 refine Run.q (e:=vB) (gv:=vIv) (os_l06Fits _) fun r1 hr1=>?_
 refine Run.y (gv:=vIv) (fun h2=>?_) (fun h2=>?_)
 ·refine Run.q (e:=vIv) (gv:=vIv) (os_l06Ring) fun r3 hr3=>?_
  exact Run.x 0
 ·refine Run.q (e:=vIv) (gv:=vIv) (os_l06At _ _) fun r4 hr4=>?_
  refine Run.q (e:=vIv) (gv:=vIv) (os_l06At _ _) fun r5 hr5=>?_
  refine Run.q (e:=vIv) (gv:=vIv) (os_HullI _ _) fun r6 hr6=>?_
  refine Run.q (e:=vI) (gv:=vIv) (os_QuarterOf _) fun r7 hr7=>?_
  exact Run.l (by kernel_rfl) (by kernel_rfl) (by kernel_rfl) (by kernel_rfl) (os_l06Over_L0 ((2000 - (w64 (r7.val - 1)).val).toNat + 1) a1 a0 (w64 (r7.val - 1)) r6 (by exact Nat.lt_succ_self _))
theorem os_CosI (a0 : Iv) : Fun Tryz.prog 123 [] #[vIv a0] (vIv (S_CosI a0)) []:=by
 refine Fun.ofH 400 E_ok mixed Tryz.func123 (by kernel_rfl) (by kernel_rfl) ?_
 unfold S_CosI
 refine Run.q (e:=vIv) (gv:=vIv) (os_l06Over _ _) fun r1 _=>?_
 exact Run.x 0
theorem os_l21Turn__pPj (b0 : Pj) (a0 : Pt) : Fun Tryz.prog 219 [(#[.int .i64 b0.kind.val,.int .i64 b0.lat0.val,.int .i64 b0.lon0.val,.int .i64 b0.lat1.val,.int .i64 b0.lat2.val],25)] #[.pointer (some ⟨0,0,none⟩),vPt a0] (vIv (S_l21Turn__pPj b0 a0)) [(#[.int .i64 b0.kind.val,.int .i64 b0.lat0.val,.int .i64 b0.lon0.val,.int .i64 b0.lat1.val,.int .i64 b0.lat2.val],25)]:=by
 refine Fun.ofH 400 E_ok mixed Tryz.func219 (by kernel_rfl) (by kernel_rfl) ?_
 unfold S_l21Turn__pPj
 refine Run.q (e:=vI) (gv:=vIv) (os_l11Wrap _) fun r1 _=>?_
 refine Run.q (e:=vIv) (gv:=vIv) (os_RadiansOf _) fun r2 _=>?_
 exact Run.x 1
theorem os_SinI (a0 : Iv) : Fun Tryz.prog 29 [] #[vIv a0] (vIv (S_SinI a0)) []:=by
 refine Fun.ofH 400 E_ok mixed Tryz.func29 (by kernel_rfl) (by kernel_rfl) ?_
 unfold S_SinI
 refine Run.q (e:=vIv) (gv:=vIv) (os_l06Over _ _) fun r1 _=>?_
 exact Run.x 0
theorem os_l21Side__pPj (b0 : Pj) (a0 : Pt) : Fun Tryz.prog 218 [(#[.int .i64 b0.kind.val,.int .i64 b0.lat0.val,.int .i64 b0.lon0.val,.int .i64 b0.lat1.val,.int .i64 b0.lat2.val],25)] #[.pointer (some ⟨0,0,none⟩),vPt a0] (vIv (S_l21Side__pPj b0 a0)) [(#[.int .i64 b0.kind.val,.int .i64 b0.lat0.val,.int .i64 b0.lon0.val,.int .i64 b0.lat1.val,.int .i64 b0.lat2.val],25)]:=by
 refine Fun.ofH 400 E_ok mixed Tryz.func218 (by kernel_rfl) (by kernel_rfl) ?_
 unfold S_l21Side__pPj
 refine Run.q (e:=vIv) (gv:=vIv) (os_RadiansOf _) fun r1 _=>?_
 refine Run.q (e:=vIv) (gv:=vIv) (os_CosI _) fun r2 _=>?_
 refine Run.w (e:=vIv) (gv:=vIv) [0] (os_l21Turn__pPj _ _) fun r3 _=>?_
 refine Run.q (e:=vIv) (gv:=vIv) (os_SinI _) fun r4 _=>?_
 refine Run.q (e:=vIv) (gv:=vIv) (os_MulI _ _) fun r5 _=>?_
 exact Run.x 1
theorem os_l08At (a0 : I64) : Fun Tryz.prog 303 [] #[vI a0] (vIv (S_l08At a0)) []:=by
 refine Fun.ofH 400 E_ok mixed Tryz.func303 (by kernel_rfl) (by kernel_rfl) ?_
 unfold S_l08At
 refine Run.q (e:=vIv) (gv:=vIv) (os_l04Make _ _) fun r1 _=>?_
 exact Run.x 0
theorem os_l08One : Fun Tryz.prog 323 [] #[] (vIv (S_l08One)) []:=by
 refine Fun.ofH 400 E_ok mixed Tryz.func323 (by kernel_rfl) (by kernel_rfl) ?_
 unfold S_l08One
 refine Run.q (e:=vIv) (gv:=vIv) (os_l08At _) fun r1 _=>?_
 exact Run.x 0
theorem os_l03Floor (a0 : I64) (a1 : I64) : Fun Tryz.prog 328 [] #[vI a0,vI a1] (vT_I_B (S_l03Floor a0 a1)) []:=by
 refine Fun.ofH 400 E_ok mixed Tryz.func328 (by kernel_rfl) (by kernel_rfl) ?_
 unfold S_l03Floor
 refine Run.y (gv:=vT_I_B) (fun _=>?_) (fun _=>?_)
 ·exact Run.x 0
 ·refine Run.q (e:=vT_I_B) (gv:=vT_I_B) (os_MulDivFloor _ _ _) fun r1 _=>?_
  refine Run.q (e:=vT_I_B) (gv:=vT_I_B) (os_l03End _ _) fun r2 _=>?_
  exact Run.x 0
theorem os_l03Ceil (a0 : I64) (a1 : I64) : Fun Tryz.prog 329 [] #[vI a0,vI a1] (vT_I_B (S_l03Ceil a0 a1)) []:=by
 refine Fun.ofH 400 E_ok mixed Tryz.func329 (by kernel_rfl) (by kernel_rfl) ?_
 unfold S_l03Ceil
 refine Run.y (gv:=vT_I_B) (fun _=>?_) (fun _=>?_)
 ·exact Run.x 0
 ·refine Run.q (e:=vT_I_B) (gv:=vT_I_B) (os_MulDivFloor _ _ _) fun r1 _=>?_
  refine Run.y (gv:=vT_I_B) (fun _=>?_) (fun _=>?_)
  ·exact Run.x 0
  ·refine Run.y (gv:=vT_I_B) (fun _=>?_) (fun _=>?_)
   ·refine Run.q (e:=vT_I_B) (gv:=vT_I_B) (os_l03End _ _) fun r2 _=>?_
    exact Run.x 0
   ·refine Run.q (e:=vT_I_B) (gv:=vT_I_B) (os_l03End _ _) fun r3 _=>?_
    exact Run.x 0
theorem os_Quotient (a0 : I64) (a1 : I64) : Fun Tryz.prog 324 [] #[vI a0,vI a1] (vIv (S_Quotient a0 a1)) []:=by
 refine Fun.ofH 400 E_ok mixed Tryz.func324 (by kernel_rfl) (by kernel_rfl) ?_
 unfold S_Quotient
 refine Run.y (gv:=vIv) (fun _=>?_) (fun _=>?_)
 ·refine Run.y (gv:=vIv) (fun _=>?_) (fun _=>?_)
  ·refine Run.z [true,true,true] ?_
   refine Run.q (e:=vIv) (gv:=vIv) (os_l04Whole) fun r1 _=>?_
   exact Run.x 0
  ·refine Run.z [false,false] ?_
   refine Run.y (gv:=vIv) (fun _=>?_) (fun _=>?_)
   ·refine Run.q (e:=vIv) (gv:=vIv) (os_l04Whole) fun r2 _=>?_
    exact Run.x 0
   ·refine Run.q (e:=vT_I_B) (gv:=vIv) (os_l03Floor _ _) fun r3 _=>?_
    refine Run.q (e:=vT_I_B) (gv:=vIv) (os_l03Ceil _ _) fun r4 _=>?_
    refine Run.y (gv:=vIv) (fun _=>?_) (fun _=>?_)
    ·refine Run.z [true,true,true] ?_
     refine Run.q (e:=vIv) (gv:=vIv) (os_l04Whole) fun r5 _=>?_
     exact Run.x 0
    ·refine Run.z [false,false] ?_
     refine Run.y (gv:=vIv) (fun _=>?_) (fun _=>?_)
     ·refine Run.q (e:=vIv) (gv:=vIv) (os_l04Whole) fun r6 _=>?_
      exact Run.x 0
     ·refine Run.q (e:=vIv) (gv:=vIv) (os_l04Make _ _) fun r7 _=>?_
      exact Run.x 0
 ·refine Run.q (e:=vT_I_B) (gv:=vIv) (os_l03Floor _ _) fun r8 _=>?_
  refine Run.q (e:=vT_I_B) (gv:=vIv) (os_l03Ceil _ _) fun r9 _=>?_
  refine Run.y (gv:=vIv) (fun _=>?_) (fun _=>?_)
  ·refine Run.z [true,true,true] ?_
   refine Run.q (e:=vIv) (gv:=vIv) (os_l04Whole) fun r10 _=>?_
   exact Run.x 0
  ·refine Run.z [false,false] ?_
   refine Run.y (gv:=vIv) (fun _=>?_) (fun _=>?_)
   ·refine Run.q (e:=vIv) (gv:=vIv) (os_l04Whole) fun r11 _=>?_
    exact Run.x 0
   ·refine Run.q (e:=vIv) (gv:=vIv) (os_l04Make _ _) fun r12 _=>?_
    exact Run.x 0
theorem os_l08Widen (a0 : Iv) (a1 : I64) : Fun Tryz.prog 325 [] #[vIv a0,vI a1] (vIv (S_l08Widen a0 a1)) []:=by
 refine Fun.ofH 400 E_ok mixed Tryz.func325 (by kernel_rfl) (by kernel_rfl) ?_
 unfold S_l08Widen
 refine Run.q (e:=vB) (gv:=vIv) (os_l04Ok _) fun r1 _=>?_
 refine Run.y (gv:=vIv) (fun _=>?_) (fun _=>?_)
 ·refine Run.q (e:=vIv) (gv:=vIv) (os_l04Whole) fun r2 _=>?_
  exact Run.x 0
 ·refine Run.q (e:=vIv) (gv:=vIv) (os_l04Make _ _) fun r3 _=>?_
  exact Run.x 0
theorem os_LogTwoI_r : ∀ (fu : Nat) (a0 : I64) (hm : min (0 - a0.val).toNat 1 < fu),Fun Tryz.prog 326 [] #[vI a0] (vIv (S_LogTwoI_r fu a0)) []:=by
 intro fu
 induction fu with
 | zero=>intro a0 hm; exact absurd hm (Nat.not_lt_zero _)
 | succ fu ih=>
  intro a0 hm
  refine Fun.ofH 400 E_ok mixed Tryz.func326 (by kernel_rfl) (by kernel_rfl) ?_
  unfold S_LogTwoI_r
  unfold S_LogTwoI_b
  refine Run.q (e:=vB) (gv:=vIv) (os_l00In _ _ _) fun r1 hr1=>?_
  refine Run.y (gv:=vIv) (fun h2=>?_) (fun h2=>?_)
  ·refine Run.q (e:=vIv) (gv:=vIv) (os_l04Whole) fun r3 hr3=>?_
   exact Run.x 0
  ·refine Run.y (gv:=vIv) (fun h4=>?_) (fun h4=>?_)
   ·refine Run.q (e:=vIv) (gv:=vIv) (ih (w64 (0 - a0.val)) (by rw [hr1] at h2; simp [S_l00In,c64_val] at h2; simp only [w64_val,decide_eq_true_eq,decide_eq_false_iff_not] at *; omega)) fun r5 hr5=>?_
    refine Run.q (e:=vIv) (gv:=vIv) (os_NegI _) fun r6 hr6=>?_
    exact Run.x 0
   ·refine Run.q (e:=vT_I_B) (gv:=vIv) (os_MulFloor _ _ _) fun r7 hr7=>?_
    refine Run.q (e:=vT_I_B) (gv:=vIv) (os_MulFloor _ _ _) fun r8 hr8=>?_
    refine Run.q (e:=vIv) (gv:=vIv) (os_l04Make _ _) fun r9 hr9=>?_
    exact Run.x 0
theorem os_LogTwoI (a0 : I64) : Fun Tryz.prog 326 [] #[vI a0] (vIv (S_LogTwoI a0)) []:=os_LogTwoI_r 2 a0 (by omega)
theorem os_LogAt_L1 : ∀ (fu : Nat) (a0 : I64) (x_e : I64) (y_1 : Iv) (q0 : 1 ≤ a0.val) (q1 : a0.val ≤ 1152921504606846976) (q2 : -1000 ≤ x_e.val) (q3 : (x_e.val ≤ 0 ∧ y_1.lo.val = a0.val * 2 ^ (0 - x_e.val).toNat ∧ y_1.lo.val < 6442450944) ∨ 3221225472 ≤ y_1.lo.val) (hm : (64 + x_e.val).toNat < fu) (t : Array Value) (ht : maskA t [1,5,6,7,8,9,10,11,12,13,14,15,16,17,18,19,20,21,22,23,24,25,26,27,28,29,30,31,32,33,34,35,36,37,38,39,40,41,42,43,44,45,46,47,48,49,50,51,52,53,54,55,56,57,58,59,60,61,62,63,64,65,66,67,68,69,70,71,72,73,74,75,76,77,78] = #[.int .i64 a0.val,undef,.pointer (some ⟨0,0,none⟩),.int .i64 x_e.val,.pointer (some ⟨1,0,none⟩),undef,undef,undef,undef,undef,undef,undef,undef,undef,undef,undef,undef,undef,undef,undef,undef,undef,undef,undef,undef,undef,undef,undef,undef,undef,undef,undef,undef,undef,undef,undef,undef,undef,undef,undef,undef,undef,undef,undef,undef,undef,undef,undef,undef,undef,undef,undef,undef,undef,undef,undef,undef,undef,undef,undef,undef,undef,undef,undef,undef,undef,undef,undef,undef,undef,undef,undef,undef,undef,undef,undef,undef,undef,undef]),Cfg Tryz.prog 317 (loopAt Tryz.f317 1) t [(#[.int .i64 0,.int .i64 0],31),(#[.int .i64 y_1.lo.val,.int .i64 y_1.hi.val],31)] (RvH [] (vIv (S_LogAt_L1 fu a0 x_e y_1))):=by
 intro fu
 induction fu with
 | zero=>intro a0 x_e y_1 q0 q1 q2 q3 hm; exact absurd hm (Nat.not_lt_zero _)
 | succ fu ih=>
  intro a0 x_e y_1 q0 q1 q2 q3 hm t ht
  refine Cfg.round E_ok mixed Tryz.func317 ht fun g=>?_
  unfold S_LogAt_L1
  refine Run.y (gv:=vIv) (fun h5=>?_) (fun h5=>?_)
  ·refine Run.k (c:=(decide (0 ≤ (wu64 (w64 (0 - (w64 (x_e.val - 1)).val)).val).val))) (by kernel_rfl) (by exact decide_eq_true (U64.lo _)) ?_
   refine Run.k (c:=(decide (0 ≤ (wu64 (w64 (0 - (w64 (x_e.val - 1)).val)).val).val))) (by kernel_rfl) (by exact decide_eq_true (U64.lo _)) ?_
   exact Run.l (by kernel_rfl) (by kernel_rfl) (by kernel_rfl) (by kernel_rfl) (ih a0 (w64 (x_e.val - 1)) (⟨(ishl .i64 a0.val (wu64 (w64 (0 - (w64 (x_e.val - 1)).val)).val).val),(ishl .i64 a0.val (wu64 (w64 (0 - (w64 (x_e.val - 1)).val)).val).val)⟩ : Iv) (by first | exact q0 | exact q1 | exact Nat.lt_succ_self _ | (have z:=spec_two_less a0 x_e y_1 q0 q2 q3 h5; first | exact .inl z.2.2 | (simp only [w64_val]; omega))) (by first | exact q0 | exact q1 | exact Nat.lt_succ_self _ | (have z:=spec_two_less a0 x_e y_1 q0 q2 q3 h5; first | exact .inl z.2.2 | (simp only [w64_val]; omega))) (by first | exact q0 | exact q1 | exact Nat.lt_succ_self _ | (have z:=spec_two_less a0 x_e y_1 q0 q2 q3 h5; first | exact .inl z.2.2 | (simp only [w64_val]; omega))) (by first | exact q0 | exact q1 | exact Nat.lt_succ_self _ | (have z:=spec_two_less a0 x_e y_1 q0 q2 q3 h5; first | exact .inl z.2.2 | (simp only [w64_val]; omega))) (by first | exact q0 | exact q1 | exact Nat.lt_succ_self _ | (have z:=spec_two_less a0 x_e y_1 q0 q2 q3 h5; first | exact .inl z.2.2 | (simp only [w64_val]; omega))))
  ·refine Run.q (e:=vIv) (gv:=vIv) (os_l08One) fun r6 hr6=>?_
   refine Run.q (e:=vIv) (gv:=vIv) (os_SubI _ _) fun r7 hr7=>?_
   refine Run.q (e:=vIv) (gv:=vIv) (os_l08One) fun r8 hr8=>?_
   refine Run.q (e:=vIv) (gv:=vIv) (os_AddI _ _) fun r9 hr9=>?_
   refine Run.q (e:=vIv) (gv:=vIv) (os_DivI _ _) fun r10 hr10=>?_
   refine Run.q (e:=vIv) (gv:=vIv) (os_SqrI _) fun r11 hr11=>?_
   refine Run.q (e:=vIv) (gv:=vIv) (os_Quotient _ _) fun r12 hr12=>?_
   refine Run.u 400 E_ok mixed Tryz.func317 ?_
   refine Run.z [true] ?_
   refine Run.q (e:=vIv) (gv:=vIv) (os_Quotient _ _) fun r13 hr13=>?_
   refine Run.q (e:=vIv) (gv:=vIv) (os_MulI _ _) fun r14 hr14=>?_
   refine Run.q (e:=vIv) (gv:=vIv) (os_AddI _ _) fun r15 hr15=>?_
   refine Run.u 400 E_ok mixed Tryz.func317 ?_
   refine Run.z [true] ?_
   refine Run.q (e:=vIv) (gv:=vIv) (os_Quotient _ _) fun r16 hr16=>?_
   refine Run.q (e:=vIv) (gv:=vIv) (os_MulI _ _) fun r17 hr17=>?_
   refine Run.q (e:=vIv) (gv:=vIv) (os_AddI _ _) fun r18 hr18=>?_
   refine Run.u 400 E_ok mixed Tryz.func317 ?_
   refine Run.z [true] ?_
   refine Run.q (e:=vIv) (gv:=vIv) (os_Quotient _ _) fun r19 hr19=>?_
   refine Run.q (e:=vIv) (gv:=vIv) (os_MulI _ _) fun r20 hr20=>?_
   refine Run.q (e:=vIv) (gv:=vIv) (os_AddI _ _) fun r21 hr21=>?_
   refine Run.u 400 E_ok mixed Tryz.func317 ?_
   refine Run.z [true] ?_
   refine Run.q (e:=vIv) (gv:=vIv) (os_Quotient _ _) fun r22 hr22=>?_
   refine Run.q (e:=vIv) (gv:=vIv) (os_MulI _ _) fun r23 hr23=>?_
   refine Run.q (e:=vIv) (gv:=vIv) (os_AddI _ _) fun r24 hr24=>?_
   refine Run.u 400 E_ok mixed Tryz.func317 ?_
   refine Run.z [true] ?_
   refine Run.q (e:=vIv) (gv:=vIv) (os_Quotient _ _) fun r25 hr25=>?_
   refine Run.q (e:=vIv) (gv:=vIv) (os_MulI _ _) fun r26 hr26=>?_
   refine Run.q (e:=vIv) (gv:=vIv) (os_AddI _ _) fun r27 hr27=>?_
   refine Run.u 400 E_ok mixed Tryz.func317 ?_
   refine Run.z [false] ?_
   refine Run.q (e:=vIv) (gv:=vIv) (os_Integer _) fun r28 hr28=>?_
   refine Run.q (e:=vIv) (gv:=vIv) (os_MulI _ _) fun r29 hr29=>?_
   refine Run.q (e:=vIv) (gv:=vIv) (os_MulI _ _) fun r30 hr30=>?_
   refine Run.q (e:=vIv) (gv:=vIv) (os_l08Widen _ _) fun r31 hr31=>?_
   refine Run.q (e:=vIv) (gv:=vIv) (os_LogTwoI _) fun r32 hr32=>?_
   refine Run.q (e:=vIv) (gv:=vIv) (os_AddI _ _) fun r33 hr33=>?_
   exact Run.x 0
theorem os_LogAt_L0 : ∀ (fu : Nat) (a0 : I64) (x_e : I64) (y_1 : Iv) (q0 : 1 ≤ a0.val) (q1 : a0.val ≤ 1152921504606846976) (q2 : 0 ≤ x_e.val ∧ x_e.val ≤ 40) (q3 : y_1.lo.val = (ishr a0 (wu64 x_e.val).val).val) (q4 : x_e.val = 0 ∨ 3221225472 ≤ y_1.lo.val) (hm : (64 - x_e.val).toNat < fu) (t : Array Value) (ht : maskA t [1,5,6,7,8,9,10,11,12,13,14,15,16,17,18,19,20,21,22,23,24,25,26,27,28,29,30,31,32,33,34,35,36,37,38,39,40,41,42,43,44,45,46,47,48,49,50,51,52,53,54,55,56,57,58,59,60,61,62,63,64,65,66,67,68,69,70,71,72,73,74,75,76,77,78] = #[.int .i64 a0.val,undef,.pointer (some ⟨0,0,none⟩),.int .i64 x_e.val,.pointer (some ⟨1,0,none⟩),undef,undef,undef,undef,undef,undef,undef,undef,undef,undef,undef,undef,undef,undef,undef,undef,undef,undef,undef,undef,undef,undef,undef,undef,undef,undef,undef,undef,undef,undef,undef,undef,undef,undef,undef,undef,undef,undef,undef,undef,undef,undef,undef,undef,undef,undef,undef,undef,undef,undef,undef,undef,undef,undef,undef,undef,undef,undef,undef,undef,undef,undef,undef,undef,undef,undef,undef,undef,undef,undef,undef,undef,undef,undef]),Cfg Tryz.prog 317 (loopAt Tryz.f317 0) t [(#[.int .i64 0,.int .i64 0],31),(#[.int .i64 y_1.lo.val,.int .i64 y_1.hi.val],31)] (RvH [] (vIv (S_LogAt_L0 fu a0 x_e y_1))):=by
 intro fu
 induction fu with
 | zero=>intro a0 x_e y_1 q0 q1 q2 q3 q4 hm; exact absurd hm (Nat.not_lt_zero _)
 | succ fu ih=>
  intro a0 x_e y_1 q0 q1 q2 q3 q4 hm t ht
  refine Cfg.round E_ok mixed Tryz.func317 ht fun g=>?_
  unfold S_LogAt_L0
  refine Run.y (gv:=vIv) (fun h4=>?_) (fun h4=>?_)
  ·refine Run.k (c:=(decide (0 ≤ (wu64 (w64 (x_e.val + 1)).val).val))) (by kernel_rfl) (by exact decide_eq_true (U64.lo _)) ?_
   refine Run.k (c:=(decide (0 ≤ (wu64 (w64 (x_e.val + 1)).val).val))) (by kernel_rfl) (by exact decide_eq_true (U64.lo _)) ?_
   exact Run.l (by kernel_rfl) (by kernel_rfl) (by kernel_rfl) (by kernel_rfl) (ih a0 (w64 (x_e.val + 1)) (⟨(ishr a0 (wu64 (w64 (x_e.val + 1)).val).val),(w64 (0 - (ishr (w64 (0 - a0.val)) (wu64 (w64 (x_e.val + 1)).val).val).val))⟩ : Iv) (by first | exact q0 | exact q1 | exact Nat.lt_succ_self _ | rfl | exact spec_two_exit a0 x_e y_1 q2.1 q2.2 q3 q4 h4 | (have z:=spec_shr_big a0 x_e y_1 q1 q2.1 q2.2 q3 h4; first | exact .inr z.2 | (simp only [w64_val]; omega))) (by first | exact q0 | exact q1 | exact Nat.lt_succ_self _ | rfl | exact spec_two_exit a0 x_e y_1 q2.1 q2.2 q3 q4 h4 | (have z:=spec_shr_big a0 x_e y_1 q1 q2.1 q2.2 q3 h4; first | exact .inr z.2 | (simp only [w64_val]; omega))) (by first | exact q0 | exact q1 | exact Nat.lt_succ_self _ | rfl | exact spec_two_exit a0 x_e y_1 q2.1 q2.2 q3 q4 h4 | (have z:=spec_shr_big a0 x_e y_1 q1 q2.1 q2.2 q3 h4; first | exact .inr z.2 | (simp only [w64_val]; omega))) (by first | exact q0 | exact q1 | exact Nat.lt_succ_self _ | rfl | exact spec_two_exit a0 x_e y_1 q2.1 q2.2 q3 q4 h4 | (have z:=spec_shr_big a0 x_e y_1 q1 q2.1 q2.2 q3 h4; first | exact .inr z.2 | (simp only [w64_val]; omega))) (by first | exact q0 | exact q1 | exact Nat.lt_succ_self _ | rfl | exact spec_two_exit a0 x_e y_1 q2.1 q2.2 q3 q4 h4 | (have z:=spec_shr_big a0 x_e y_1 q1 q2.1 q2.2 q3 h4; first | exact .inr z.2 | (simp only [w64_val]; omega))) (by first | exact q0 | exact q1 | exact Nat.lt_succ_self _ | rfl | exact spec_two_exit a0 x_e y_1 q2.1 q2.2 q3 q4 h4 | (have z:=spec_shr_big a0 x_e y_1 q1 q2.1 q2.2 q3 h4; first | exact .inr z.2 | (simp only [w64_val]; omega))))
  ·exact Run.l (by kernel_rfl) (by kernel_rfl) (by kernel_rfl) (by kernel_rfl) (os_LogAt_L1 ((64 + x_e.val).toNat + 1) a0 x_e y_1 (by first | exact q0 | exact q1 | exact Nat.lt_succ_self _ | exact spec_two_exit a0 x_e y_1 q2.1 q2.2 q3 q4 h4 | omega) (by first | exact q0 | exact q1 | exact Nat.lt_succ_self _ | exact spec_two_exit a0 x_e y_1 q2.1 q2.2 q3 q4 h4 | omega) (by first | exact q0 | exact q1 | exact Nat.lt_succ_self _ | exact spec_two_exit a0 x_e y_1 q2.1 q2.2 q3 q4 h4 | omega) (by first | exact q0 | exact q1 | exact Nat.lt_succ_self _ | exact spec_two_exit a0 x_e y_1 q2.1 q2.2 q3 q4 h4 | omega) (by first | exact q0 | exact q1 | exact Nat.lt_succ_self _ | exact spec_two_exit a0 x_e y_1 q2.1 q2.2 q3 q4 h4 | omega))
theorem os_LogAt (a0 : I64) : Fun Tryz.prog 317 [] #[vI a0] (vIv (S_LogAt a0)) []:=by
 refine Fun.ofH 400 E_ok mixed Tryz.func317 (by kernel_rfl) (by kernel_rfl) ?_
 unfold S_LogAt
 refine Run.q (e:=vB) (gv:=vIv) (os_l00In _ _ _) fun r1 hr1=>?_
 refine Run.y (gv:=vIv) (fun h2=>?_) (fun h2=>?_)
 ·refine Run.q (e:=vIv) (gv:=vIv) (os_l04Whole) fun r3 hr3=>?_
  exact Run.x 0
 ·exact Run.l (by kernel_rfl) (by kernel_rfl) (by kernel_rfl) (by kernel_rfl) (os_LogAt_L0 ((64 - (c64 0).val).toNat + 1) a0 (c64 0) (⟨a0,a0⟩ : Iv) (by first | exact (in1_p hr1 h2).1 | exact (in1_p hr1 h2).2 | exact ⟨by decide,by decide⟩ | exact (shr0' a0).symm | exact .inl rfl | exact Nat.lt_succ_self _) (by first | exact (in1_p hr1 h2).1 | exact (in1_p hr1 h2).2 | exact ⟨by decide,by decide⟩ | exact (shr0' a0).symm | exact .inl rfl | exact Nat.lt_succ_self _) (by first | exact (in1_p hr1 h2).1 | exact (in1_p hr1 h2).2 | exact ⟨by decide,by decide⟩ | exact (shr0' a0).symm | exact .inl rfl | exact Nat.lt_succ_self _) (by first | exact (in1_p hr1 h2).1 | exact (in1_p hr1 h2).2 | exact ⟨by decide,by decide⟩ | exact (shr0' a0).symm | exact .inl rfl | exact Nat.lt_succ_self _) (by first | exact (in1_p hr1 h2).1 | exact (in1_p hr1 h2).2 | exact ⟨by decide,by decide⟩ | exact (shr0' a0).symm | exact .inl rfl | exact Nat.lt_succ_self _) (by first | exact (in1_p hr1 h2).1 | exact (in1_p hr1 h2).2 | exact ⟨by decide,by decide⟩ | exact (shr0' a0).symm | exact .inl rfl | exact Nat.lt_succ_self _))
theorem os_l08Ends (a0 : Iv) (a1 : Iv) : Fun Tryz.prog 268 [] #[vIv a0,vIv a1] (vIv (S_l08Ends a0 a1)) []:=by
 refine Fun.ofH 400 E_ok mixed Tryz.func268 (by kernel_rfl) (by kernel_rfl) ?_
 unfold S_l08Ends
 refine Run.q (e:=vB) (gv:=vIv) (os_l04Ok _) fun r1 _=>?_
 refine Run.y (gv:=vIv) (fun _=>?_) (fun _=>?_)
 ·refine Run.z [true,true,true,true] ?_
  refine Run.q (e:=vIv) (gv:=vIv) (os_l04Whole) fun r2 _=>?_
  exact Run.x 0
 ·refine Run.z [false] ?_
  refine Run.q (e:=vB) (gv:=vIv) (os_l04Ok _) fun r3 _=>?_
  refine Run.z [false,false] ?_
  refine Run.y (gv:=vIv) (fun _=>?_) (fun _=>?_)
  ·refine Run.q (e:=vIv) (gv:=vIv) (os_l04Whole) fun r4 _=>?_
   exact Run.x 0
  ·refine Run.q (e:=vIv) (gv:=vIv) (os_l04Make _ _) fun r5 _=>?_
   exact Run.x 0
theorem os_LogI (a0 : Iv) : Fun Tryz.prog 302 [] #[vIv a0] (vIv (S_LogI a0)) []:=by
 refine Fun.ofH 400 E_ok mixed Tryz.func302 (by kernel_rfl) (by kernel_rfl) ?_
 unfold S_LogI
 refine Run.q (e:=vB) (gv:=vIv) (os_l04Ok _) fun r1 _=>?_
 refine Run.y (gv:=vIv) (fun _=>?_) (fun _=>?_)
 ·refine Run.q (e:=vIv) (gv:=vIv) (os_l04Whole) fun r2 _=>?_
  exact Run.x 0
 ·refine Run.q (e:=vIv) (gv:=vIv) (os_LogAt _) fun r3 _=>?_
  refine Run.q (e:=vIv) (gv:=vIv) (os_LogAt _) fun r4 _=>?_
  refine Run.q (e:=vIv) (gv:=vIv) (os_l08Ends _ _) fun r5 _=>?_
  exact Run.x 0
theorem os_HalfI (a0 : Iv) : Fun Tryz.prog 301 [] #[vIv a0] (vIv (S_HalfI a0)) []:=by
 refine Fun.ofH 400 E_ok mixed Tryz.func301 (by kernel_rfl) (by kernel_rfl) ?_
 unfold S_HalfI
 refine Run.q (e:=vB) (gv:=vIv) (os_l04Ok _) fun r1 _=>?_
 refine Run.y (gv:=vIv) (fun _=>?_) (fun _=>?_)
 ·refine Run.q (e:=vIv) (gv:=vIv) (os_l04Whole) fun r2 _=>?_
  exact Run.x 0
 ·refine Run.z [true,true] ?_
  refine Run.q (e:=vIv) (gv:=vIv) (os_l04Make _ _) fun r3 _=>?_
  exact Run.x 0
theorem os_l08Atanh_r : ∀ (fu : Nat) (a0 : I64) (p0 : -9223372036854775808 < a0.val) (hm : min (0 - a0.val).toNat 1 < fu),Fun Tryz.prog 269 [] #[vI a0] (vIv (S_l08Atanh_r fu a0)) []:=by
 intro fu
 induction fu with
 | zero=>intro a0 p0 hm; exact absurd hm (Nat.not_lt_zero _)
 | succ fu ih=>
  intro a0 p0 hm
  refine Fun.ofH 400 E_ok mixed Tryz.func269 (by kernel_rfl) (by kernel_rfl) ?_
  unfold S_l08Atanh_r
  unfold S_l08Atanh_b
  refine Run.y (gv:=vIv) (fun h1=>?_) (fun h1=>?_)
  ·refine Run.q (e:=vIv) (gv:=vIv) (ih (w64 (0 - a0.val)) (by simp only [w64_val,decide_eq_true_eq,decide_eq_false_iff_not] at *; omega) (by simp only [w64_val,decide_eq_true_eq,decide_eq_false_iff_not] at *; omega)) fun r2 hr2=>?_
   refine Run.q (e:=vIv) (gv:=vIv) (os_NegI _) fun r3 hr3=>?_
   exact Run.x 0
  ·refine Run.y (gv:=vIv) (fun h4=>?_) (fun h4=>?_)
   ·refine Run.q (e:=vIv) (gv:=vIv) (os_l04Whole) fun r5 hr5=>?_
    exact Run.x 0
   ·refine Run.q (e:=vIv) (gv:=vIv) (os_l08At _) fun r6 hr6=>?_
    refine Run.q (e:=vIv) (gv:=vIv) (os_l08At _) fun r7 hr7=>?_
    refine Run.q (e:=vIv) (gv:=vIv) (os_DivI _ _) fun r8 hr8=>?_
    refine Run.q (e:=vIv) (gv:=vIv) (os_LogI _) fun r9 hr9=>?_
    refine Run.q (e:=vIv) (gv:=vIv) (os_HalfI _) fun r10 hr10=>?_
    exact Run.x 0
theorem os_l08Atanh (a0 : I64) (p0 : -9223372036854775808 < a0.val) : Fun Tryz.prog 269 [] #[vI a0] (vIv (S_l08Atanh a0)) []:=os_l08Atanh_r 2 a0 p0 (by omega)
theorem os_AtanhI (a0 : Iv) : Fun Tryz.prog 217 [] #[vIv a0] (vIv (S_AtanhI a0)) []:=by
 refine Fun.ofH 400 E_ok mixed Tryz.func217 (by kernel_rfl) (by kernel_rfl) ?_
 unfold S_AtanhI
 refine Run.q (e:=vB) (gv:=vIv) (os_l04Ok _) fun r1 hr1=>?_
 refine Run.y (gv:=vIv) (fun h2=>?_) (fun h2=>?_)
 ·refine Run.q (e:=vIv) (gv:=vIv) (os_l04Whole) fun r3 hr3=>?_
  exact Run.x 0
 ·refine Run.q (e:=vIv) (gv:=vIv) (os_l08Atanh _ (by rw [hr1] at h2; have z:=Ok4p (by simpa using h2); omega)) fun r4 hr4=>?_
  refine Run.q (e:=vIv) (gv:=vIv) (os_l08Atanh _ (by rw [hr1] at h2; have z:=Ok4p (by simpa using h2); omega)) fun r5 hr5=>?_
  refine Run.q (e:=vIv) (gv:=vIv) (os_l08Ends _ _) fun r6 hr6=>?_
  exact Run.x 0
theorem os_IsWhole (a0 : Iv) : Fun Tryz.prog 96 [] #[vIv a0] (vB (S_IsWhole a0)) []:=by
 refine Fun.ofH 400 E_ok mixed Tryz.func96 (by kernel_rfl) (by kernel_rfl) ?_
 unfold S_IsWhole
 refine Run.q (e:=vB) (gv:=vB) (os_l04Ok _) fun r1 _=>?_
 exact Run.x 0
theorem os_HasI (a0 : Iv) (a1 : I64) : Fun Tryz.prog 48 [] #[vIv a0,vI a1] (vB (S_HasI a0 a1)) []:=by
 refine Fun.ofH 400 E_ok mixed Tryz.func48 (by kernel_rfl) (by kernel_rfl) ?_
 unfold S_HasI
 refine Run.q (e:=vB) (gv:=vB) (os_l04Ok _) fun r1 _=>?_
 refine Run.y (gv:=vB) (fun _=>?_) (fun _=>?_)
 ·refine Run.z [true,true,true] ?_
  exact Run.x 0
 ·refine Run.z [false,false] ?_
  refine Run.q (e:=vB) (gv:=vB) (os_l04Has _ _) fun r2 _=>?_
  refine Run.z [false] ?_
  exact Run.x 0
theorem os_l07Fix (a0 : I64) : Fun Tryz.prog 262 [] #[vI a0] (vB (S_l07Fix a0)) []:=by
 refine Fun.ofH 400 E_ok mixed Tryz.func262 (by kernel_rfl) (by kernel_rfl) ?_
 unfold S_l07Fix
 refine Run.y (gv:=vB) (fun _=>?_) (fun _=>?_)
 ·refine Run.z [true,true] ?_
  exact Run.x 0
 ·refine Run.z [false,false] ?_
  exact Run.x 0
theorem os_l07Quarter : Fun Tryz.prog 290 [] #[] (vIv (S_l07Quarter)) []:=by
 refine Fun.ofH 400 E_ok mixed Tryz.func290 (by kernel_rfl) (by kernel_rfl) ?_
 unfold S_l07Quarter
 refine Run.q (e:=vIv) (gv:=vIv) (os_l05Turn _ (by simp only [w64_val,wu64_val,c64_val,cu64_val,decide_eq_true_eq,decide_eq_false_iff_not,cond_true,cond_false] at *; omega)) fun r1 hr1=>?_
 refine Run.q (e:=vIv) (gv:=vIv) (os_l05Turn _ (by simp only [w64_val,wu64_val,c64_val,cu64_val,decide_eq_true_eq,decide_eq_false_iff_not,cond_true,cond_false] at *; omega)) fun r2 hr2=>?_
 exact Run.x 0
theorem os_l02Root_L0 : ∀ (fu : Nat) (a0 : Wd) (x_out : U64) (x_i : I64) (q0 : x_i.val ≤ 63) (hm : (x_i.val + 1).toNat < fu) (t : Array Value) (ht : maskA t [0,5,6,7,8,9,10,11,12,13,14,15,16,17,18,19,20,21,22,23,24,25,26,27,28,29,30,31,32,33,34,35,36,37,38,39,40,41,42] = #[undef,.pointer (some ⟨0,0,none⟩),.int .u64 0,.int .u64 x_out.val,.int .i64 x_i.val,undef,undef,undef,undef,undef,undef,undef,undef,undef,undef,undef,undef,undef,undef,undef,undef,undef,undef,undef,undef,undef,undef,undef,undef,undef,undef,undef,undef,undef,undef,undef,undef,undef,undef,undef,undef,undef,undef]),Cfg Tryz.prog 265 (loopAt Tryz.f265 0) t [(#[.int .i64 a0.hi.val,.int .u64 a0.lo.val],121)] (RvH [] (vU (S_l02Root_L0 fu a0 x_out x_i))):=by
 intro fu
 induction fu with
 | zero=>intro a0 x_out x_i q0 hm; exact absurd hm (Nat.not_lt_zero _)
 | succ fu ih=>
  intro a0 x_out x_i q0 hm t ht
  refine Cfg.round E_ok mixed Tryz.func265 ht fun g=>?_
  unfold S_l02Root_L0
  refine Run.y (gv:=vU) (fun h1=>?_) (fun h1=>?_)
  ·refine Run.k (c:=(decide (0 ≤ (wu64 x_i.val).val))) (by kernel_rfl) (by simp only [w64_val,wu64_val,c64_val,cu64_val,decide_eq_true_eq] at *; omega) ?_
   refine Run.q (e:=vT_U_U) (gv:=vU) (os_l02Times _ _) fun r2 hr2=>?_
   refine Run.y (gv:=vU) (fun h3=>?_) (fun h3=>?_)
   ·refine Run.z [true,true,true,true,true,true,true,true] ?_
    exact Run.l (by kernel_rfl) (by kernel_rfl) (by kernel_rfl) (by kernel_rfl) (ih a0 (ior .u64 x_out.val (ishl .u64 1 (wu64 x_i.val).val).val) (w64 (x_i.val - 1)) (by have q1:=x_i.lo; simp only [w64_val,wu64_val,c64_val,cu64_val,decide_eq_true_eq] at *; omega) (by have q1:=x_i.lo; simp only [w64_val,wu64_val,c64_val,cu64_val,decide_eq_true_eq] at *; omega))
   ·refine Run.z [false,false,false,false,false] ?_
    refine Run.y (gv:=vU) (fun h4=>?_) (fun h4=>?_)
    ·refine Run.z [true,true,true,false,true,false] ?_
     refine Run.y (gv:=vU) (fun h5=>?_) (fun h5=>?_)
     ·exact Run.l (by kernel_rfl) (by kernel_rfl) (by kernel_rfl) (by kernel_rfl) (ih a0 (ior .u64 x_out.val (ishl .u64 1 (wu64 x_i.val).val).val) (w64 (x_i.val - 1)) (by have q1:=x_i.lo; simp only [w64_val,wu64_val,c64_val,cu64_val,decide_eq_true_eq] at *; omega) (by have q1:=x_i.lo; simp only [w64_val,wu64_val,c64_val,cu64_val,decide_eq_true_eq] at *; omega))
     ·exact Run.l (by kernel_rfl) (by kernel_rfl) (by kernel_rfl) (by kernel_rfl) (ih a0 x_out (w64 (x_i.val - 1)) (by have q1:=x_i.lo; simp only [w64_val,wu64_val,c64_val,cu64_val,decide_eq_true_eq] at *; omega) (by have q1:=x_i.lo; simp only [w64_val,wu64_val,c64_val,cu64_val,decide_eq_true_eq] at *; omega))
    ·refine Run.z [false,false,false,false,false,false,false] ?_
     exact Run.l (by kernel_rfl) (by kernel_rfl) (by kernel_rfl) (by kernel_rfl) (ih a0 x_out (w64 (x_i.val - 1)) (by have q1:=x_i.lo; simp only [w64_val,wu64_val,c64_val,cu64_val,decide_eq_true_eq] at *; omega) (by have q1:=x_i.lo; simp only [w64_val,wu64_val,c64_val,cu64_val,decide_eq_true_eq] at *; omega))
  ·exact Run.x 0
theorem os_l02Root (a0 : Wd) : Fun Tryz.prog 265 [] #[vWd a0] (vU (S_l02Root a0)) []:=by
 refine Fun.ofH 400 E_ok mixed Tryz.func265 (by kernel_rfl) (by kernel_rfl) ?_
 unfold S_l02Root
 exact Run.l (by kernel_rfl) (by kernel_rfl) (by kernel_rfl) (by kernel_rfl) (os_l02Root_L0 65 a0 (cu64 0) (c64 63) (by decide) (by decide))
theorem os_SqrtFloor (a0 : I64) (a1 : I64) : Fun Tryz.prog 319 [] #[vI a0,vI a1] (vT_I_B (S_SqrtFloor a0 a1)) []:=by
 refine Fun.ofH 400 E_ok mixed Tryz.func319 (by kernel_rfl) (by kernel_rfl) ?_
 unfold S_SqrtFloor
 refine Run.y (gv:=vT_I_B) (fun _=>?_) (fun _=>?_)
 ·refine Run.z [true,true,true] ?_
  exact Run.x 0
 ·refine Run.z [false,false] ?_
  refine Run.y (gv:=vT_I_B) (fun _=>?_) (fun _=>?_)
  ·exact Run.x 0
  ·refine Run.q (e:=vWd) (gv:=vT_I_B) (os_l02Mul _ _) fun r1 _=>?_
   refine Run.q (e:=vU) (gv:=vT_I_B) (os_l02Root _) fun r2 _=>?_
   exact Run.x 0
theorem os_l03SqrtDown (a0 : I64) : Fun Tryz.prog 311 [] #[vI a0] (vT_I_B (S_l03SqrtDown a0)) []:=by
 refine Fun.ofH 400 E_ok mixed Tryz.func311 (by kernel_rfl) (by kernel_rfl) ?_
 unfold S_l03SqrtDown
 refine Run.q (e:=vB) (gv:=vT_I_B) (os_l00In _ _ _) fun r1 _=>?_
 refine Run.y (gv:=vT_I_B) (fun _=>?_) (fun _=>?_)
 ·exact Run.x 0
 ·refine Run.q (e:=vT_I_B) (gv:=vT_I_B) (os_SqrtFloor _ _) fun r2 _=>?_
  exact Run.x 0
theorem os_l03SqrtUp (a0 : I64) : Fun Tryz.prog 312 [] #[vI a0] (vT_I_B (S_l03SqrtUp a0)) []:=by
 refine Fun.ofH 400 E_ok mixed Tryz.func312 (by kernel_rfl) (by kernel_rfl) ?_
 unfold S_l03SqrtUp
 refine Run.q (e:=vT_I_B) (gv:=vT_I_B) (os_l03SqrtDown _) fun r1 _=>?_
 refine Run.y (gv:=vT_I_B) (fun _=>?_) (fun _=>?_)
 ·exact Run.x 0
 ·refine Run.q (e:=vT_I_B) (gv:=vT_I_B) (os_MulFloor _ _ _) fun r2 _=>?_
  refine Run.y (gv:=vT_I_B) (fun _=>?_) (fun _=>?_)
  ·refine Run.z [true,true,true,true,true,true] ?_
   exact Run.x 0
  ·refine Run.z [false,false,false,false,false] ?_
   refine Run.y (gv:=vT_I_B) (fun _=>?_) (fun _=>?_)
   ·exact Run.x 0
   ·exact Run.x 0
theorem os_SqrtI (a0 : Iv) : Fun Tryz.prog 289 [] #[vIv a0] (vIv (S_SqrtI a0)) []:=by
 refine Fun.ofH 400 E_ok mixed Tryz.func289 (by kernel_rfl) (by kernel_rfl) ?_
 unfold S_SqrtI
 refine Run.q (e:=vB) (gv:=vIv) (os_l04Ok _) fun r1 _=>?_
 refine Run.y (gv:=vIv) (fun _=>?_) (fun _=>?_)
 ·refine Run.z [true,true,true,true] ?_
  refine Run.q (e:=vIv) (gv:=vIv) (os_l04Whole) fun r2 _=>?_
  exact Run.x 0
 ·refine Run.z [false,false,false] ?_
  refine Run.y (gv:=vIv) (fun _=>?_) (fun _=>?_)
  ·refine Run.q (e:=vIv) (gv:=vIv) (os_l04Whole) fun r3 _=>?_
   exact Run.x 0
  ·refine Run.q (e:=vT_I_B) (gv:=vIv) (os_l03SqrtDown _) fun r4 _=>?_
   refine Run.q (e:=vT_I_B) (gv:=vIv) (os_l03SqrtUp _) fun r5 _=>?_
   refine Run.q (e:=vIv) (gv:=vIv) (os_l04Make _ _) fun r6 _=>?_
   exact Run.x 0
theorem os_l07Halve (a0 : Iv) : Fun Tryz.prog 322 [] #[vIv a0] (vIv (S_l07Halve a0)) []:=by
 refine Fun.ofH 400 E_ok mixed Tryz.func322 (by kernel_rfl) (by kernel_rfl) ?_
 unfold S_l07Halve
 refine Run.q (e:=vIv) (gv:=vIv) (os_Integer _) fun r1 _=>?_
 refine Run.q (e:=vIv) (gv:=vIv) (os_Integer _) fun r2 _=>?_
 refine Run.q (e:=vIv) (gv:=vIv) (os_SqrI _) fun r3 _=>?_
 refine Run.q (e:=vIv) (gv:=vIv) (os_AddI _ _) fun r4 _=>?_
 refine Run.q (e:=vIv) (gv:=vIv) (os_SqrtI _) fun r5 _=>?_
 refine Run.q (e:=vIv) (gv:=vIv) (os_AddI _ _) fun r6 _=>?_
 refine Run.q (e:=vIv) (gv:=vIv) (os_DivI _ _) fun r7 _=>?_
 exact Run.x 0
theorem os_ArcSeries (a0 : Iv) : Fun Tryz.prog 321 [] #[vIv a0] (vIv (S_ArcSeries a0)) []:=by
 refine Fun.ofH 400 E_ok mixed Tryz.func321 (by kernel_rfl) (by kernel_rfl) ?_
 unfold S_ArcSeries
 refine Run.q (e:=vB) (gv:=vIv) (os_InsideI _ _) fun r1 _=>?_
 refine Run.y (gv:=vIv) (fun _=>?_) (fun _=>?_)
 ·refine Run.q (e:=vIv) (gv:=vIv) (os_Whole) fun r2 _=>?_
  exact Run.x 0
 ·refine Run.q (e:=vIv) (gv:=vIv) (os_SqrI _) fun r3 _=>?_
  refine Run.q (e:=vIv) (gv:=vIv) (os_Quotient _ _) fun r4 _=>?_
  refine Run.u 400 E_ok mixed Tryz.func321 ?_
  refine Run.z [true] ?_
  refine Run.q (e:=vIv) (gv:=vIv) (os_Quotient _ _) fun r5 _=>?_
  refine Run.q (e:=vIv) (gv:=vIv) (os_MulI _ _) fun r6 _=>?_
  refine Run.q (e:=vIv) (gv:=vIv) (os_SubI _ _) fun r7 _=>?_
  refine Run.u 400 E_ok mixed Tryz.func321 ?_
  refine Run.z [true] ?_
  refine Run.q (e:=vIv) (gv:=vIv) (os_Quotient _ _) fun r8 _=>?_
  refine Run.q (e:=vIv) (gv:=vIv) (os_MulI _ _) fun r9 _=>?_
  refine Run.q (e:=vIv) (gv:=vIv) (os_SubI _ _) fun r10 _=>?_
  refine Run.u 400 E_ok mixed Tryz.func321 ?_
  refine Run.z [true] ?_
  refine Run.q (e:=vIv) (gv:=vIv) (os_Quotient _ _) fun r11 _=>?_
  refine Run.q (e:=vIv) (gv:=vIv) (os_MulI _ _) fun r12 _=>?_
  refine Run.q (e:=vIv) (gv:=vIv) (os_SubI _ _) fun r13 _=>?_
  refine Run.u 400 E_ok mixed Tryz.func321 ?_
  refine Run.z [true] ?_
  refine Run.q (e:=vIv) (gv:=vIv) (os_Quotient _ _) fun r14 _=>?_
  refine Run.q (e:=vIv) (gv:=vIv) (os_MulI _ _) fun r15 _=>?_
  refine Run.q (e:=vIv) (gv:=vIv) (os_SubI _ _) fun r16 _=>?_
  refine Run.u 400 E_ok mixed Tryz.func321 ?_
  refine Run.z [true] ?_
  refine Run.q (e:=vIv) (gv:=vIv) (os_Quotient _ _) fun r17 _=>?_
  refine Run.q (e:=vIv) (gv:=vIv) (os_MulI _ _) fun r18 _=>?_
  refine Run.q (e:=vIv) (gv:=vIv) (os_SubI _ _) fun r19 _=>?_
  refine Run.u 400 E_ok mixed Tryz.func321 ?_
  refine Run.z [true] ?_
  refine Run.q (e:=vIv) (gv:=vIv) (os_Quotient _ _) fun r20 _=>?_
  refine Run.q (e:=vIv) (gv:=vIv) (os_MulI _ _) fun r21 _=>?_
  refine Run.q (e:=vIv) (gv:=vIv) (os_SubI _ _) fun r22 _=>?_
  refine Run.u 400 E_ok mixed Tryz.func321 ?_
  refine Run.z [true] ?_
  refine Run.q (e:=vIv) (gv:=vIv) (os_Quotient _ _) fun r23 _=>?_
  refine Run.q (e:=vIv) (gv:=vIv) (os_MulI _ _) fun r24 _=>?_
  refine Run.q (e:=vIv) (gv:=vIv) (os_SubI _ _) fun r25 _=>?_
  refine Run.u 400 E_ok mixed Tryz.func321 ?_
  refine Run.z [true] ?_
  refine Run.q (e:=vIv) (gv:=vIv) (os_Quotient _ _) fun r26 _=>?_
  refine Run.q (e:=vIv) (gv:=vIv) (os_MulI _ _) fun r27 _=>?_
  refine Run.q (e:=vIv) (gv:=vIv) (os_SubI _ _) fun r28 _=>?_
  refine Run.u 400 E_ok mixed Tryz.func321 ?_
  refine Run.z [true] ?_
  refine Run.q (e:=vIv) (gv:=vIv) (os_Quotient _ _) fun r29 _=>?_
  refine Run.q (e:=vIv) (gv:=vIv) (os_MulI _ _) fun r30 _=>?_
  refine Run.q (e:=vIv) (gv:=vIv) (os_SubI _ _) fun r31 _=>?_
  refine Run.u 400 E_ok mixed Tryz.func321 ?_
  refine Run.z [true] ?_
  refine Run.q (e:=vIv) (gv:=vIv) (os_Quotient _ _) fun r32 _=>?_
  refine Run.q (e:=vIv) (gv:=vIv) (os_MulI _ _) fun r33 _=>?_
  refine Run.q (e:=vIv) (gv:=vIv) (os_SubI _ _) fun r34 _=>?_
  refine Run.u 400 E_ok mixed Tryz.func321 ?_
  refine Run.z [false] ?_
  refine Run.q (e:=vIv) (gv:=vIv) (os_MulI _ _) fun r35 _=>?_
  refine Run.q (e:=vIv) (gv:=vIv) (os_l06Tiny) fun r36 _=>?_
  refine Run.q (e:=vIv) (gv:=vIv) (os_AddI _ _) fun r37 _=>?_
  exact Run.x 0
theorem os_DoubleI (a0 : Iv) : Fun Tryz.prog 30 [] #[vIv a0] (vIv (S_DoubleI a0)) []:=by
 refine Fun.ofH 400 E_ok mixed Tryz.func30 (by kernel_rfl) (by kernel_rfl) ?_
 unfold S_DoubleI
 refine Run.q (e:=vB) (gv:=vIv) (os_l04Ok _) fun r1 _=>?_
 refine Run.y (gv:=vIv) (fun _=>?_) (fun _=>?_)
 ·refine Run.q (e:=vIv) (gv:=vIv) (os_l04Whole) fun r2 _=>?_
  exact Run.x 0
 ·refine Run.q (e:=vIv) (gv:=vIv) (os_l04Make _ _) fun r3 _=>?_
  exact Run.x 0
theorem os_l07Core (a0 : Iv) : Fun Tryz.prog 316 [] #[vIv a0] (vIv (S_l07Core a0)) []:=by
 refine Fun.ofH 400 E_ok mixed Tryz.func316 (by kernel_rfl) (by kernel_rfl) ?_
 unfold S_l07Core
 refine Run.q (e:=vIv) (gv:=vIv) (os_l07Halve _) fun r1 _=>?_
 refine Run.q (e:=vIv) (gv:=vIv) (os_l07Halve _) fun r2 _=>?_
 refine Run.q (e:=vIv) (gv:=vIv) (os_ArcSeries _) fun r3 _=>?_
 refine Run.q (e:=vIv) (gv:=vIv) (os_DoubleI _) fun r4 _=>?_
 refine Run.q (e:=vIv) (gv:=vIv) (os_DoubleI _) fun r5 _=>?_
 exact Run.x 0
theorem os_AtanAt_r : ∀ (fu : Nat) (a0 : I64) (hm : min (0 - a0.val).toNat 1 < fu),Fun Tryz.prog 299 [] #[vI a0] (vIv (S_AtanAt_r fu a0)) []:=by
 intro fu
 induction fu with
 | zero=>intro a0 hm; exact absurd hm (Nat.not_lt_zero _)
 | succ fu ih=>
  intro a0 hm
  refine Fun.ofH 400 E_ok mixed Tryz.func299 (by kernel_rfl) (by kernel_rfl) ?_
  unfold S_AtanAt_r
  unfold S_AtanAt_b
  refine Run.q (e:=vB) (gv:=vIv) (os_l07Fix _) fun r1 hr1=>?_
  refine Run.y (gv:=vIv) (fun h2=>?_) (fun h2=>?_)
  ·refine Run.q (e:=vIv) (gv:=vIv) (os_l07Quarter) fun r3 hr3=>?_
   exact Run.x 0
  ·refine Run.y (gv:=vIv) (fun h4=>?_) (fun h4=>?_)
   ·refine Run.q (e:=vIv) (gv:=vIv) (ih (w64 (0 - a0.val)) (by rw [hr1] at h2; simp [S_l07Fix,c64_val] at h2; simp only [w64_val,decide_eq_true_eq,decide_eq_false_iff_not] at *; omega)) fun r5 hr5=>?_
    refine Run.q (e:=vIv) (gv:=vIv) (os_NegI _) fun r6 hr6=>?_
    exact Run.x 0
   ·refine Run.y (gv:=vIv) (fun h7=>?_) (fun h7=>?_)
    ·refine Run.q (e:=vIv) (gv:=vIv) (os_TurnI _) fun r8 hr8=>?_
     refine Run.q (e:=vIv) (gv:=vIv) (os_Integer _) fun r9 hr9=>?_
     refine Run.q (e:=vIv) (gv:=vIv) (os_l05At _) fun r10 hr10=>?_
     refine Run.q (e:=vIv) (gv:=vIv) (os_DivI _ _) fun r11 hr11=>?_
     refine Run.q (e:=vIv) (gv:=vIv) (os_l07Core _) fun r12 hr12=>?_
     refine Run.q (e:=vIv) (gv:=vIv) (os_SubI _ _) fun r13 hr13=>?_
     exact Run.x 0
    ·refine Run.q (e:=vIv) (gv:=vIv) (os_l05At _) fun r14 hr14=>?_
     refine Run.q (e:=vIv) (gv:=vIv) (os_l07Core _) fun r15 hr15=>?_
     exact Run.x 0
theorem os_AtanAt (a0 : I64) : Fun Tryz.prog 299 [] #[vI a0] (vIv (S_AtanAt a0)) []:=os_AtanAt_r 2 a0 (by omega)
theorem os_AtanI (a0 : Iv) : Fun Tryz.prog 263 [] #[vIv a0] (vIv (S_AtanI a0)) []:=by
 refine Fun.ofH 400 E_ok mixed Tryz.func263 (by kernel_rfl) (by kernel_rfl) ?_
 unfold S_AtanI
 refine Run.q (e:=vB) (gv:=vIv) (os_IsWhole _) fun r1 _=>?_
 refine Run.y (gv:=vIv) (fun _=>?_) (fun _=>?_)
 ·refine Run.q (e:=vIv) (gv:=vIv) (os_l07Quarter) fun r2 _=>?_
  exact Run.x 0
 ·refine Run.q (e:=vIv) (gv:=vIv) (os_AtanAt _) fun r3 _=>?_
  refine Run.q (e:=vIv) (gv:=vIv) (os_AtanAt _) fun r4 _=>?_
  refine Run.q (e:=vIv) (gv:=vIv) (os_HullI _ _) fun r5 _=>?_
  exact Run.x 0
theorem os_DirectionAt_cut1 (a0 : I64) (a1 : I64) (r1 : Bool) (r3 : Bool) : Run Tryz.prog 206 (RvH [] (vIv ((bif (decide (a0.val < 0)) then (bif (decide ((w64 (0 - a0.val)).val > a1.val)) then (bif (decide ((w64 (0 - a0.val)).val > (w64 (0 - a1.val)).val)) then (bif (decide (a0.val < 0)) then bindP (S_TurnI (c64 (-1))) fun r6=>bindP (S_l05At a1) fun r7=>bindP (S_l05At a0) fun r8=>bindP (S_DivI r7 r8) fun r9=>bindP (S_AtanI r9) fun r10=>bindP (S_SubI r6 r10) fun r11=>r11 else bindP (S_TurnI (c64 1)) fun r12=>bindP (S_l05At a1) fun r13=>bindP (S_l05At a0) fun r14=>bindP (S_DivI r13 r14) fun r15=>bindP (S_AtanI r15) fun r16=>bindP (S_SubI r12 r16) fun r17=>r17) else (bif (decide (a1.val > 0)) then bindP (S_l05At a0) fun r18=>bindP (S_l05At a1) fun r19=>bindP (S_DivI r18 r19) fun r20=>bindP (S_AtanI r20) fun r21=>r21 else (bif (decide (a0.val < 0)) then bindP (S_l05At a0) fun r22=>bindP (S_l05At a1) fun r23=>bindP (S_DivI r22 r23) fun r24=>bindP (S_AtanI r24) fun r25=>bindP (S_TurnI (c64 (-2))) fun r26=>bindP (S_AddI r25 r26) fun r27=>r27 else bindP (S_l05At a0) fun r28=>bindP (S_l05At a1) fun r29=>bindP (S_DivI r28 r29) fun r30=>bindP (S_AtanI r30) fun r31=>bindP (S_TurnI (c64 2)) fun r32=>bindP (S_AddI r31 r32) fun r33=>r33))) else (bif (decide (a1.val > 0)) then bindP (S_l05At a0) fun r34=>bindP (S_l05At a1) fun r35=>bindP (S_DivI r34 r35) fun r36=>bindP (S_AtanI r36) fun r37=>r37 else (bif (decide (a0.val < 0)) then bindP (S_l05At a0) fun r38=>bindP (S_l05At a1) fun r39=>bindP (S_DivI r38 r39) fun r40=>bindP (S_AtanI r40) fun r41=>bindP (S_TurnI (c64 (-2))) fun r42=>bindP (S_AddI r41 r42) fun r43=>r43 else bindP (S_l05At a0) fun r44=>bindP (S_l05At a1) fun r45=>bindP (S_DivI r44 r45) fun r46=>bindP (S_AtanI r46) fun r47=>bindP (S_TurnI (c64 2)) fun r48=>bindP (S_AddI r47 r48) fun r49=>r49))) else (bif (decide (a0.val > a1.val)) then (bif (decide (a0.val > (w64 (0 - a1.val)).val)) then (bif (decide (a0.val < 0)) then bindP (S_TurnI (c64 (-1))) fun r50=>bindP (S_l05At a1) fun r51=>bindP (S_l05At a0) fun r52=>bindP (S_DivI r51 r52) fun r53=>bindP (S_AtanI r53) fun r54=>bindP (S_SubI r50 r54) fun r55=>r55 else bindP (S_TurnI (c64 1)) fun r56=>bindP (S_l05At a1) fun r57=>bindP (S_l05At a0) fun r58=>bindP (S_DivI r57 r58) fun r59=>bindP (S_AtanI r59) fun r60=>bindP (S_SubI r56 r60) fun r61=>r61) else (bif (decide (a1.val > 0)) then bindP (S_l05At a0) fun r62=>bindP (S_l05At a1) fun r63=>bindP (S_DivI r62 r63) fun r64=>bindP (S_AtanI r64) fun r65=>r65 else (bif (decide (a0.val < 0)) then bindP (S_l05At a0) fun r66=>bindP (S_l05At a1) fun r67=>bindP (S_DivI r66 r67) fun r68=>bindP (S_AtanI r68) fun r69=>bindP (S_TurnI (c64 (-2))) fun r70=>bindP (S_AddI r69 r70) fun r71=>r71 else bindP (S_l05At a0) fun r72=>bindP (S_l05At a1) fun r73=>bindP (S_DivI r72 r73) fun r74=>bindP (S_AtanI r74) fun r75=>bindP (S_TurnI (c64 2)) fun r76=>bindP (S_AddI r75 r76) fun r77=>r77))) else (bif (decide (a1.val > 0)) then bindP (S_l05At a0) fun r78=>bindP (S_l05At a1) fun r79=>bindP (S_DivI r78 r79) fun r80=>bindP (S_AtanI r80) fun r81=>r81 else (bif (decide (a0.val < 0)) then bindP (S_l05At a0) fun r82=>bindP (S_l05At a1) fun r83=>bindP (S_DivI r82 r83) fun r84=>bindP (S_AtanI r84) fun r85=>bindP (S_TurnI (c64 (-2))) fun r86=>bindP (S_AddI r85 r86) fun r87=>r87 else bindP (S_l05At a0) fun r88=>bindP (S_l05At a1) fun r89=>bindP (S_DivI r88 r89) fun r90=>bindP (S_AtanI r90) fun r91=>bindP (S_TurnI (c64 2)) fun r92=>bindP (S_AddI r91 r92) fun r93=>r93))))))) (((((((((((start Tryz.prog E Tryz.f206 400 [] #[vI a0,vI a1]).after (vB r1)).no).path [false]).after (vB r3)).path [false,false]).no).path [false,false]).yes).path [true,false,true,false]).no):=by
 refine Run.y (gv:=vIv) (fun _=>?_) (fun _=>?_)
 ·refine Run.y (gv:=vIv) (fun _=>?_) (fun _=>?_)
  ·refine Run.z [true,true,true,true] ?_
   refine Run.y (gv:=vIv) (fun _=>?_) (fun _=>?_)
   ·refine Run.y (gv:=vIv) (fun _=>?_) (fun _=>?_)
    ·refine Run.q (e:=vIv) (gv:=vIv) (os_TurnI _) fun r6 _=>?_
     refine Run.q (e:=vIv) (gv:=vIv) (os_l05At _) fun r7 _=>?_
     refine Run.q (e:=vIv) (gv:=vIv) (os_l05At _) fun r8 _=>?_
     refine Run.q (e:=vIv) (gv:=vIv) (os_DivI _ _) fun r9 _=>?_
     refine Run.q (e:=vIv) (gv:=vIv) (os_AtanI _) fun r10 _=>?_
     refine Run.q (e:=vIv) (gv:=vIv) (os_SubI _ _) fun r11 _=>?_
     exact Run.x 0
    ·refine Run.q (e:=vIv) (gv:=vIv) (os_TurnI _) fun r12 _=>?_
     refine Run.q (e:=vIv) (gv:=vIv) (os_l05At _) fun r13 _=>?_
     refine Run.q (e:=vIv) (gv:=vIv) (os_l05At _) fun r14 _=>?_
     refine Run.q (e:=vIv) (gv:=vIv) (os_DivI _ _) fun r15 _=>?_
     refine Run.q (e:=vIv) (gv:=vIv) (os_AtanI _) fun r16 _=>?_
     refine Run.q (e:=vIv) (gv:=vIv) (os_SubI _ _) fun r17 _=>?_
     exact Run.x 0
   ·refine Run.y (gv:=vIv) (fun _=>?_) (fun _=>?_)
    ·refine Run.q (e:=vIv) (gv:=vIv) (os_l05At _) fun r18 _=>?_
     refine Run.q (e:=vIv) (gv:=vIv) (os_l05At _) fun r19 _=>?_
     refine Run.q (e:=vIv) (gv:=vIv) (os_DivI _ _) fun r20 _=>?_
     refine Run.q (e:=vIv) (gv:=vIv) (os_AtanI _) fun r21 _=>?_
     exact Run.x 0
    ·refine Run.y (gv:=vIv) (fun _=>?_) (fun _=>?_)
     ·refine Run.q (e:=vIv) (gv:=vIv) (os_l05At _) fun r22 _=>?_
      refine Run.q (e:=vIv) (gv:=vIv) (os_l05At _) fun r23 _=>?_
      refine Run.q (e:=vIv) (gv:=vIv) (os_DivI _ _) fun r24 _=>?_
      refine Run.q (e:=vIv) (gv:=vIv) (os_AtanI _) fun r25 _=>?_
      refine Run.q (e:=vIv) (gv:=vIv) (os_TurnI _) fun r26 _=>?_
      refine Run.q (e:=vIv) (gv:=vIv) (os_AddI _ _) fun r27 _=>?_
      exact Run.x 0
     ·refine Run.q (e:=vIv) (gv:=vIv) (os_l05At _) fun r28 _=>?_
      refine Run.q (e:=vIv) (gv:=vIv) (os_l05At _) fun r29 _=>?_
      refine Run.q (e:=vIv) (gv:=vIv) (os_DivI _ _) fun r30 _=>?_
      refine Run.q (e:=vIv) (gv:=vIv) (os_AtanI _) fun r31 _=>?_
      refine Run.q (e:=vIv) (gv:=vIv) (os_TurnI _) fun r32 _=>?_
      refine Run.q (e:=vIv) (gv:=vIv) (os_AddI _ _) fun r33 _=>?_
      exact Run.x 0
  ·refine Run.z [false,false,false,false,false] ?_
   refine Run.y (gv:=vIv) (fun _=>?_) (fun _=>?_)
   ·refine Run.q (e:=vIv) (gv:=vIv) (os_l05At _) fun r34 _=>?_
    refine Run.q (e:=vIv) (gv:=vIv) (os_l05At _) fun r35 _=>?_
    refine Run.q (e:=vIv) (gv:=vIv) (os_DivI _ _) fun r36 _=>?_
    refine Run.q (e:=vIv) (gv:=vIv) (os_AtanI _) fun r37 _=>?_
    exact Run.x 0
   ·refine Run.y (gv:=vIv) (fun _=>?_) (fun _=>?_)
    ·refine Run.q (e:=vIv) (gv:=vIv) (os_l05At _) fun r38 _=>?_
     refine Run.q (e:=vIv) (gv:=vIv) (os_l05At _) fun r39 _=>?_
     refine Run.q (e:=vIv) (gv:=vIv) (os_DivI _ _) fun r40 _=>?_
     refine Run.q (e:=vIv) (gv:=vIv) (os_AtanI _) fun r41 _=>?_
     refine Run.q (e:=vIv) (gv:=vIv) (os_TurnI _) fun r42 _=>?_
     refine Run.q (e:=vIv) (gv:=vIv) (os_AddI _ _) fun r43 _=>?_
     exact Run.x 0
    ·refine Run.q (e:=vIv) (gv:=vIv) (os_l05At _) fun r44 _=>?_
     refine Run.q (e:=vIv) (gv:=vIv) (os_l05At _) fun r45 _=>?_
     refine Run.q (e:=vIv) (gv:=vIv) (os_DivI _ _) fun r46 _=>?_
     refine Run.q (e:=vIv) (gv:=vIv) (os_AtanI _) fun r47 _=>?_
     refine Run.q (e:=vIv) (gv:=vIv) (os_TurnI _) fun r48 _=>?_
     refine Run.q (e:=vIv) (gv:=vIv) (os_AddI _ _) fun r49 _=>?_
     exact Run.x 0
 ·refine Run.y (gv:=vIv) (fun _=>?_) (fun _=>?_)
  ·refine Run.z [true,true,true,true] ?_
   refine Run.y (gv:=vIv) (fun _=>?_) (fun _=>?_)
   ·refine Run.y (gv:=vIv) (fun _=>?_) (fun _=>?_)
    ·refine Run.q (e:=vIv) (gv:=vIv) (os_TurnI _) fun r50 _=>?_
     refine Run.q (e:=vIv) (gv:=vIv) (os_l05At _) fun r51 _=>?_
     refine Run.q (e:=vIv) (gv:=vIv) (os_l05At _) fun r52 _=>?_
     refine Run.q (e:=vIv) (gv:=vIv) (os_DivI _ _) fun r53 _=>?_
     refine Run.q (e:=vIv) (gv:=vIv) (os_AtanI _) fun r54 _=>?_
     refine Run.q (e:=vIv) (gv:=vIv) (os_SubI _ _) fun r55 _=>?_
     exact Run.x 0
    ·refine Run.q (e:=vIv) (gv:=vIv) (os_TurnI _) fun r56 _=>?_
     refine Run.q (e:=vIv) (gv:=vIv) (os_l05At _) fun r57 _=>?_
     refine Run.q (e:=vIv) (gv:=vIv) (os_l05At _) fun r58 _=>?_
     refine Run.q (e:=vIv) (gv:=vIv) (os_DivI _ _) fun r59 _=>?_
     refine Run.q (e:=vIv) (gv:=vIv) (os_AtanI _) fun r60 _=>?_
     refine Run.q (e:=vIv) (gv:=vIv) (os_SubI _ _) fun r61 _=>?_
     exact Run.x 0
   ·refine Run.y (gv:=vIv) (fun _=>?_) (fun _=>?_)
    ·refine Run.q (e:=vIv) (gv:=vIv) (os_l05At _) fun r62 _=>?_
     refine Run.q (e:=vIv) (gv:=vIv) (os_l05At _) fun r63 _=>?_
     refine Run.q (e:=vIv) (gv:=vIv) (os_DivI _ _) fun r64 _=>?_
     refine Run.q (e:=vIv) (gv:=vIv) (os_AtanI _) fun r65 _=>?_
     exact Run.x 0
    ·refine Run.y (gv:=vIv) (fun _=>?_) (fun _=>?_)
     ·refine Run.q (e:=vIv) (gv:=vIv) (os_l05At _) fun r66 _=>?_
      refine Run.q (e:=vIv) (gv:=vIv) (os_l05At _) fun r67 _=>?_
      refine Run.q (e:=vIv) (gv:=vIv) (os_DivI _ _) fun r68 _=>?_
      refine Run.q (e:=vIv) (gv:=vIv) (os_AtanI _) fun r69 _=>?_
      refine Run.q (e:=vIv) (gv:=vIv) (os_TurnI _) fun r70 _=>?_
      refine Run.q (e:=vIv) (gv:=vIv) (os_AddI _ _) fun r71 _=>?_
      exact Run.x 0
     ·refine Run.q (e:=vIv) (gv:=vIv) (os_l05At _) fun r72 _=>?_
      refine Run.q (e:=vIv) (gv:=vIv) (os_l05At _) fun r73 _=>?_
      refine Run.q (e:=vIv) (gv:=vIv) (os_DivI _ _) fun r74 _=>?_
      refine Run.q (e:=vIv) (gv:=vIv) (os_AtanI _) fun r75 _=>?_
      refine Run.q (e:=vIv) (gv:=vIv) (os_TurnI _) fun r76 _=>?_
      refine Run.q (e:=vIv) (gv:=vIv) (os_AddI _ _) fun r77 _=>?_
      exact Run.x 0
  ·refine Run.z [false,false,false,false,false] ?_
   refine Run.y (gv:=vIv) (fun _=>?_) (fun _=>?_)
   ·refine Run.q (e:=vIv) (gv:=vIv) (os_l05At _) fun r78 _=>?_
    refine Run.q (e:=vIv) (gv:=vIv) (os_l05At _) fun r79 _=>?_
    refine Run.q (e:=vIv) (gv:=vIv) (os_DivI _ _) fun r80 _=>?_
    refine Run.q (e:=vIv) (gv:=vIv) (os_AtanI _) fun r81 _=>?_
    exact Run.x 0
   ·refine Run.y (gv:=vIv) (fun _=>?_) (fun _=>?_)
    ·refine Run.q (e:=vIv) (gv:=vIv) (os_l05At _) fun r82 _=>?_
     refine Run.q (e:=vIv) (gv:=vIv) (os_l05At _) fun r83 _=>?_
     refine Run.q (e:=vIv) (gv:=vIv) (os_DivI _ _) fun r84 _=>?_
     refine Run.q (e:=vIv) (gv:=vIv) (os_AtanI _) fun r85 _=>?_
     refine Run.q (e:=vIv) (gv:=vIv) (os_TurnI _) fun r86 _=>?_
     refine Run.q (e:=vIv) (gv:=vIv) (os_AddI _ _) fun r87 _=>?_
     exact Run.x 0
    ·refine Run.q (e:=vIv) (gv:=vIv) (os_l05At _) fun r88 _=>?_
     refine Run.q (e:=vIv) (gv:=vIv) (os_l05At _) fun r89 _=>?_
     refine Run.q (e:=vIv) (gv:=vIv) (os_DivI _ _) fun r90 _=>?_
     refine Run.q (e:=vIv) (gv:=vIv) (os_AtanI _) fun r91 _=>?_
     refine Run.q (e:=vIv) (gv:=vIv) (os_TurnI _) fun r92 _=>?_
     refine Run.q (e:=vIv) (gv:=vIv) (os_AddI _ _) fun r93 _=>?_
     exact Run.x 0
theorem os_DirectionAt_cut2 (a0 : I64) (a1 : I64) (r1 : Bool) (r3 : Bool) : Run Tryz.prog 206 (RvH [] (vIv ((bif (decide (a0.val < 0)) then (bif (decide ((w64 (0 - a0.val)).val > a1.val)) then (bif (decide ((w64 (0 - a0.val)).val > (w64 (0 - a1.val)).val)) then (bif (decide (a0.val < 0)) then bindP (S_TurnI (c64 (-1))) fun r94=>bindP (S_l05At a1) fun r95=>bindP (S_l05At a0) fun r96=>bindP (S_DivI r95 r96) fun r97=>bindP (S_AtanI r97) fun r98=>bindP (S_SubI r94 r98) fun r99=>r99 else bindP (S_TurnI (c64 1)) fun r100=>bindP (S_l05At a1) fun r101=>bindP (S_l05At a0) fun r102=>bindP (S_DivI r101 r102) fun r103=>bindP (S_AtanI r103) fun r104=>bindP (S_SubI r100 r104) fun r105=>r105) else (bif (decide (a1.val > 0)) then bindP (S_l05At a0) fun r106=>bindP (S_l05At a1) fun r107=>bindP (S_DivI r106 r107) fun r108=>bindP (S_AtanI r108) fun r109=>r109 else (bif (decide (a0.val < 0)) then bindP (S_l05At a0) fun r110=>bindP (S_l05At a1) fun r111=>bindP (S_DivI r110 r111) fun r112=>bindP (S_AtanI r112) fun r113=>bindP (S_TurnI (c64 (-2))) fun r114=>bindP (S_AddI r113 r114) fun r115=>r115 else bindP (S_l05At a0) fun r116=>bindP (S_l05At a1) fun r117=>bindP (S_DivI r116 r117) fun r118=>bindP (S_AtanI r118) fun r119=>bindP (S_TurnI (c64 2)) fun r120=>bindP (S_AddI r119 r120) fun r121=>r121))) else (bif (decide (a1.val > 0)) then bindP (S_l05At a0) fun r122=>bindP (S_l05At a1) fun r123=>bindP (S_DivI r122 r123) fun r124=>bindP (S_AtanI r124) fun r125=>r125 else (bif (decide (a0.val < 0)) then bindP (S_l05At a0) fun r126=>bindP (S_l05At a1) fun r127=>bindP (S_DivI r126 r127) fun r128=>bindP (S_AtanI r128) fun r129=>bindP (S_TurnI (c64 (-2))) fun r130=>bindP (S_AddI r129 r130) fun r131=>r131 else bindP (S_l05At a0) fun r132=>bindP (S_l05At a1) fun r133=>bindP (S_DivI r132 r133) fun r134=>bindP (S_AtanI r134) fun r135=>bindP (S_TurnI (c64 2)) fun r136=>bindP (S_AddI r135 r136) fun r137=>r137))) else (bif (decide (a0.val > a1.val)) then (bif (decide (a0.val > (w64 (0 - a1.val)).val)) then (bif (decide (a0.val < 0)) then bindP (S_TurnI (c64 (-1))) fun r138=>bindP (S_l05At a1) fun r139=>bindP (S_l05At a0) fun r140=>bindP (S_DivI r139 r140) fun r141=>bindP (S_AtanI r141) fun r142=>bindP (S_SubI r138 r142) fun r143=>r143 else bindP (S_TurnI (c64 1)) fun r144=>bindP (S_l05At a1) fun r145=>bindP (S_l05At a0) fun r146=>bindP (S_DivI r145 r146) fun r147=>bindP (S_AtanI r147) fun r148=>bindP (S_SubI r144 r148) fun r149=>r149) else (bif (decide (a1.val > 0)) then bindP (S_l05At a0) fun r150=>bindP (S_l05At a1) fun r151=>bindP (S_DivI r150 r151) fun r152=>bindP (S_AtanI r152) fun r153=>r153 else (bif (decide (a0.val < 0)) then bindP (S_l05At a0) fun r154=>bindP (S_l05At a1) fun r155=>bindP (S_DivI r154 r155) fun r156=>bindP (S_AtanI r156) fun r157=>bindP (S_TurnI (c64 (-2))) fun r158=>bindP (S_AddI r157 r158) fun r159=>r159 else bindP (S_l05At a0) fun r160=>bindP (S_l05At a1) fun r161=>bindP (S_DivI r160 r161) fun r162=>bindP (S_AtanI r162) fun r163=>bindP (S_TurnI (c64 2)) fun r164=>bindP (S_AddI r163 r164) fun r165=>r165))) else (bif (decide (a1.val > 0)) then bindP (S_l05At a0) fun r166=>bindP (S_l05At a1) fun r167=>bindP (S_DivI r166 r167) fun r168=>bindP (S_AtanI r168) fun r169=>r169 else (bif (decide (a0.val < 0)) then bindP (S_l05At a0) fun r170=>bindP (S_l05At a1) fun r171=>bindP (S_DivI r170 r171) fun r172=>bindP (S_AtanI r172) fun r173=>bindP (S_TurnI (c64 (-2))) fun r174=>bindP (S_AddI r173 r174) fun r175=>r175 else bindP (S_l05At a0) fun r176=>bindP (S_l05At a1) fun r177=>bindP (S_DivI r176 r177) fun r178=>bindP (S_AtanI r178) fun r179=>bindP (S_TurnI (c64 2)) fun r180=>bindP (S_AddI r179 r180) fun r181=>r181))))))) (((((((((start Tryz.prog E Tryz.f206 400 [] #[vI a0,vI a1]).after (vB r1)).no).path [false]).after (vB r3)).path [false,false]).no).path [false,false]).no):=by
 refine Run.z [false,false,false,false,false] ?_
 refine Run.y (gv:=vIv) (fun _=>?_) (fun _=>?_)
 ·refine Run.y (gv:=vIv) (fun _=>?_) (fun _=>?_)
  ·refine Run.z [true,true,true,true] ?_
   refine Run.y (gv:=vIv) (fun _=>?_) (fun _=>?_)
   ·refine Run.y (gv:=vIv) (fun _=>?_) (fun _=>?_)
    ·refine Run.q (e:=vIv) (gv:=vIv) (os_TurnI _) fun r94 _=>?_
     refine Run.q (e:=vIv) (gv:=vIv) (os_l05At _) fun r95 _=>?_
     refine Run.q (e:=vIv) (gv:=vIv) (os_l05At _) fun r96 _=>?_
     refine Run.q (e:=vIv) (gv:=vIv) (os_DivI _ _) fun r97 _=>?_
     refine Run.q (e:=vIv) (gv:=vIv) (os_AtanI _) fun r98 _=>?_
     refine Run.q (e:=vIv) (gv:=vIv) (os_SubI _ _) fun r99 _=>?_
     exact Run.x 0
    ·refine Run.q (e:=vIv) (gv:=vIv) (os_TurnI _) fun r100 _=>?_
     refine Run.q (e:=vIv) (gv:=vIv) (os_l05At _) fun r101 _=>?_
     refine Run.q (e:=vIv) (gv:=vIv) (os_l05At _) fun r102 _=>?_
     refine Run.q (e:=vIv) (gv:=vIv) (os_DivI _ _) fun r103 _=>?_
     refine Run.q (e:=vIv) (gv:=vIv) (os_AtanI _) fun r104 _=>?_
     refine Run.q (e:=vIv) (gv:=vIv) (os_SubI _ _) fun r105 _=>?_
     exact Run.x 0
   ·refine Run.y (gv:=vIv) (fun _=>?_) (fun _=>?_)
    ·refine Run.q (e:=vIv) (gv:=vIv) (os_l05At _) fun r106 _=>?_
     refine Run.q (e:=vIv) (gv:=vIv) (os_l05At _) fun r107 _=>?_
     refine Run.q (e:=vIv) (gv:=vIv) (os_DivI _ _) fun r108 _=>?_
     refine Run.q (e:=vIv) (gv:=vIv) (os_AtanI _) fun r109 _=>?_
     exact Run.x 0
    ·refine Run.y (gv:=vIv) (fun _=>?_) (fun _=>?_)
     ·refine Run.q (e:=vIv) (gv:=vIv) (os_l05At _) fun r110 _=>?_
      refine Run.q (e:=vIv) (gv:=vIv) (os_l05At _) fun r111 _=>?_
      refine Run.q (e:=vIv) (gv:=vIv) (os_DivI _ _) fun r112 _=>?_
      refine Run.q (e:=vIv) (gv:=vIv) (os_AtanI _) fun r113 _=>?_
      refine Run.q (e:=vIv) (gv:=vIv) (os_TurnI _) fun r114 _=>?_
      refine Run.q (e:=vIv) (gv:=vIv) (os_AddI _ _) fun r115 _=>?_
      exact Run.x 0
     ·refine Run.q (e:=vIv) (gv:=vIv) (os_l05At _) fun r116 _=>?_
      refine Run.q (e:=vIv) (gv:=vIv) (os_l05At _) fun r117 _=>?_
      refine Run.q (e:=vIv) (gv:=vIv) (os_DivI _ _) fun r118 _=>?_
      refine Run.q (e:=vIv) (gv:=vIv) (os_AtanI _) fun r119 _=>?_
      refine Run.q (e:=vIv) (gv:=vIv) (os_TurnI _) fun r120 _=>?_
      refine Run.q (e:=vIv) (gv:=vIv) (os_AddI _ _) fun r121 _=>?_
      exact Run.x 0
  ·refine Run.z [false,false,false,false,false] ?_
   refine Run.y (gv:=vIv) (fun _=>?_) (fun _=>?_)
   ·refine Run.q (e:=vIv) (gv:=vIv) (os_l05At _) fun r122 _=>?_
    refine Run.q (e:=vIv) (gv:=vIv) (os_l05At _) fun r123 _=>?_
    refine Run.q (e:=vIv) (gv:=vIv) (os_DivI _ _) fun r124 _=>?_
    refine Run.q (e:=vIv) (gv:=vIv) (os_AtanI _) fun r125 _=>?_
    exact Run.x 0
   ·refine Run.y (gv:=vIv) (fun _=>?_) (fun _=>?_)
    ·refine Run.q (e:=vIv) (gv:=vIv) (os_l05At _) fun r126 _=>?_
     refine Run.q (e:=vIv) (gv:=vIv) (os_l05At _) fun r127 _=>?_
     refine Run.q (e:=vIv) (gv:=vIv) (os_DivI _ _) fun r128 _=>?_
     refine Run.q (e:=vIv) (gv:=vIv) (os_AtanI _) fun r129 _=>?_
     refine Run.q (e:=vIv) (gv:=vIv) (os_TurnI _) fun r130 _=>?_
     refine Run.q (e:=vIv) (gv:=vIv) (os_AddI _ _) fun r131 _=>?_
     exact Run.x 0
    ·refine Run.q (e:=vIv) (gv:=vIv) (os_l05At _) fun r132 _=>?_
     refine Run.q (e:=vIv) (gv:=vIv) (os_l05At _) fun r133 _=>?_
     refine Run.q (e:=vIv) (gv:=vIv) (os_DivI _ _) fun r134 _=>?_
     refine Run.q (e:=vIv) (gv:=vIv) (os_AtanI _) fun r135 _=>?_
     refine Run.q (e:=vIv) (gv:=vIv) (os_TurnI _) fun r136 _=>?_
     refine Run.q (e:=vIv) (gv:=vIv) (os_AddI _ _) fun r137 _=>?_
     exact Run.x 0
 ·refine Run.y (gv:=vIv) (fun _=>?_) (fun _=>?_)
  ·refine Run.z [true,true,true,true] ?_
   refine Run.y (gv:=vIv) (fun _=>?_) (fun _=>?_)
   ·refine Run.y (gv:=vIv) (fun _=>?_) (fun _=>?_)
    ·refine Run.q (e:=vIv) (gv:=vIv) (os_TurnI _) fun r138 _=>?_
     refine Run.q (e:=vIv) (gv:=vIv) (os_l05At _) fun r139 _=>?_
     refine Run.q (e:=vIv) (gv:=vIv) (os_l05At _) fun r140 _=>?_
     refine Run.q (e:=vIv) (gv:=vIv) (os_DivI _ _) fun r141 _=>?_
     refine Run.q (e:=vIv) (gv:=vIv) (os_AtanI _) fun r142 _=>?_
     refine Run.q (e:=vIv) (gv:=vIv) (os_SubI _ _) fun r143 _=>?_
     exact Run.x 0
    ·refine Run.q (e:=vIv) (gv:=vIv) (os_TurnI _) fun r144 _=>?_
     refine Run.q (e:=vIv) (gv:=vIv) (os_l05At _) fun r145 _=>?_
     refine Run.q (e:=vIv) (gv:=vIv) (os_l05At _) fun r146 _=>?_
     refine Run.q (e:=vIv) (gv:=vIv) (os_DivI _ _) fun r147 _=>?_
     refine Run.q (e:=vIv) (gv:=vIv) (os_AtanI _) fun r148 _=>?_
     refine Run.q (e:=vIv) (gv:=vIv) (os_SubI _ _) fun r149 _=>?_
     exact Run.x 0
   ·refine Run.y (gv:=vIv) (fun _=>?_) (fun _=>?_)
    ·refine Run.q (e:=vIv) (gv:=vIv) (os_l05At _) fun r150 _=>?_
     refine Run.q (e:=vIv) (gv:=vIv) (os_l05At _) fun r151 _=>?_
     refine Run.q (e:=vIv) (gv:=vIv) (os_DivI _ _) fun r152 _=>?_
     refine Run.q (e:=vIv) (gv:=vIv) (os_AtanI _) fun r153 _=>?_
     exact Run.x 0
    ·refine Run.y (gv:=vIv) (fun _=>?_) (fun _=>?_)
     ·refine Run.q (e:=vIv) (gv:=vIv) (os_l05At _) fun r154 _=>?_
      refine Run.q (e:=vIv) (gv:=vIv) (os_l05At _) fun r155 _=>?_
      refine Run.q (e:=vIv) (gv:=vIv) (os_DivI _ _) fun r156 _=>?_
      refine Run.q (e:=vIv) (gv:=vIv) (os_AtanI _) fun r157 _=>?_
      refine Run.q (e:=vIv) (gv:=vIv) (os_TurnI _) fun r158 _=>?_
      refine Run.q (e:=vIv) (gv:=vIv) (os_AddI _ _) fun r159 _=>?_
      exact Run.x 0
     ·refine Run.q (e:=vIv) (gv:=vIv) (os_l05At _) fun r160 _=>?_
      refine Run.q (e:=vIv) (gv:=vIv) (os_l05At _) fun r161 _=>?_
      refine Run.q (e:=vIv) (gv:=vIv) (os_DivI _ _) fun r162 _=>?_
      refine Run.q (e:=vIv) (gv:=vIv) (os_AtanI _) fun r163 _=>?_
      refine Run.q (e:=vIv) (gv:=vIv) (os_TurnI _) fun r164 _=>?_
      refine Run.q (e:=vIv) (gv:=vIv) (os_AddI _ _) fun r165 _=>?_
      exact Run.x 0
  ·refine Run.z [false,false,false,false,false] ?_
   refine Run.y (gv:=vIv) (fun _=>?_) (fun _=>?_)
   ·refine Run.q (e:=vIv) (gv:=vIv) (os_l05At _) fun r166 _=>?_
    refine Run.q (e:=vIv) (gv:=vIv) (os_l05At _) fun r167 _=>?_
    refine Run.q (e:=vIv) (gv:=vIv) (os_DivI _ _) fun r168 _=>?_
    refine Run.q (e:=vIv) (gv:=vIv) (os_AtanI _) fun r169 _=>?_
    exact Run.x 0
   ·refine Run.y (gv:=vIv) (fun _=>?_) (fun _=>?_)
    ·refine Run.q (e:=vIv) (gv:=vIv) (os_l05At _) fun r170 _=>?_
     refine Run.q (e:=vIv) (gv:=vIv) (os_l05At _) fun r171 _=>?_
     refine Run.q (e:=vIv) (gv:=vIv) (os_DivI _ _) fun r172 _=>?_
     refine Run.q (e:=vIv) (gv:=vIv) (os_AtanI _) fun r173 _=>?_
     refine Run.q (e:=vIv) (gv:=vIv) (os_TurnI _) fun r174 _=>?_
     refine Run.q (e:=vIv) (gv:=vIv) (os_AddI _ _) fun r175 _=>?_
     exact Run.x 0
    ·refine Run.q (e:=vIv) (gv:=vIv) (os_l05At _) fun r176 _=>?_
     refine Run.q (e:=vIv) (gv:=vIv) (os_l05At _) fun r177 _=>?_
     refine Run.q (e:=vIv) (gv:=vIv) (os_DivI _ _) fun r178 _=>?_
     refine Run.q (e:=vIv) (gv:=vIv) (os_AtanI _) fun r179 _=>?_
     refine Run.q (e:=vIv) (gv:=vIv) (os_TurnI _) fun r180 _=>?_
     refine Run.q (e:=vIv) (gv:=vIv) (os_AddI _ _) fun r181 _=>?_
     exact Run.x 0
theorem os_DirectionAt (a0 : I64) (a1 : I64) : Fun Tryz.prog 206 [] #[vI a0,vI a1] (vIv (S_DirectionAt a0 a1)) []:=by
 refine Fun.ofH 400 E_ok mixed Tryz.func206 (by kernel_rfl) (by kernel_rfl) ?_
 unfold S_DirectionAt
 refine Run.q (e:=vB) (gv:=vIv) (os_l07Fix _) fun r1 _=>?_
 refine Run.y (gv:=vIv) (fun _=>?_) (fun _=>?_)
 ·refine Run.z [true,true,true,true,true,true,true,true,true] ?_
  refine Run.q (e:=vIv) (gv:=vIv) (os_Whole) fun r2 _=>?_
  exact Run.x 0
 ·refine Run.z [false] ?_
  refine Run.q (e:=vB) (gv:=vIv) (os_l07Fix _) fun r3 _=>?_
  refine Run.z [false,false] ?_
  refine Run.y (gv:=vIv) (fun _=>?_) (fun _=>?_)
  ·refine Run.z [true,true,true,true,true] ?_
   refine Run.q (e:=vIv) (gv:=vIv) (os_Whole) fun r4 _=>?_
   exact Run.x 0
  ·refine Run.z [false,false] ?_
   refine Run.y (gv:=vIv) (fun _=>?_) (fun _=>?_)
   ·refine Run.z [true,false,true,false] ?_
    refine Run.y (gv:=vIv) (fun _=>?_) (fun _=>?_)
    ·refine Run.q (e:=vIv) (gv:=vIv) (os_Whole) fun r5 _=>?_
     exact Run.x 0
    ·exact os_DirectionAt_cut1 a0 a1 r1 r3
   ·exact os_DirectionAt_cut2 a0 a1 r1 r3
end Go.Proofs.YtcdkepbgjgcjfaaGreat.Abs
