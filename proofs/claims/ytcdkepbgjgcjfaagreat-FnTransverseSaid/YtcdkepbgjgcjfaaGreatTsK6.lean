/- The program's functions are these; part 6 (written by w.py). -/
import Derived.Test.YtcdkepbgjgcjfaaGreatTsE
import Derived.Test.YtcdkepbgjgcjfaaGreatTsF4
import Derived.Test.YtcdkepbgjgcjfaaGreatTsQpre
import Derived.Test.YtcdkepbgjgcjfaaGreatTsK4
import Derived.Test.YtcdkepbgjgcjfaaGreatTsK5
set_option linter.unusedVariables false
set_option linter.unusedSimpArgs false
namespace Go.Proofs.YtcdkepbgjgcjfaaGreat.Abs
open Go Go.RowKit
theorem oi_scaled_L0 : ∀ (fu : Nat) (x_k : I64) (y_0 : Iv) (q0 : -100 ≤ x_k.val) (q1 : x_k.val ≤ 100) (hm : x_k.val.toNat < fu) (t : Array Value) (ht : maskA t [0,3,5,6,7,8,9,10,11,12,13,14,15,16,17,18,19,20,21,22,23,24,25,26] = #[undef,.int .i64 x_k.val,.pointer (some ⟨0,0,none⟩),undef,.pointer (some ⟨1,0,none⟩),undef,undef,undef,undef,undef,undef,undef,undef,undef,undef,undef,undef,undef,undef,undef,undef,undef,undef,undef,undef,undef,undef]),Cfg Tryz.prog 271 (loopAt Tryz.f271 0) t [(#[.int .i64 y_0.lo.val,.int .i64 y_0.hi.val],31),(#[.int .i64 0,.int .i64 0],31)] (RvH [] (vIv (I_scaled_L0 fu x_k y_0))):=by
 intro fu
 induction fu with
 | zero=>intro x_k y_0 q0 q1 hm; exact absurd hm (Nat.not_lt_zero _)
 | succ fu ih=>
  intro x_k y_0 q0 q1 hm t ht
  refine Cfg.round E_ok mixed Tryz.func271 ht fun g=>?_
  unfold I_scaled_L0
  refine Run.y (gv:=vIv) (fun h1=>?_) (fun h1=>?_)
  ·refine Run.q (e:=vIv) (gv:=vIv) (oi_DoubleI _) fun r2 hr2=>?_
   exact Run.l (by kernel_rfl) (by kernel_rfl) (by kernel_rfl) (by kernel_rfl) (ih (w64 (x_k.val - 1)) r2 (by first | omega | (simp only [w64_val,wu64_val,c64_val,cu64_val,decide_eq_true_eq,decide_eq_false_iff_not,cond_true,cond_false] at *; omega)) (by first | omega | (simp only [w64_val,wu64_val,c64_val,cu64_val,decide_eq_true_eq,decide_eq_false_iff_not,cond_true,cond_false] at *; omega)) (by first | omega | (simp only [w64_val,wu64_val,c64_val,cu64_val,decide_eq_true_eq,decide_eq_false_iff_not,cond_true,cond_false] at *; omega)))
  ·refine Run.q (e:=vB) (gv:=vIv) (oi_IsWhole _) fun r3 hr3=>?_
   refine Run.y (gv:=vIv) (fun h4=>?_) (fun h4=>?_)
   ·refine Run.q (e:=vIv) (gv:=vIv) (oi_Whole) fun r5 hr5=>?_
    exact Run.x 0
   ·refine Run.k (c:=(decide (0 ≤ (w64 (0 - x_k.val)).val))) (by kernel_rfl) (by simp only [w64_val,wu64_val,c64_val,cu64_val,decide_eq_true_eq,decide_eq_false_iff_not,cond_true,cond_false] at *; omega) ?_
    refine Run.k (c:=(decide (0 ≤ (w64 (0 - x_k.val)).val))) (by kernel_rfl) (by simp only [w64_val,wu64_val,c64_val,cu64_val,decide_eq_true_eq,decide_eq_false_iff_not,cond_true,cond_false] at *; omega) ?_
    exact Run.x 0
theorem oi_scaled (a0 : Iv) (a1 : I64) (p0 : -100 ≤ a1.val) (p1 : a1.val ≤ 100) : Fun Tryz.prog 271 [] #[vIv a0,vI a1] (vIv (I_scaled a0 a1)) []:=by
 refine Fun.ofH 400 E_ok mixed Tryz.func271 (by kernel_rfl) (by kernel_rfl) ?_
 unfold I_scaled
 exact Run.l (by kernel_rfl) (by kernel_rfl) (by kernel_rfl) (by kernel_rfl) (oi_scaled_L0 (a1.val.toNat + 1) a1 a0 (by first | omega | (simp only [w64_val,wu64_val,c64_val,cu64_val,decide_eq_true_eq,decide_eq_false_iff_not,cond_true,cond_false] at *; omega)) (by first | omega | (simp only [w64_val,wu64_val,c64_val,cu64_val,decide_eq_true_eq,decide_eq_false_iff_not,cond_true,cond_false] at *; omega)) (by first | omega | (simp only [w64_val,wu64_val,c64_val,cu64_val,decide_eq_true_eq,decide_eq_false_iff_not,cond_true,cond_false] at *; omega)))
theorem oi_ExpAt (a0 : I64) : Fun Tryz.prog 221 [] #[vI a0] (vIv (I_ExpAt a0)) []:=by
 refine Fun.ofH 400 E_ok mixed Tryz.func221 (by kernel_rfl) (by kernel_rfl) ?_
 unfold I_ExpAt
 refine Run.q (e:=vB) (gv:=vIv) (oi_ValidFix _) fun r1 hr1=>?_
 refine Run.y (gv:=vIv) (fun h2=>?_) (fun h2=>?_)
 ·refine Run.z [true,true,true] ?_
  refine Run.q (e:=vIv) (gv:=vIv) (oi_Whole) fun r3 hr3=>?_
  exact Run.x 0
 ·refine Run.z [false,false] ?_
  refine Run.y (gv:=vIv) (fun h4=>?_) (fun h4=>?_)
  ·refine Run.q (e:=vIv) (gv:=vIv) (oi_Whole) fun r5 hr5=>?_
   exact Run.x 0
  ·refine Run.y (gv:=vIv) (fun h6=>?_) (fun h6=>?_)
   ·exact Run.x 0
   ·refine Run.z [true] ?_
    refine Run.y (gv:=vIv) (fun h7=>?_) (fun h7=>?_)
    ·refine Run.q (e:=vIv) (gv:=vIv) (oi_at _) fun r8 hr8=>?_
     refine Run.q (e:=vIv) (gv:=vIv) (oi_LogTwoI _) fun r9 hr9=>?_
     refine Run.q (e:=vIv) (gv:=vIv) (oi_SubI _ _) fun r10 hr10=>?_
     refine Run.q (e:=vIv) (gv:=vIv) (oi_Integer _) fun r11 hr11=>?_
     refine Run.u 400 E_ok mixed Tryz.func221 ?_
     refine Run.z [true] ?_
     refine Run.q (e:=vIv) (gv:=vIv) (oi_Integer _) fun r12 hr12=>?_
     refine Run.q (e:=vIv) (gv:=vIv) (oi_MulI _ _) fun r13 hr13=>?_
     refine Run.q (e:=vIv) (gv:=vIv) (oi_Integer _) fun r14 hr14=>?_
     refine Run.q (e:=vIv) (gv:=vIv) (oi_DivI _ _) fun r15 hr15=>?_
     refine Run.q (e:=vIv) (gv:=vIv) (oi_AddI _ _) fun r16 hr16=>?_
     refine Run.u 400 E_ok mixed Tryz.func221 ?_
     refine Run.z [true] ?_
     refine Run.q (e:=vIv) (gv:=vIv) (oi_Integer _) fun r17 hr17=>?_
     refine Run.q (e:=vIv) (gv:=vIv) (oi_MulI _ _) fun r18 hr18=>?_
     refine Run.q (e:=vIv) (gv:=vIv) (oi_Integer _) fun r19 hr19=>?_
     refine Run.q (e:=vIv) (gv:=vIv) (oi_DivI _ _) fun r20 hr20=>?_
     refine Run.q (e:=vIv) (gv:=vIv) (oi_AddI _ _) fun r21 hr21=>?_
     refine Run.u 400 E_ok mixed Tryz.func221 ?_
     refine Run.z [true] ?_
     refine Run.q (e:=vIv) (gv:=vIv) (oi_Integer _) fun r22 hr22=>?_
     refine Run.q (e:=vIv) (gv:=vIv) (oi_MulI _ _) fun r23 hr23=>?_
     refine Run.q (e:=vIv) (gv:=vIv) (oi_Integer _) fun r24 hr24=>?_
     refine Run.q (e:=vIv) (gv:=vIv) (oi_DivI _ _) fun r25 hr25=>?_
     refine Run.q (e:=vIv) (gv:=vIv) (oi_AddI _ _) fun r26 hr26=>?_
     refine Run.u 400 E_ok mixed Tryz.func221 ?_
     refine Run.z [true] ?_
     refine Run.q (e:=vIv) (gv:=vIv) (oi_Integer _) fun r27 hr27=>?_
     refine Run.q (e:=vIv) (gv:=vIv) (oi_MulI _ _) fun r28 hr28=>?_
     refine Run.q (e:=vIv) (gv:=vIv) (oi_Integer _) fun r29 hr29=>?_
     refine Run.q (e:=vIv) (gv:=vIv) (oi_DivI _ _) fun r30 hr30=>?_
     refine Run.q (e:=vIv) (gv:=vIv) (oi_AddI _ _) fun r31 hr31=>?_
     refine Run.u 400 E_ok mixed Tryz.func221 ?_
     refine Run.z [true] ?_
     refine Run.q (e:=vIv) (gv:=vIv) (oi_Integer _) fun r32 hr32=>?_
     refine Run.q (e:=vIv) (gv:=vIv) (oi_MulI _ _) fun r33 hr33=>?_
     refine Run.q (e:=vIv) (gv:=vIv) (oi_Integer _) fun r34 hr34=>?_
     refine Run.q (e:=vIv) (gv:=vIv) (oi_DivI _ _) fun r35 hr35=>?_
     refine Run.q (e:=vIv) (gv:=vIv) (oi_AddI _ _) fun r36 hr36=>?_
     refine Run.u 400 E_ok mixed Tryz.func221 ?_
     refine Run.z [true] ?_
     refine Run.q (e:=vIv) (gv:=vIv) (oi_Integer _) fun r37 hr37=>?_
     refine Run.q (e:=vIv) (gv:=vIv) (oi_MulI _ _) fun r38 hr38=>?_
     refine Run.q (e:=vIv) (gv:=vIv) (oi_Integer _) fun r39 hr39=>?_
     refine Run.q (e:=vIv) (gv:=vIv) (oi_DivI _ _) fun r40 hr40=>?_
     refine Run.q (e:=vIv) (gv:=vIv) (oi_AddI _ _) fun r41 hr41=>?_
     refine Run.u 400 E_ok mixed Tryz.func221 ?_
     refine Run.z [true] ?_
     refine Run.q (e:=vIv) (gv:=vIv) (oi_Integer _) fun r42 hr42=>?_
     refine Run.q (e:=vIv) (gv:=vIv) (oi_MulI _ _) fun r43 hr43=>?_
     refine Run.q (e:=vIv) (gv:=vIv) (oi_Integer _) fun r44 hr44=>?_
     refine Run.q (e:=vIv) (gv:=vIv) (oi_DivI _ _) fun r45 hr45=>?_
     refine Run.q (e:=vIv) (gv:=vIv) (oi_AddI _ _) fun r46 hr46=>?_
     refine Run.u 400 E_ok mixed Tryz.func221 ?_
     refine Run.z [true] ?_
     refine Run.q (e:=vIv) (gv:=vIv) (oi_Integer _) fun r47 hr47=>?_
     refine Run.q (e:=vIv) (gv:=vIv) (oi_MulI _ _) fun r48 hr48=>?_
     refine Run.q (e:=vIv) (gv:=vIv) (oi_Integer _) fun r49 hr49=>?_
     refine Run.q (e:=vIv) (gv:=vIv) (oi_DivI _ _) fun r50 hr50=>?_
     refine Run.q (e:=vIv) (gv:=vIv) (oi_AddI _ _) fun r51 hr51=>?_
     refine Run.u 400 E_ok mixed Tryz.func221 ?_
     refine Run.z [true] ?_
     refine Run.q (e:=vIv) (gv:=vIv) (oi_Integer _) fun r52 hr52=>?_
     refine Run.q (e:=vIv) (gv:=vIv) (oi_MulI _ _) fun r53 hr53=>?_
     refine Run.q (e:=vIv) (gv:=vIv) (oi_Integer _) fun r54 hr54=>?_
     refine Run.q (e:=vIv) (gv:=vIv) (oi_DivI _ _) fun r55 hr55=>?_
     refine Run.q (e:=vIv) (gv:=vIv) (oi_AddI _ _) fun r56 hr56=>?_
     refine Run.u 400 E_ok mixed Tryz.func221 ?_
     refine Run.z [false] ?_
     refine Run.q (e:=vIv) (gv:=vIv) (oi_widened _ _) fun r57 hr57=>?_
     refine Run.q (e:=vIv) (gv:=vIv) (oi_scaled _ _ (by have z:=expk_range a0 h6 h4; first | exact z.1 | exact z.2.1 | exact z.2.2.1 | exact z.2.2.2) (by have z:=expk_range a0 h6 h4; first | exact z.1 | exact z.2.1 | exact z.2.2.1 | exact z.2.2.2)) fun r58 hr58=>?_
     exact Run.x 0
    ·refine Run.q (e:=vIv) (gv:=vIv) (oi_at _) fun r59 hr59=>?_
     refine Run.q (e:=vIv) (gv:=vIv) (oi_LogTwoI _) fun r60 hr60=>?_
     refine Run.q (e:=vIv) (gv:=vIv) (oi_SubI _ _) fun r61 hr61=>?_
     refine Run.q (e:=vIv) (gv:=vIv) (oi_Integer _) fun r62 hr62=>?_
     refine Run.u 400 E_ok mixed Tryz.func221 ?_
     refine Run.z [true] ?_
     refine Run.q (e:=vIv) (gv:=vIv) (oi_Integer _) fun r63 hr63=>?_
     refine Run.q (e:=vIv) (gv:=vIv) (oi_MulI _ _) fun r64 hr64=>?_
     refine Run.q (e:=vIv) (gv:=vIv) (oi_Integer _) fun r65 hr65=>?_
     refine Run.q (e:=vIv) (gv:=vIv) (oi_DivI _ _) fun r66 hr66=>?_
     refine Run.q (e:=vIv) (gv:=vIv) (oi_AddI _ _) fun r67 hr67=>?_
     refine Run.u 400 E_ok mixed Tryz.func221 ?_
     refine Run.z [true] ?_
     refine Run.q (e:=vIv) (gv:=vIv) (oi_Integer _) fun r68 hr68=>?_
     refine Run.q (e:=vIv) (gv:=vIv) (oi_MulI _ _) fun r69 hr69=>?_
     refine Run.q (e:=vIv) (gv:=vIv) (oi_Integer _) fun r70 hr70=>?_
     refine Run.q (e:=vIv) (gv:=vIv) (oi_DivI _ _) fun r71 hr71=>?_
     refine Run.q (e:=vIv) (gv:=vIv) (oi_AddI _ _) fun r72 hr72=>?_
     refine Run.u 400 E_ok mixed Tryz.func221 ?_
     refine Run.z [true] ?_
     refine Run.q (e:=vIv) (gv:=vIv) (oi_Integer _) fun r73 hr73=>?_
     refine Run.q (e:=vIv) (gv:=vIv) (oi_MulI _ _) fun r74 hr74=>?_
     refine Run.q (e:=vIv) (gv:=vIv) (oi_Integer _) fun r75 hr75=>?_
     refine Run.q (e:=vIv) (gv:=vIv) (oi_DivI _ _) fun r76 hr76=>?_
     refine Run.q (e:=vIv) (gv:=vIv) (oi_AddI _ _) fun r77 hr77=>?_
     refine Run.u 400 E_ok mixed Tryz.func221 ?_
     refine Run.z [true] ?_
     refine Run.q (e:=vIv) (gv:=vIv) (oi_Integer _) fun r78 hr78=>?_
     refine Run.q (e:=vIv) (gv:=vIv) (oi_MulI _ _) fun r79 hr79=>?_
     refine Run.q (e:=vIv) (gv:=vIv) (oi_Integer _) fun r80 hr80=>?_
     refine Run.q (e:=vIv) (gv:=vIv) (oi_DivI _ _) fun r81 hr81=>?_
     refine Run.q (e:=vIv) (gv:=vIv) (oi_AddI _ _) fun r82 hr82=>?_
     refine Run.u 400 E_ok mixed Tryz.func221 ?_
     refine Run.z [true] ?_
     refine Run.q (e:=vIv) (gv:=vIv) (oi_Integer _) fun r83 hr83=>?_
     refine Run.q (e:=vIv) (gv:=vIv) (oi_MulI _ _) fun r84 hr84=>?_
     refine Run.q (e:=vIv) (gv:=vIv) (oi_Integer _) fun r85 hr85=>?_
     refine Run.q (e:=vIv) (gv:=vIv) (oi_DivI _ _) fun r86 hr86=>?_
     refine Run.q (e:=vIv) (gv:=vIv) (oi_AddI _ _) fun r87 hr87=>?_
     refine Run.u 400 E_ok mixed Tryz.func221 ?_
     refine Run.z [true] ?_
     refine Run.q (e:=vIv) (gv:=vIv) (oi_Integer _) fun r88 hr88=>?_
     refine Run.q (e:=vIv) (gv:=vIv) (oi_MulI _ _) fun r89 hr89=>?_
     refine Run.q (e:=vIv) (gv:=vIv) (oi_Integer _) fun r90 hr90=>?_
     refine Run.q (e:=vIv) (gv:=vIv) (oi_DivI _ _) fun r91 hr91=>?_
     refine Run.q (e:=vIv) (gv:=vIv) (oi_AddI _ _) fun r92 hr92=>?_
     refine Run.u 400 E_ok mixed Tryz.func221 ?_
     refine Run.z [true] ?_
     refine Run.q (e:=vIv) (gv:=vIv) (oi_Integer _) fun r93 hr93=>?_
     refine Run.q (e:=vIv) (gv:=vIv) (oi_MulI _ _) fun r94 hr94=>?_
     refine Run.q (e:=vIv) (gv:=vIv) (oi_Integer _) fun r95 hr95=>?_
     refine Run.q (e:=vIv) (gv:=vIv) (oi_DivI _ _) fun r96 hr96=>?_
     refine Run.q (e:=vIv) (gv:=vIv) (oi_AddI _ _) fun r97 hr97=>?_
     refine Run.u 400 E_ok mixed Tryz.func221 ?_
     refine Run.z [true] ?_
     refine Run.q (e:=vIv) (gv:=vIv) (oi_Integer _) fun r98 hr98=>?_
     refine Run.q (e:=vIv) (gv:=vIv) (oi_MulI _ _) fun r99 hr99=>?_
     refine Run.q (e:=vIv) (gv:=vIv) (oi_Integer _) fun r100 hr100=>?_
     refine Run.q (e:=vIv) (gv:=vIv) (oi_DivI _ _) fun r101 hr101=>?_
     refine Run.q (e:=vIv) (gv:=vIv) (oi_AddI _ _) fun r102 hr102=>?_
     refine Run.u 400 E_ok mixed Tryz.func221 ?_
     refine Run.z [true] ?_
     refine Run.q (e:=vIv) (gv:=vIv) (oi_Integer _) fun r103 hr103=>?_
     refine Run.q (e:=vIv) (gv:=vIv) (oi_MulI _ _) fun r104 hr104=>?_
     refine Run.q (e:=vIv) (gv:=vIv) (oi_Integer _) fun r105 hr105=>?_
     refine Run.q (e:=vIv) (gv:=vIv) (oi_DivI _ _) fun r106 hr106=>?_
     refine Run.q (e:=vIv) (gv:=vIv) (oi_AddI _ _) fun r107 hr107=>?_
     refine Run.u 400 E_ok mixed Tryz.func221 ?_
     refine Run.z [false] ?_
     refine Run.q (e:=vIv) (gv:=vIv) (oi_widened _ _) fun r108 hr108=>?_
     refine Run.q (e:=vIv) (gv:=vIv) (oi_scaled _ _ (by have z:=expk_range a0 h6 h4; first | exact z.1 | exact z.2.1 | exact z.2.2.1 | exact z.2.2.2) (by have z:=expk_range a0 h6 h4; first | exact z.1 | exact z.2.1 | exact z.2.2.1 | exact z.2.2.2)) fun r109 hr109=>?_
     exact Run.x 0
theorem oi_CoshI_1 (a0 : I64) : Fun Tryz.prog 220 [] #[vI a0] (vIv (I_CoshI_1 a0)) []:=by
 refine Fun.ofH 400 E_ok mixed Tryz.func220 (by kernel_rfl) (by kernel_rfl) ?_
 unfold I_CoshI_1
 refine Run.q (e:=vIv) (gv:=vIv) (oi_ExpAt _) fun r1 _=>?_
 refine Run.q (e:=vIv) (gv:=vIv) (oi_ExpAt _) fun r2 _=>?_
 refine Run.q (e:=vIv) (gv:=vIv) (oi_AddI _ _) fun r3 _=>?_
 refine Run.q (e:=vIv) (gv:=vIv) (oi_HalfI _) fun r4 _=>?_
 exact Run.x 0
theorem oi_monotonic__impl_CoshI_1 (a0 : Iv) : Fun Tryz.prog 212 [] #[vIv a0,.func (.func 220) #[] #[]] (vIv (I_monotonic__impl_CoshI_1 a0)) []:=by
 refine Fun.ofH 400 E_ok mixed Tryz.func212 (by kernel_rfl) (by kernel_rfl) ?_
 unfold I_monotonic__impl_CoshI_1
 refine Run.q (e:=vB) (gv:=vIv) (oi_IsWhole _) fun r1 _=>?_
 refine Run.y (gv:=vIv) (fun _=>?_) (fun _=>?_)
 ·refine Run.q (e:=vIv) (gv:=vIv) (oi_Whole) fun r2 _=>?_
  exact Run.x 0
 ·refine Run.q (e:=vIv) (gv:=vIv) (oi_CoshI_1 _) fun r3 _=>?_
  refine Run.q (e:=vIv) (gv:=vIv) (oi_CoshI_1 _) fun r4 _=>?_
  refine Run.q (e:=vB) (gv:=vIv) (oi_areBounded _ _) fun r5 _=>?_
  refine Run.y (gv:=vIv) (fun _=>?_) (fun _=>?_)
  ·refine Run.q (e:=vIv) (gv:=vIv) (oi_Whole) fun r6 _=>?_
   exact Run.x 0
  ·refine Run.q (e:=vIv) (gv:=vIv) (oi_bounded _ _ _) fun r7 _=>?_
   exact Run.x 0
theorem oi_CoshI (a0 : Iv) : Fun Tryz.prog 139 [] #[vIv a0] (vIv (I_CoshI a0)) []:=by
 refine Fun.ofH 400 E_ok mixed Tryz.func139 (by kernel_rfl) (by kernel_rfl) ?_
 unfold I_CoshI
 refine Run.q (e:=vIv) (gv:=vIv) (oi_AbsI _) fun r1 _=>?_
 refine Run.q (e:=vIv) (gv:=vIv) (oi_monotonic__impl_CoshI_1 _) fun r2 _=>?_
 exact Run.x 0
theorem oi_CircleAt (a0 : I64) : Fun Tryz.prog 273 [] #[vI a0] (vIv (I_CircleAt a0)) []:=by
 refine Fun.ofH 400 E_ok mixed Tryz.func273 (by kernel_rfl) (by kernel_rfl) ?_
 unfold I_CircleAt
 refine Run.q (e:=vB) (gv:=vIv) (oi_within _ _ _) fun r1 _=>?_
 refine Run.y (gv:=vIv) (fun _=>?_) (fun _=>?_)
 ·refine Run.q (e:=vIv) (gv:=vIv) (oi_Whole) fun r2 _=>?_
  exact Run.x 0
 ·refine Run.q (e:=vT_I_B) (gv:=vIv) (oi_SqrtFloor _ _) fun r3 _=>?_
  refine Run.q (e:=vWd) (gv:=vIv) (oi_WideMul _ _) fun r4 _=>?_
  refine Run.q (e:=vWd) (gv:=vIv) (oi_WideMul _ _) fun r5 _=>?_
  refine Run.y (gv:=vIv) (fun _=>?_) (fun _=>?_)
  ·refine Run.q (e:=vIv) (gv:=vIv) (oi_at _) fun r6 _=>?_
   exact Run.x 0
  ·exact Run.x 0
theorem oi_AsinAt (a0 : I64) : Fun Tryz.prog 223 [] #[vI a0] (vIv (I_AsinAt a0)) []:=by
 refine Fun.ofH 400 E_ok mixed Tryz.func223 (by kernel_rfl) (by kernel_rfl) ?_
 unfold I_AsinAt
 refine Run.q (e:=vB) (gv:=vIv) (oi_within _ _ _) fun r1 _=>?_
 refine Run.y (gv:=vIv) (fun _=>?_) (fun _=>?_)
 ·refine Run.q (e:=vIv) (gv:=vIv) (oi_Whole) fun r2 _=>?_
  exact Run.x 0
 ·refine Run.q (e:=vIv) (gv:=vIv) (oi_at _) fun r3 _=>?_
  refine Run.q (e:=vIv) (gv:=vIv) (oi_Integer _) fun r4 _=>?_
  refine Run.q (e:=vIv) (gv:=vIv) (oi_CircleAt _) fun r5 _=>?_
  refine Run.q (e:=vIv) (gv:=vIv) (oi_AddI _ _) fun r6 _=>?_
  refine Run.q (e:=vIv) (gv:=vIv) (oi_DivI _ _) fun r7 _=>?_
  refine Run.q (e:=vIv) (gv:=vIv) (oi_AtanI _) fun r8 _=>?_
  refine Run.q (e:=vIv) (gv:=vIv) (oi_DoubleI _) fun r9 _=>?_
  refine Run.q (e:=vIv) (gv:=vIv) (oi_halfCircle) fun r10 _=>?_
  refine Run.q (e:=vT_Iv_B) (gv:=vIv) (oi_MeetI _ _) fun r11 _=>?_
  exact Run.x 0
theorem oi_AsinI (a0 : Iv) : Fun Tryz.prog 140 [] #[vIv a0] (vIv (I_AsinI a0)) []:=by
 refine Fun.ofH 400 E_ok mixed Tryz.func140 (by kernel_rfl) (by kernel_rfl) ?_
 unfold I_AsinI
 refine Run.q (e:=vIv) (gv:=vIv) (oi_ring) fun r1 _=>?_
 refine Run.q (e:=vT_Iv_B) (gv:=vIv) (oi_MeetI _ _) fun r2 _=>?_
 refine Run.y (gv:=vIv) (fun _=>?_) (fun _=>?_)
 ·refine Run.q (e:=vIv) (gv:=vIv) (oi_Whole) fun r3 _=>?_
  exact Run.x 0
 ·refine Run.q (e:=vIv) (gv:=vIv) (oi_AsinAt _) fun r4 _=>?_
  refine Run.q (e:=vIv) (gv:=vIv) (oi_AsinAt _) fun r5 _=>?_
  refine Run.q (e:=vIv) (gv:=vIv) (oi_HullI _ _) fun r6 _=>?_
  exact Run.x 0
theorem oi_SinhI_1 (a0 : I64) : Fun Tryz.prog 225 [] #[vI a0] (vIv (I_SinhI_1 a0)) []:=by
 refine Fun.ofH 400 E_ok mixed Tryz.func225 (by kernel_rfl) (by kernel_rfl) ?_
 unfold I_SinhI_1
 refine Run.q (e:=vIv) (gv:=vIv) (oi_ExpAt _) fun r1 _=>?_
 refine Run.q (e:=vIv) (gv:=vIv) (oi_ExpAt _) fun r2 _=>?_
 refine Run.q (e:=vIv) (gv:=vIv) (oi_SubI _ _) fun r3 _=>?_
 refine Run.q (e:=vIv) (gv:=vIv) (oi_HalfI _) fun r4 _=>?_
 exact Run.x 0
theorem oi_monotonic__impl_SinhI_1 (a0 : Iv) : Fun Tryz.prog 212 [] #[vIv a0,.func (.func 225) #[] #[]] (vIv (I_monotonic__impl_SinhI_1 a0)) []:=by
 refine Fun.ofH 400 E_ok mixed Tryz.func212 (by kernel_rfl) (by kernel_rfl) ?_
 unfold I_monotonic__impl_SinhI_1
 refine Run.q (e:=vB) (gv:=vIv) (oi_IsWhole _) fun r1 _=>?_
 refine Run.y (gv:=vIv) (fun _=>?_) (fun _=>?_)
 ·refine Run.q (e:=vIv) (gv:=vIv) (oi_Whole) fun r2 _=>?_
  exact Run.x 0
 ·refine Run.q (e:=vIv) (gv:=vIv) (oi_SinhI_1 _) fun r3 _=>?_
  refine Run.q (e:=vIv) (gv:=vIv) (oi_SinhI_1 _) fun r4 _=>?_
  refine Run.q (e:=vB) (gv:=vIv) (oi_areBounded _ _) fun r5 _=>?_
  refine Run.y (gv:=vIv) (fun _=>?_) (fun _=>?_)
  ·refine Run.q (e:=vIv) (gv:=vIv) (oi_Whole) fun r6 _=>?_
   exact Run.x 0
  ·refine Run.q (e:=vIv) (gv:=vIv) (oi_bounded _ _ _) fun r7 _=>?_
   exact Run.x 0
theorem oi_SinhI (a0 : Iv) : Fun Tryz.prog 143 [] #[vIv a0] (vIv (I_SinhI a0)) []:=by
 refine Fun.ofH 400 E_ok mixed Tryz.func143 (by kernel_rfl) (by kernel_rfl) ?_
 unfold I_SinhI
 refine Run.q (e:=vIv) (gv:=vIv) (oi_monotonic__impl_SinhI_1 _) fun r1 _=>?_
 exact Run.x 0
theorem oi_TransverseInverse (a0 : Pj) (a1 : Pn) : Fun Tryz.prog 46 [] #[vPj a0,vPn a1] (vT_Iv_Iv_I (I_TransverseInverse a0 a1)) []:=by
 refine Fun.ofH 400 E_ok mixed Tryz.func46 (by kernel_rfl) (by kernel_rfl) ?_
 unfold I_TransverseInverse
 refine Run.q (e:=vB) (gv:=vT_Iv_Iv_I) (oi_isTransverse _) fun r1 _=>?_
 refine Run.y (gv:=vT_Iv_Iv_I) (fun _=>?_) (fun _=>?_)
 ·exact Run.x 0
 ·refine Run.q (e:=vIv) (gv:=vT_Iv_Iv_I) (oi_RadiansOf _) fun r2 _=>?_
  refine Run.q (e:=vIv) (gv:=vT_Iv_Iv_I) (oi_AddI _ _) fun r3 _=>?_
  refine Run.q (e:=vIv) (gv:=vT_Iv_Iv_I) (oi_SinI _) fun r4 _=>?_
  refine Run.q (e:=vIv) (gv:=vT_Iv_Iv_I) (oi_CoshI _) fun r5 _=>?_
  refine Run.q (e:=vIv) (gv:=vT_Iv_Iv_I) (oi_DivI _ _) fun r6 _=>?_
  refine Run.q (e:=vIv) (gv:=vT_Iv_Iv_I) (oi_AsinI _) fun r7 _=>?_
  refine Run.q (e:=vB) (gv:=vT_Iv_Iv_I) (oi_areBounded _ _) fun r8 _=>?_
  refine Run.y (gv:=vT_Iv_Iv_I) (fun _=>?_) (fun _=>?_)
  ·refine Run.z [true,true,true] ?_
   exact Run.x 0
  ·refine Run.z [false] ?_
   refine Run.q (e:=vB) (gv:=vT_Iv_Iv_I) (oi_IsWhole _) fun r9 _=>?_
   refine Run.z [false] ?_
   refine Run.y (gv:=vT_Iv_Iv_I) (fun _=>?_) (fun _=>?_)
   ·exact Run.x 0
   ·refine Run.q (e:=vIv) (gv:=vT_Iv_Iv_I) (oi_RadiansOf _) fun r10 _=>?_
    refine Run.q (e:=vIv) (gv:=vT_Iv_Iv_I) (oi_SinhI _) fun r11 _=>?_
    refine Run.q (e:=vIv) (gv:=vT_Iv_Iv_I) (oi_CosI _) fun r12 _=>?_
    refine Run.q (e:=vIv) (gv:=vT_Iv_Iv_I) (oi_DirectionI _ _) fun r13 _=>?_
    refine Run.q (e:=vIv) (gv:=vT_Iv_Iv_I) (oi_AddI _ _) fun r14 _=>?_
    exact Run.x 0
theorem oi_TransverseTurn (a0 : Pj) (a1 : Pt) : Fun Tryz.prog 47 [] #[vPj a0,vPt a1] (vT_Iv_I (I_TransverseTurn a0 a1)) []:=by
 refine Fun.ofH 400 E_ok mixed Tryz.func47 (by kernel_rfl) (by kernel_rfl) ?_
 unfold I_TransverseTurn
 refine Run.q (e:=vT_Iv_Iv_Iv_I) (gv:=vT_Iv_I) (oi_transverse _ _) fun r1 _=>?_
 refine Run.y (gv:=vT_Iv_I) (fun _=>?_) (fun _=>?_)
 ·exact Run.x 0
 ·refine Run.q (e:=vIv) (gv:=vT_Iv_I) (oi_SinI _) fun r2 _=>?_
  refine Run.q (e:=vIv) (gv:=vT_Iv_I) (oi_SinI _) fun r3 _=>?_
  refine Run.q (e:=vIv) (gv:=vT_Iv_I) (oi_MulI _ _) fun r4 _=>?_
  refine Run.q (e:=vIv) (gv:=vT_Iv_I) (oi_CosI _) fun r5 _=>?_
  refine Run.q (e:=vIv) (gv:=vT_Iv_I) (oi_DirectionI _ _) fun r6 _=>?_
  refine Run.q (e:=vT_Iv_I) (gv:=vT_Iv_I) (oi_knownI _) fun r7 _=>?_
  exact Run.x 0
end Go.Proofs.YtcdkepbgjgcjfaaGreat.Abs
