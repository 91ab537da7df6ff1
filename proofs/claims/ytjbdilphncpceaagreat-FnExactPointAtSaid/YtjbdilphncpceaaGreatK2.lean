/- The program's functions are these; part 2 (written by w.py). -/
import Derived.Test.YtjbdilphncpceaaGreatE
import Derived.Test.YtjbdilphncpceaaGreatF5
import Derived.Test.YtjbdilphncpceaaGreatQpre
import Derived.Test.YtjbdilphncpceaaGreatK1
set_option linter.unusedVariables false
set_option linter.unusedSimpArgs false
namespace Go.Proofs.YtjbdilphncpceaaGreat.Abs
open Go Go.RowKit

theorem ok_spec_ExpAt (a0 : I64) : Fun Tryz.prog 256 [] #[vI a0] (vIv (F_spec_ExpAt a0)) [] := by
  refine Fun.ofH 400 E_ok mixed Tryz.func256 (by kernel_rfl) (by kernel_rfl) ?_
  unfold F_spec_ExpAt
  refine Run.q (e := vB) (gv := vIv) (ok_spec_l03Ok _) fun r1 hr1 => ?_
  refine Run.y (gv := vIv) (fun h2 => ?_) (fun h2 => ?_)
  · refine Run.z [true, true, true] ?_
    refine Run.q (e := vIv) (gv := vIv) (ok_spec_l04Whole) fun r3 hr3 => ?_
    exact Run.x 0
  · refine Run.z [false, false] ?_
    refine Run.y (gv := vIv) (fun h4 => ?_) (fun h4 => ?_)
    · refine Run.q (e := vIv) (gv := vIv) (ok_spec_l04Whole) fun r5 hr5 => ?_
      exact Run.x 0
    · refine Run.y (gv := vIv) (fun h6 => ?_) (fun h6 => ?_)
      · exact Run.x 0
      · refine Run.z [true, true] ?_
        refine Run.y (gv := vIv) (fun h7 => ?_) (fun h7 => ?_)
        · refine Run.q (e := vIv) (gv := vIv) (ok_spec_l08At _) fun r8 hr8 => ?_
          refine Run.q (e := vIv) (gv := vIv) (ok_spec_LogTwoI _) fun r9 hr9 => ?_
          refine Run.q (e := vIv) (gv := vIv) (ok_spec_SubI _ _) fun r10 hr10 => ?_
          refine Run.q (e := vIv) (gv := vIv) (ok_spec_l08One) fun r11 hr11 => ?_
          refine Run.u 400 E_ok mixed Tryz.func256 ?_
          refine Run.z [true] ?_
          refine Run.q (e := vIv) (gv := vIv) (ok_spec_l08One) fun r12 hr12 => ?_
          refine Run.q (e := vIv) (gv := vIv) (ok_spec_MulI _ _) fun r13 hr13 => ?_
          refine Run.q (e := vIv) (gv := vIv) (ok_spec_Integer _) fun r14 hr14 => ?_
          refine Run.q (e := vIv) (gv := vIv) (ok_spec_DivI _ _) fun r15 hr15 => ?_
          refine Run.q (e := vIv) (gv := vIv) (ok_spec_AddI _ _) fun r16 hr16 => ?_
          refine Run.u 400 E_ok mixed Tryz.func256 ?_
          refine Run.z [true] ?_
          refine Run.q (e := vIv) (gv := vIv) (ok_spec_l08One) fun r17 hr17 => ?_
          refine Run.q (e := vIv) (gv := vIv) (ok_spec_MulI _ _) fun r18 hr18 => ?_
          refine Run.q (e := vIv) (gv := vIv) (ok_spec_Integer _) fun r19 hr19 => ?_
          refine Run.q (e := vIv) (gv := vIv) (ok_spec_DivI _ _) fun r20 hr20 => ?_
          refine Run.q (e := vIv) (gv := vIv) (ok_spec_AddI _ _) fun r21 hr21 => ?_
          refine Run.u 400 E_ok mixed Tryz.func256 ?_
          refine Run.z [true] ?_
          refine Run.q (e := vIv) (gv := vIv) (ok_spec_l08One) fun r22 hr22 => ?_
          refine Run.q (e := vIv) (gv := vIv) (ok_spec_MulI _ _) fun r23 hr23 => ?_
          refine Run.q (e := vIv) (gv := vIv) (ok_spec_Integer _) fun r24 hr24 => ?_
          refine Run.q (e := vIv) (gv := vIv) (ok_spec_DivI _ _) fun r25 hr25 => ?_
          refine Run.q (e := vIv) (gv := vIv) (ok_spec_AddI _ _) fun r26 hr26 => ?_
          refine Run.u 400 E_ok mixed Tryz.func256 ?_
          refine Run.z [true] ?_
          refine Run.q (e := vIv) (gv := vIv) (ok_spec_l08One) fun r27 hr27 => ?_
          refine Run.q (e := vIv) (gv := vIv) (ok_spec_MulI _ _) fun r28 hr28 => ?_
          refine Run.q (e := vIv) (gv := vIv) (ok_spec_Integer _) fun r29 hr29 => ?_
          refine Run.q (e := vIv) (gv := vIv) (ok_spec_DivI _ _) fun r30 hr30 => ?_
          refine Run.q (e := vIv) (gv := vIv) (ok_spec_AddI _ _) fun r31 hr31 => ?_
          refine Run.u 400 E_ok mixed Tryz.func256 ?_
          refine Run.z [true] ?_
          refine Run.q (e := vIv) (gv := vIv) (ok_spec_l08One) fun r32 hr32 => ?_
          refine Run.q (e := vIv) (gv := vIv) (ok_spec_MulI _ _) fun r33 hr33 => ?_
          refine Run.q (e := vIv) (gv := vIv) (ok_spec_Integer _) fun r34 hr34 => ?_
          refine Run.q (e := vIv) (gv := vIv) (ok_spec_DivI _ _) fun r35 hr35 => ?_
          refine Run.q (e := vIv) (gv := vIv) (ok_spec_AddI _ _) fun r36 hr36 => ?_
          refine Run.u 400 E_ok mixed Tryz.func256 ?_
          refine Run.z [true] ?_
          refine Run.q (e := vIv) (gv := vIv) (ok_spec_l08One) fun r37 hr37 => ?_
          refine Run.q (e := vIv) (gv := vIv) (ok_spec_MulI _ _) fun r38 hr38 => ?_
          refine Run.q (e := vIv) (gv := vIv) (ok_spec_Integer _) fun r39 hr39 => ?_
          refine Run.q (e := vIv) (gv := vIv) (ok_spec_DivI _ _) fun r40 hr40 => ?_
          refine Run.q (e := vIv) (gv := vIv) (ok_spec_AddI _ _) fun r41 hr41 => ?_
          refine Run.u 400 E_ok mixed Tryz.func256 ?_
          refine Run.z [true] ?_
          refine Run.q (e := vIv) (gv := vIv) (ok_spec_l08One) fun r42 hr42 => ?_
          refine Run.q (e := vIv) (gv := vIv) (ok_spec_MulI _ _) fun r43 hr43 => ?_
          refine Run.q (e := vIv) (gv := vIv) (ok_spec_Integer _) fun r44 hr44 => ?_
          refine Run.q (e := vIv) (gv := vIv) (ok_spec_DivI _ _) fun r45 hr45 => ?_
          refine Run.q (e := vIv) (gv := vIv) (ok_spec_AddI _ _) fun r46 hr46 => ?_
          refine Run.u 400 E_ok mixed Tryz.func256 ?_
          refine Run.z [true] ?_
          refine Run.q (e := vIv) (gv := vIv) (ok_spec_l08One) fun r47 hr47 => ?_
          refine Run.q (e := vIv) (gv := vIv) (ok_spec_MulI _ _) fun r48 hr48 => ?_
          refine Run.q (e := vIv) (gv := vIv) (ok_spec_Integer _) fun r49 hr49 => ?_
          refine Run.q (e := vIv) (gv := vIv) (ok_spec_DivI _ _) fun r50 hr50 => ?_
          refine Run.q (e := vIv) (gv := vIv) (ok_spec_AddI _ _) fun r51 hr51 => ?_
          refine Run.u 400 E_ok mixed Tryz.func256 ?_
          refine Run.z [true] ?_
          refine Run.q (e := vIv) (gv := vIv) (ok_spec_l08One) fun r52 hr52 => ?_
          refine Run.q (e := vIv) (gv := vIv) (ok_spec_MulI _ _) fun r53 hr53 => ?_
          refine Run.q (e := vIv) (gv := vIv) (ok_spec_Integer _) fun r54 hr54 => ?_
          refine Run.q (e := vIv) (gv := vIv) (ok_spec_DivI _ _) fun r55 hr55 => ?_
          refine Run.q (e := vIv) (gv := vIv) (ok_spec_AddI _ _) fun r56 hr56 => ?_
          refine Run.u 400 E_ok mixed Tryz.func256 ?_
          refine Run.z [false] ?_
          refine Run.q (e := vIv) (gv := vIv) (ok_spec_l08Widen _ _) fun r57 hr57 => ?_
          refine Run.q (e := vIv) (gv := vIv) (ok_spec_l08Scale _ _) fun r58 hr58 => ?_
          exact Run.x 0
        · refine Run.q (e := vIv) (gv := vIv) (ok_spec_l08At _) fun r59 hr59 => ?_
          refine Run.q (e := vIv) (gv := vIv) (ok_spec_LogTwoI _) fun r60 hr60 => ?_
          refine Run.q (e := vIv) (gv := vIv) (ok_spec_SubI _ _) fun r61 hr61 => ?_
          refine Run.q (e := vIv) (gv := vIv) (ok_spec_l08One) fun r62 hr62 => ?_
          refine Run.u 400 E_ok mixed Tryz.func256 ?_
          refine Run.z [true] ?_
          refine Run.q (e := vIv) (gv := vIv) (ok_spec_l08One) fun r63 hr63 => ?_
          refine Run.q (e := vIv) (gv := vIv) (ok_spec_MulI _ _) fun r64 hr64 => ?_
          refine Run.q (e := vIv) (gv := vIv) (ok_spec_Integer _) fun r65 hr65 => ?_
          refine Run.q (e := vIv) (gv := vIv) (ok_spec_DivI _ _) fun r66 hr66 => ?_
          refine Run.q (e := vIv) (gv := vIv) (ok_spec_AddI _ _) fun r67 hr67 => ?_
          refine Run.u 400 E_ok mixed Tryz.func256 ?_
          refine Run.z [true] ?_
          refine Run.q (e := vIv) (gv := vIv) (ok_spec_l08One) fun r68 hr68 => ?_
          refine Run.q (e := vIv) (gv := vIv) (ok_spec_MulI _ _) fun r69 hr69 => ?_
          refine Run.q (e := vIv) (gv := vIv) (ok_spec_Integer _) fun r70 hr70 => ?_
          refine Run.q (e := vIv) (gv := vIv) (ok_spec_DivI _ _) fun r71 hr71 => ?_
          refine Run.q (e := vIv) (gv := vIv) (ok_spec_AddI _ _) fun r72 hr72 => ?_
          refine Run.u 400 E_ok mixed Tryz.func256 ?_
          refine Run.z [true] ?_
          refine Run.q (e := vIv) (gv := vIv) (ok_spec_l08One) fun r73 hr73 => ?_
          refine Run.q (e := vIv) (gv := vIv) (ok_spec_MulI _ _) fun r74 hr74 => ?_
          refine Run.q (e := vIv) (gv := vIv) (ok_spec_Integer _) fun r75 hr75 => ?_
          refine Run.q (e := vIv) (gv := vIv) (ok_spec_DivI _ _) fun r76 hr76 => ?_
          refine Run.q (e := vIv) (gv := vIv) (ok_spec_AddI _ _) fun r77 hr77 => ?_
          refine Run.u 400 E_ok mixed Tryz.func256 ?_
          refine Run.z [true] ?_
          refine Run.q (e := vIv) (gv := vIv) (ok_spec_l08One) fun r78 hr78 => ?_
          refine Run.q (e := vIv) (gv := vIv) (ok_spec_MulI _ _) fun r79 hr79 => ?_
          refine Run.q (e := vIv) (gv := vIv) (ok_spec_Integer _) fun r80 hr80 => ?_
          refine Run.q (e := vIv) (gv := vIv) (ok_spec_DivI _ _) fun r81 hr81 => ?_
          refine Run.q (e := vIv) (gv := vIv) (ok_spec_AddI _ _) fun r82 hr82 => ?_
          refine Run.u 400 E_ok mixed Tryz.func256 ?_
          refine Run.z [true] ?_
          refine Run.q (e := vIv) (gv := vIv) (ok_spec_l08One) fun r83 hr83 => ?_
          refine Run.q (e := vIv) (gv := vIv) (ok_spec_MulI _ _) fun r84 hr84 => ?_
          refine Run.q (e := vIv) (gv := vIv) (ok_spec_Integer _) fun r85 hr85 => ?_
          refine Run.q (e := vIv) (gv := vIv) (ok_spec_DivI _ _) fun r86 hr86 => ?_
          refine Run.q (e := vIv) (gv := vIv) (ok_spec_AddI _ _) fun r87 hr87 => ?_
          refine Run.u 400 E_ok mixed Tryz.func256 ?_
          refine Run.z [true] ?_
          refine Run.q (e := vIv) (gv := vIv) (ok_spec_l08One) fun r88 hr88 => ?_
          refine Run.q (e := vIv) (gv := vIv) (ok_spec_MulI _ _) fun r89 hr89 => ?_
          refine Run.q (e := vIv) (gv := vIv) (ok_spec_Integer _) fun r90 hr90 => ?_
          refine Run.q (e := vIv) (gv := vIv) (ok_spec_DivI _ _) fun r91 hr91 => ?_
          refine Run.q (e := vIv) (gv := vIv) (ok_spec_AddI _ _) fun r92 hr92 => ?_
          refine Run.u 400 E_ok mixed Tryz.func256 ?_
          refine Run.z [true] ?_
          refine Run.q (e := vIv) (gv := vIv) (ok_spec_l08One) fun r93 hr93 => ?_
          refine Run.q (e := vIv) (gv := vIv) (ok_spec_MulI _ _) fun r94 hr94 => ?_
          refine Run.q (e := vIv) (gv := vIv) (ok_spec_Integer _) fun r95 hr95 => ?_
          refine Run.q (e := vIv) (gv := vIv) (ok_spec_DivI _ _) fun r96 hr96 => ?_
          refine Run.q (e := vIv) (gv := vIv) (ok_spec_AddI _ _) fun r97 hr97 => ?_
          refine Run.u 400 E_ok mixed Tryz.func256 ?_
          refine Run.z [true] ?_
          refine Run.q (e := vIv) (gv := vIv) (ok_spec_l08One) fun r98 hr98 => ?_
          refine Run.q (e := vIv) (gv := vIv) (ok_spec_MulI _ _) fun r99 hr99 => ?_
          refine Run.q (e := vIv) (gv := vIv) (ok_spec_Integer _) fun r100 hr100 => ?_
          refine Run.q (e := vIv) (gv := vIv) (ok_spec_DivI _ _) fun r101 hr101 => ?_
          refine Run.q (e := vIv) (gv := vIv) (ok_spec_AddI _ _) fun r102 hr102 => ?_
          refine Run.u 400 E_ok mixed Tryz.func256 ?_
          refine Run.z [true] ?_
          refine Run.q (e := vIv) (gv := vIv) (ok_spec_l08One) fun r103 hr103 => ?_
          refine Run.q (e := vIv) (gv := vIv) (ok_spec_MulI _ _) fun r104 hr104 => ?_
          refine Run.q (e := vIv) (gv := vIv) (ok_spec_Integer _) fun r105 hr105 => ?_
          refine Run.q (e := vIv) (gv := vIv) (ok_spec_DivI _ _) fun r106 hr106 => ?_
          refine Run.q (e := vIv) (gv := vIv) (ok_spec_AddI _ _) fun r107 hr107 => ?_
          refine Run.u 400 E_ok mixed Tryz.func256 ?_
          refine Run.z [false] ?_
          refine Run.q (e := vIv) (gv := vIv) (ok_spec_l08Widen _ _) fun r108 hr108 => ?_
          refine Run.q (e := vIv) (gv := vIv) (ok_spec_l08Scale _ _) fun r109 hr109 => ?_
          exact Run.x 0

theorem ok_spec_HalfI (a0 : Iv) : Fun Tryz.prog 204 [] #[vIv a0] (vIv (F_spec_HalfI a0)) [] := by
  refine Fun.ofH 400 E_ok mixed Tryz.func204 (by kernel_rfl) (by kernel_rfl) ?_
  unfold F_spec_HalfI
  refine Run.q (e := vB) (gv := vIv) (ok_spec_l04Ok _) fun r1 _ => ?_
  refine Run.y (gv := vIv) (fun _ => ?_) (fun _ => ?_)
  · refine Run.q (e := vIv) (gv := vIv) (ok_spec_l04Whole) fun r2 _ => ?_
    exact Run.x 0
  · refine Run.z [true, true] ?_
    refine Run.q (e := vIv) (gv := vIv) (ok_spec_l04Make _ _) fun r3 _ => ?_
    exact Run.x 0

theorem ok_spec_l08Sinh (a0 : I64) : Fun Tryz.prog 193 [] #[vI a0] (vIv (F_spec_l08Sinh a0)) [] := by
  refine Fun.ofH 400 E_ok mixed Tryz.func193 (by kernel_rfl) (by kernel_rfl) ?_
  unfold F_spec_l08Sinh
  refine Run.q (e := vIv) (gv := vIv) (ok_spec_ExpAt _) fun r1 _ => ?_
  refine Run.q (e := vIv) (gv := vIv) (ok_spec_ExpAt _) fun r2 _ => ?_
  refine Run.q (e := vIv) (gv := vIv) (ok_spec_SubI _ _) fun r3 _ => ?_
  refine Run.q (e := vIv) (gv := vIv) (ok_spec_HalfI _) fun r4 _ => ?_
  exact Run.x 0

theorem ok_spec_l08Ends (a0 : Iv) (a1 : Iv) : Fun Tryz.prog 192 [] #[vIv a0, vIv a1] (vIv (F_spec_l08Ends a0 a1)) [] := by
  refine Fun.ofH 400 E_ok mixed Tryz.func192 (by kernel_rfl) (by kernel_rfl) ?_
  unfold F_spec_l08Ends
  refine Run.q (e := vB) (gv := vIv) (ok_spec_l04Ok _) fun r1 _ => ?_
  refine Run.y (gv := vIv) (fun _ => ?_) (fun _ => ?_)
  · refine Run.z [true, true, true, true] ?_
    refine Run.q (e := vIv) (gv := vIv) (ok_spec_l04Whole) fun r2 _ => ?_
    exact Run.x 0
  · refine Run.z [false] ?_
    refine Run.q (e := vB) (gv := vIv) (ok_spec_l04Ok _) fun r3 _ => ?_
    refine Run.z [false, false] ?_
    refine Run.y (gv := vIv) (fun _ => ?_) (fun _ => ?_)
    · refine Run.q (e := vIv) (gv := vIv) (ok_spec_l04Whole) fun r4 _ => ?_
      exact Run.x 0
    · refine Run.q (e := vIv) (gv := vIv) (ok_spec_l04Make _ _) fun r5 _ => ?_
      exact Run.x 0

theorem ok_spec_SinhI (a0 : Iv) : Fun Tryz.prog 92 [] #[vIv a0] (vIv (F_spec_SinhI a0)) [] := by
  refine Fun.ofH 400 E_ok mixed Tryz.func92 (by kernel_rfl) (by kernel_rfl) ?_
  unfold F_spec_SinhI
  refine Run.q (e := vB) (gv := vIv) (ok_spec_l04Ok _) fun r1 _ => ?_
  refine Run.y (gv := vIv) (fun _ => ?_) (fun _ => ?_)
  · refine Run.q (e := vIv) (gv := vIv) (ok_spec_l04Whole) fun r2 _ => ?_
    exact Run.x 0
  · refine Run.q (e := vIv) (gv := vIv) (ok_spec_l08Sinh _) fun r3 _ => ?_
    refine Run.q (e := vIv) (gv := vIv) (ok_spec_l08Sinh _) fun r4 _ => ?_
    refine Run.q (e := vIv) (gv := vIv) (ok_spec_l08Ends _ _) fun r5 _ => ?_
    exact Run.x 0

theorem ok_spec_IsWhole (a0 : Iv) : Fun Tryz.prog 36 [] #[vIv a0] (vB (F_spec_IsWhole a0)) [] := by
  refine Fun.ofH 400 E_ok mixed Tryz.func36 (by kernel_rfl) (by kernel_rfl) ?_
  unfold F_spec_IsWhole
  refine Run.q (e := vB) (gv := vB) (ok_spec_l04Ok _) fun r1 _ => ?_
  exact Run.x 0

theorem ok_spec_l07Quarter : Fun Tryz.prog 189 [] #[] (vIv (F_spec_l07Quarter)) [] := by
  refine Fun.ofH 400 E_ok mixed Tryz.func189 (by kernel_rfl) (by kernel_rfl) ?_
  unfold F_spec_l07Quarter
  refine Run.q (e := vIv) (gv := vIv) (ok_spec_l05Turn _ (by simp only [w64_val, wu64_val, c64_val, cu64_val, decide_eq_true_eq, decide_eq_false_iff_not, cond_true, cond_false] at *; omega)) fun r1 hr1 => ?_
  refine Run.q (e := vIv) (gv := vIv) (ok_spec_l05Turn _ (by simp only [w64_val, wu64_val, c64_val, cu64_val, decide_eq_true_eq, decide_eq_false_iff_not, cond_true, cond_false] at *; omega)) fun r2 hr2 => ?_
  exact Run.x 0

theorem ok_spec_l07Fix (a0 : I64) : Fun Tryz.prog 253 [] #[vI a0] (vB (F_spec_l07Fix a0)) [] := by
  refine Fun.ofH 400 E_ok mixed Tryz.func253 (by kernel_rfl) (by kernel_rfl) ?_
  unfold F_spec_l07Fix
  refine Run.y (gv := vB) (fun _ => ?_) (fun _ => ?_)
  · refine Run.z [true, true] ?_
    exact Run.x 0
  · refine Run.z [false, false] ?_
    exact Run.x 0

theorem ok_spec_l02Root_L0 : ∀ (fu : Nat) (a0 : Wd) (x_out : U64) (x_i : I64) (q0 : x_i.val ≤ 63) (hm : (x_i.val + 1).toNat < fu) (t : Array Value) (ht : maskA t [0, 5, 6, 7, 8, 9, 10, 11, 12, 13, 14, 15, 16, 17, 18, 19, 20, 21, 22, 23, 24, 25, 26, 27, 28, 29, 30, 31, 32, 33, 34, 35, 36, 37, 38, 39, 40, 41, 42] = #[undef, .pointer (some ⟨0, 0, none⟩), .int .u64 0, .int .u64 x_out.val, .int .i64 x_i.val, undef, undef, undef, undef, undef, undef, undef, undef, undef, undef, undef, undef, undef, undef, undef, undef, undef, undef, undef, undef, undef, undef, undef, undef, undef, undef, undef, undef, undef, undef, undef, undef, undef, undef, undef, undef, undef, undef]), Cfg Tryz.prog 259 (loopAt Tryz.f259 0) t [(#[.int .i64 a0.hi.val, .int .u64 a0.lo.val], 103)] (RvH [] (vU (F_spec_l02Root_L0 fu a0 x_out x_i))) := by
  intro fu
  induction fu with
  | zero => intro a0 x_out x_i q0 hm; exact absurd hm (Nat.not_lt_zero _)
  | succ fu ih =>
    intro a0 x_out x_i q0 hm t ht
    refine Cfg.round E_ok mixed Tryz.func259 ht fun g => ?_
    unfold F_spec_l02Root_L0
    refine Run.y (gv := vU) (fun h1 => ?_) (fun h1 => ?_)
    · refine Run.k (c := (decide (0 ≤ (wu64 x_i.val).val))) (by kernel_rfl) (by simp only [w64_val, wu64_val, c64_val, cu64_val, decide_eq_true_eq] at *; omega) ?_
      refine Run.q (e := vT_U_U) (gv := vU) (ok_spec_l02Times _ _) fun r2 hr2 => ?_
      refine Run.y (gv := vU) (fun h3 => ?_) (fun h3 => ?_)
      · refine Run.z [true, true, true, true, true, true, true, true] ?_
        exact Run.l (by kernel_rfl) (by kernel_rfl) (by kernel_rfl) (by kernel_rfl) (ih a0 (ior .u64 x_out.val (ishl .u64 1 (wu64 x_i.val).val).val) (w64 (x_i.val - 1)) (by have q1 := x_i.lo; simp only [w64_val, wu64_val, c64_val, cu64_val, decide_eq_true_eq] at *; omega) (by have q1 := x_i.lo; simp only [w64_val, wu64_val, c64_val, cu64_val, decide_eq_true_eq] at *; omega))
      · refine Run.z [false, false, false, false, false] ?_
        refine Run.y (gv := vU) (fun h4 => ?_) (fun h4 => ?_)
        · refine Run.z [true, true, true, false, true, false] ?_
          refine Run.y (gv := vU) (fun h5 => ?_) (fun h5 => ?_)
          · exact Run.l (by kernel_rfl) (by kernel_rfl) (by kernel_rfl) (by kernel_rfl) (ih a0 (ior .u64 x_out.val (ishl .u64 1 (wu64 x_i.val).val).val) (w64 (x_i.val - 1)) (by have q1 := x_i.lo; simp only [w64_val, wu64_val, c64_val, cu64_val, decide_eq_true_eq] at *; omega) (by have q1 := x_i.lo; simp only [w64_val, wu64_val, c64_val, cu64_val, decide_eq_true_eq] at *; omega))
          · exact Run.l (by kernel_rfl) (by kernel_rfl) (by kernel_rfl) (by kernel_rfl) (ih a0 x_out (w64 (x_i.val - 1)) (by have q1 := x_i.lo; simp only [w64_val, wu64_val, c64_val, cu64_val, decide_eq_true_eq] at *; omega) (by have q1 := x_i.lo; simp only [w64_val, wu64_val, c64_val, cu64_val, decide_eq_true_eq] at *; omega))
        · refine Run.z [false, false, false, false, false, false, false] ?_
          exact Run.l (by kernel_rfl) (by kernel_rfl) (by kernel_rfl) (by kernel_rfl) (ih a0 x_out (w64 (x_i.val - 1)) (by have q1 := x_i.lo; simp only [w64_val, wu64_val, c64_val, cu64_val, decide_eq_true_eq] at *; omega) (by have q1 := x_i.lo; simp only [w64_val, wu64_val, c64_val, cu64_val, decide_eq_true_eq] at *; omega))
    · exact Run.x 0

theorem ok_spec_l02Root (a0 : Wd) : Fun Tryz.prog 259 [] #[vWd a0] (vU (F_spec_l02Root a0)) [] := by
  refine Fun.ofH 400 E_ok mixed Tryz.func259 (by kernel_rfl) (by kernel_rfl) ?_
  unfold F_spec_l02Root
  exact Run.l (by kernel_rfl) (by kernel_rfl) (by kernel_rfl) (by kernel_rfl) (ok_spec_l02Root_L0 65 a0 (cu64 0) (c64 63) (by decide) (by decide))

theorem ok_spec_SqrtFloor (a0 : I64) (a1 : I64) : Fun Tryz.prog 263 [] #[vI a0, vI a1] (vT_I_B (F_spec_SqrtFloor a0 a1)) [] := by
  refine Fun.ofH 400 E_ok mixed Tryz.func263 (by kernel_rfl) (by kernel_rfl) ?_
  unfold F_spec_SqrtFloor
  refine Run.y (gv := vT_I_B) (fun _ => ?_) (fun _ => ?_)
  · refine Run.z [true, true, true] ?_
    exact Run.x 0
  · refine Run.z [false, false] ?_
    refine Run.y (gv := vT_I_B) (fun _ => ?_) (fun _ => ?_)
    · exact Run.x 0
    · refine Run.q (e := vWd) (gv := vT_I_B) (ok_spec_l02Mul _ _) fun r1 _ => ?_
      refine Run.q (e := vU) (gv := vT_I_B) (ok_spec_l02Root _) fun r2 _ => ?_
      exact Run.x 0

theorem ok_spec_l03SqrtDown (a0 : I64) : Fun Tryz.prog 208 [] #[vI a0] (vT_I_B (F_spec_l03SqrtDown a0)) [] := by
  refine Fun.ofH 400 E_ok mixed Tryz.func208 (by kernel_rfl) (by kernel_rfl) ?_
  unfold F_spec_l03SqrtDown
  refine Run.q (e := vB) (gv := vT_I_B) (ok_spec_l00In _ _ _) fun r1 _ => ?_
  refine Run.y (gv := vT_I_B) (fun _ => ?_) (fun _ => ?_)
  · exact Run.x 0
  · refine Run.q (e := vT_I_B) (gv := vT_I_B) (ok_spec_SqrtFloor _ _) fun r2 _ => ?_
    exact Run.x 0

theorem ok_spec_l03SqrtUp (a0 : I64) : Fun Tryz.prog 209 [] #[vI a0] (vT_I_B (F_spec_l03SqrtUp a0)) [] := by
  refine Fun.ofH 400 E_ok mixed Tryz.func209 (by kernel_rfl) (by kernel_rfl) ?_
  unfold F_spec_l03SqrtUp
  refine Run.q (e := vT_I_B) (gv := vT_I_B) (ok_spec_l03SqrtDown _) fun r1 _ => ?_
  refine Run.y (gv := vT_I_B) (fun _ => ?_) (fun _ => ?_)
  · exact Run.x 0
  · refine Run.q (e := vT_I_B) (gv := vT_I_B) (ok_spec_MulFloor _ _ _) fun r2 _ => ?_
    refine Run.y (gv := vT_I_B) (fun _ => ?_) (fun _ => ?_)
    · refine Run.z [true, true, true, true, true, true] ?_
      exact Run.x 0
    · refine Run.z [false, false, false, false, false] ?_
      refine Run.y (gv := vT_I_B) (fun _ => ?_) (fun _ => ?_)
      · exact Run.x 0
      · exact Run.x 0

theorem ok_spec_SqrtI (a0 : Iv) : Fun Tryz.prog 109 [] #[vIv a0] (vIv (F_spec_SqrtI a0)) [] := by
  refine Fun.ofH 400 E_ok mixed Tryz.func109 (by kernel_rfl) (by kernel_rfl) ?_
  unfold F_spec_SqrtI
  refine Run.q (e := vB) (gv := vIv) (ok_spec_l04Ok _) fun r1 _ => ?_
  refine Run.y (gv := vIv) (fun _ => ?_) (fun _ => ?_)
  · refine Run.z [true, true, true, true] ?_
    refine Run.q (e := vIv) (gv := vIv) (ok_spec_l04Whole) fun r2 _ => ?_
    exact Run.x 0
  · refine Run.z [false, false, false] ?_
    refine Run.y (gv := vIv) (fun _ => ?_) (fun _ => ?_)
    · refine Run.q (e := vIv) (gv := vIv) (ok_spec_l04Whole) fun r3 _ => ?_
      exact Run.x 0
    · refine Run.q (e := vT_I_B) (gv := vIv) (ok_spec_l03SqrtDown _) fun r4 _ => ?_
      refine Run.q (e := vT_I_B) (gv := vIv) (ok_spec_l03SqrtUp _) fun r5 _ => ?_
      refine Run.q (e := vIv) (gv := vIv) (ok_spec_l04Make _ _) fun r6 _ => ?_
      exact Run.x 0

theorem ok_spec_l07Halve (a0 : Iv) : Fun Tryz.prog 297 [] #[vIv a0] (vIv (F_spec_l07Halve a0)) [] := by
  refine Fun.ofH 400 E_ok mixed Tryz.func297 (by kernel_rfl) (by kernel_rfl) ?_
  unfold F_spec_l07Halve
  refine Run.q (e := vIv) (gv := vIv) (ok_spec_Integer _) fun r1 _ => ?_
  refine Run.q (e := vIv) (gv := vIv) (ok_spec_Integer _) fun r2 _ => ?_
  refine Run.q (e := vIv) (gv := vIv) (ok_spec_SqrI _) fun r3 _ => ?_
  refine Run.q (e := vIv) (gv := vIv) (ok_spec_AddI _ _) fun r4 _ => ?_
  refine Run.q (e := vIv) (gv := vIv) (ok_spec_SqrtI _) fun r5 _ => ?_
  refine Run.q (e := vIv) (gv := vIv) (ok_spec_AddI _ _) fun r6 _ => ?_
  refine Run.q (e := vIv) (gv := vIv) (ok_spec_DivI _ _) fun r7 _ => ?_
  exact Run.x 0

theorem ok_spec_l03Floor (a0 : I64) (a1 : I64) : Fun Tryz.prog 198 [] #[vI a0, vI a1] (vT_I_B (F_spec_l03Floor a0 a1)) [] := by
  refine Fun.ofH 400 E_ok mixed Tryz.func198 (by kernel_rfl) (by kernel_rfl) ?_
  unfold F_spec_l03Floor
  refine Run.y (gv := vT_I_B) (fun _ => ?_) (fun _ => ?_)
  · exact Run.x 0
  · refine Run.q (e := vT_I_B) (gv := vT_I_B) (ok_spec_MulDivFloor _ _ _) fun r1 _ => ?_
    refine Run.q (e := vT_I_B) (gv := vT_I_B) (ok_spec_l03End _ _) fun r2 _ => ?_
    exact Run.x 0

theorem ok_spec_l03Ceil (a0 : I64) (a1 : I64) : Fun Tryz.prog 199 [] #[vI a0, vI a1] (vT_I_B (F_spec_l03Ceil a0 a1)) [] := by
  refine Fun.ofH 400 E_ok mixed Tryz.func199 (by kernel_rfl) (by kernel_rfl) ?_
  unfold F_spec_l03Ceil
  refine Run.y (gv := vT_I_B) (fun _ => ?_) (fun _ => ?_)
  · exact Run.x 0
  · refine Run.q (e := vT_I_B) (gv := vT_I_B) (ok_spec_MulDivFloor _ _ _) fun r1 _ => ?_
    refine Run.y (gv := vT_I_B) (fun _ => ?_) (fun _ => ?_)
    · exact Run.x 0
    · refine Run.y (gv := vT_I_B) (fun _ => ?_) (fun _ => ?_)
      · refine Run.q (e := vT_I_B) (gv := vT_I_B) (ok_spec_l03End _ _) fun r2 _ => ?_
        exact Run.x 0
      · refine Run.q (e := vT_I_B) (gv := vT_I_B) (ok_spec_l03End _ _) fun r3 _ => ?_
        exact Run.x 0

theorem ok_spec_Quotient (a0 : I64) (a1 : I64) : Fun Tryz.prog 97 [] #[vI a0, vI a1] (vIv (F_spec_Quotient a0 a1)) [] := by
  refine Fun.ofH 400 E_ok mixed Tryz.func97 (by kernel_rfl) (by kernel_rfl) ?_
  unfold F_spec_Quotient
  refine Run.y (gv := vIv) (fun _ => ?_) (fun _ => ?_)
  · refine Run.y (gv := vIv) (fun _ => ?_) (fun _ => ?_)
    · refine Run.z [true, true, true] ?_
      refine Run.q (e := vIv) (gv := vIv) (ok_spec_l04Whole) fun r1 _ => ?_
      exact Run.x 0
    · refine Run.z [false, false] ?_
      refine Run.y (gv := vIv) (fun _ => ?_) (fun _ => ?_)
      · refine Run.q (e := vIv) (gv := vIv) (ok_spec_l04Whole) fun r2 _ => ?_
        exact Run.x 0
      · refine Run.q (e := vT_I_B) (gv := vIv) (ok_spec_l03Floor _ _) fun r3 _ => ?_
        refine Run.q (e := vT_I_B) (gv := vIv) (ok_spec_l03Ceil _ _) fun r4 _ => ?_
        refine Run.y (gv := vIv) (fun _ => ?_) (fun _ => ?_)
        · refine Run.z [true, true, true] ?_
          refine Run.q (e := vIv) (gv := vIv) (ok_spec_l04Whole) fun r5 _ => ?_
          exact Run.x 0
        · refine Run.z [false, false] ?_
          refine Run.y (gv := vIv) (fun _ => ?_) (fun _ => ?_)
          · refine Run.q (e := vIv) (gv := vIv) (ok_spec_l04Whole) fun r6 _ => ?_
            exact Run.x 0
          · refine Run.q (e := vIv) (gv := vIv) (ok_spec_l04Make _ _) fun r7 _ => ?_
            exact Run.x 0
  · refine Run.q (e := vT_I_B) (gv := vIv) (ok_spec_l03Floor _ _) fun r8 _ => ?_
    refine Run.q (e := vT_I_B) (gv := vIv) (ok_spec_l03Ceil _ _) fun r9 _ => ?_
    refine Run.y (gv := vIv) (fun _ => ?_) (fun _ => ?_)
    · refine Run.z [true, true, true] ?_
      refine Run.q (e := vIv) (gv := vIv) (ok_spec_l04Whole) fun r10 _ => ?_
      exact Run.x 0
    · refine Run.z [false, false] ?_
      refine Run.y (gv := vIv) (fun _ => ?_) (fun _ => ?_)
      · refine Run.q (e := vIv) (gv := vIv) (ok_spec_l04Whole) fun r11 _ => ?_
        exact Run.x 0
      · refine Run.q (e := vIv) (gv := vIv) (ok_spec_l04Make _ _) fun r12 _ => ?_
        exact Run.x 0

theorem ok_spec_ArcSeries (a0 : Iv) : Fun Tryz.prog 296 [] #[vIv a0] (vIv (F_spec_ArcSeries a0)) [] := by
  refine Fun.ofH 400 E_ok mixed Tryz.func296 (by kernel_rfl) (by kernel_rfl) ?_
  unfold F_spec_ArcSeries
  refine Run.q (e := vB) (gv := vIv) (ok_spec_InsideI _ _) fun r1 _ => ?_
  refine Run.y (gv := vIv) (fun _ => ?_) (fun _ => ?_)
  · refine Run.q (e := vIv) (gv := vIv) (ok_spec_Whole) fun r2 _ => ?_
    exact Run.x 0
  · refine Run.q (e := vIv) (gv := vIv) (ok_spec_SqrI _) fun r3 _ => ?_
    refine Run.q (e := vIv) (gv := vIv) (ok_spec_Quotient _ _) fun r4 _ => ?_
    refine Run.u 400 E_ok mixed Tryz.func296 ?_
    refine Run.z [true] ?_
    refine Run.q (e := vIv) (gv := vIv) (ok_spec_Quotient _ _) fun r5 _ => ?_
    refine Run.q (e := vIv) (gv := vIv) (ok_spec_MulI _ _) fun r6 _ => ?_
    refine Run.q (e := vIv) (gv := vIv) (ok_spec_SubI _ _) fun r7 _ => ?_
    refine Run.u 400 E_ok mixed Tryz.func296 ?_
    refine Run.z [true] ?_
    refine Run.q (e := vIv) (gv := vIv) (ok_spec_Quotient _ _) fun r8 _ => ?_
    refine Run.q (e := vIv) (gv := vIv) (ok_spec_MulI _ _) fun r9 _ => ?_
    refine Run.q (e := vIv) (gv := vIv) (ok_spec_SubI _ _) fun r10 _ => ?_
    refine Run.u 400 E_ok mixed Tryz.func296 ?_
    refine Run.z [true] ?_
    refine Run.q (e := vIv) (gv := vIv) (ok_spec_Quotient _ _) fun r11 _ => ?_
    refine Run.q (e := vIv) (gv := vIv) (ok_spec_MulI _ _) fun r12 _ => ?_
    refine Run.q (e := vIv) (gv := vIv) (ok_spec_SubI _ _) fun r13 _ => ?_
    refine Run.u 400 E_ok mixed Tryz.func296 ?_
    refine Run.z [true] ?_
    refine Run.q (e := vIv) (gv := vIv) (ok_spec_Quotient _ _) fun r14 _ => ?_
    refine Run.q (e := vIv) (gv := vIv) (ok_spec_MulI _ _) fun r15 _ => ?_
    refine Run.q (e := vIv) (gv := vIv) (ok_spec_SubI _ _) fun r16 _ => ?_
    refine Run.u 400 E_ok mixed Tryz.func296 ?_
    refine Run.z [true] ?_
    refine Run.q (e := vIv) (gv := vIv) (ok_spec_Quotient _ _) fun r17 _ => ?_
    refine Run.q (e := vIv) (gv := vIv) (ok_spec_MulI _ _) fun r18 _ => ?_
    refine Run.q (e := vIv) (gv := vIv) (ok_spec_SubI _ _) fun r19 _ => ?_
    refine Run.u 400 E_ok mixed Tryz.func296 ?_
    refine Run.z [true] ?_
    refine Run.q (e := vIv) (gv := vIv) (ok_spec_Quotient _ _) fun r20 _ => ?_
    refine Run.q (e := vIv) (gv := vIv) (ok_spec_MulI _ _) fun r21 _ => ?_
    refine Run.q (e := vIv) (gv := vIv) (ok_spec_SubI _ _) fun r22 _ => ?_
    refine Run.u 400 E_ok mixed Tryz.func296 ?_
    refine Run.z [true] ?_
    refine Run.q (e := vIv) (gv := vIv) (ok_spec_Quotient _ _) fun r23 _ => ?_
    refine Run.q (e := vIv) (gv := vIv) (ok_spec_MulI _ _) fun r24 _ => ?_
    refine Run.q (e := vIv) (gv := vIv) (ok_spec_SubI _ _) fun r25 _ => ?_
    refine Run.u 400 E_ok mixed Tryz.func296 ?_
    refine Run.z [true] ?_
    refine Run.q (e := vIv) (gv := vIv) (ok_spec_Quotient _ _) fun r26 _ => ?_
    refine Run.q (e := vIv) (gv := vIv) (ok_spec_MulI _ _) fun r27 _ => ?_
    refine Run.q (e := vIv) (gv := vIv) (ok_spec_SubI _ _) fun r28 _ => ?_
    refine Run.u 400 E_ok mixed Tryz.func296 ?_
    refine Run.z [true] ?_
    refine Run.q (e := vIv) (gv := vIv) (ok_spec_Quotient _ _) fun r29 _ => ?_
    refine Run.q (e := vIv) (gv := vIv) (ok_spec_MulI _ _) fun r30 _ => ?_
    refine Run.q (e := vIv) (gv := vIv) (ok_spec_SubI _ _) fun r31 _ => ?_
    refine Run.u 400 E_ok mixed Tryz.func296 ?_
    refine Run.z [true] ?_
    refine Run.q (e := vIv) (gv := vIv) (ok_spec_Quotient _ _) fun r32 _ => ?_
    refine Run.q (e := vIv) (gv := vIv) (ok_spec_MulI _ _) fun r33 _ => ?_
    refine Run.q (e := vIv) (gv := vIv) (ok_spec_SubI _ _) fun r34 _ => ?_
    refine Run.u 400 E_ok mixed Tryz.func296 ?_
    refine Run.z [false] ?_
    refine Run.q (e := vIv) (gv := vIv) (ok_spec_MulI _ _) fun r35 _ => ?_
    refine Run.q (e := vIv) (gv := vIv) (ok_spec_l06Tiny) fun r36 _ => ?_
    refine Run.q (e := vIv) (gv := vIv) (ok_spec_AddI _ _) fun r37 _ => ?_
    exact Run.x 0

theorem ok_spec_DoubleI (a0 : Iv) : Fun Tryz.prog 217 [] #[vIv a0] (vIv (F_spec_DoubleI a0)) [] := by
  refine Fun.ofH 400 E_ok mixed Tryz.func217 (by kernel_rfl) (by kernel_rfl) ?_
  unfold F_spec_DoubleI
  refine Run.q (e := vB) (gv := vIv) (ok_spec_l04Ok _) fun r1 _ => ?_
  refine Run.y (gv := vIv) (fun _ => ?_) (fun _ => ?_)
  · refine Run.q (e := vIv) (gv := vIv) (ok_spec_l04Whole) fun r2 _ => ?_
    exact Run.x 0
  · refine Run.q (e := vIv) (gv := vIv) (ok_spec_l04Make _ _) fun r3 _ => ?_
    exact Run.x 0

theorem ok_spec_l07Core (a0 : Iv) : Fun Tryz.prog 254 [] #[vIv a0] (vIv (F_spec_l07Core a0)) [] := by
  refine Fun.ofH 400 E_ok mixed Tryz.func254 (by kernel_rfl) (by kernel_rfl) ?_
  unfold F_spec_l07Core
  refine Run.q (e := vIv) (gv := vIv) (ok_spec_l07Halve _) fun r1 _ => ?_
  refine Run.q (e := vIv) (gv := vIv) (ok_spec_l07Halve _) fun r2 _ => ?_
  refine Run.q (e := vIv) (gv := vIv) (ok_spec_ArcSeries _) fun r3 _ => ?_
  refine Run.q (e := vIv) (gv := vIv) (ok_spec_DoubleI _) fun r4 _ => ?_
  refine Run.q (e := vIv) (gv := vIv) (ok_spec_DoubleI _) fun r5 _ => ?_
  exact Run.x 0

theorem ok_spec_AtanAt_r : ∀ (fu : Nat) (a0 : I64) (hm : min (0 - a0.val).toNat 1 < fu), Fun Tryz.prog 191 [] #[vI a0] (vIv (F_spec_AtanAt_r fu a0)) [] := by
  intro fu
  induction fu with
  | zero => intro a0 hm; exact absurd hm (Nat.not_lt_zero _)
  | succ fu ih =>
    intro a0 hm
    refine Fun.ofH 400 E_ok mixed Tryz.func191 (by kernel_rfl) (by kernel_rfl) ?_
    unfold F_spec_AtanAt_r
    unfold F_spec_AtanAt_b
    refine Run.q (e := vB) (gv := vIv) (ok_spec_l07Fix _) fun r1 hr1 => ?_
    refine Run.y (gv := vIv) (fun h2 => ?_) (fun h2 => ?_)
    · refine Run.q (e := vIv) (gv := vIv) (ok_spec_l07Quarter) fun r3 hr3 => ?_
      exact Run.x 0
    · refine Run.y (gv := vIv) (fun h4 => ?_) (fun h4 => ?_)
      · refine Run.q (e := vIv) (gv := vIv) (ih (w64 (0 - a0.val)) (by rw [hr1] at h2; simp [F_spec_l07Fix, c64_val] at h2; simp only [w64_val, decide_eq_true_eq, decide_eq_false_iff_not] at *; omega)) fun r5 hr5 => ?_
        refine Run.q (e := vIv) (gv := vIv) (ok_spec_NegI _) fun r6 hr6 => ?_
        exact Run.x 0
      · refine Run.y (gv := vIv) (fun h7 => ?_) (fun h7 => ?_)
        · refine Run.q (e := vIv) (gv := vIv) (ok_spec_TurnI _) fun r8 hr8 => ?_
          refine Run.q (e := vIv) (gv := vIv) (ok_spec_Integer _) fun r9 hr9 => ?_
          refine Run.q (e := vIv) (gv := vIv) (ok_spec_l05At _) fun r10 hr10 => ?_
          refine Run.q (e := vIv) (gv := vIv) (ok_spec_DivI _ _) fun r11 hr11 => ?_
          refine Run.q (e := vIv) (gv := vIv) (ok_spec_l07Core _) fun r12 hr12 => ?_
          refine Run.q (e := vIv) (gv := vIv) (ok_spec_SubI _ _) fun r13 hr13 => ?_
          exact Run.x 0
        · refine Run.q (e := vIv) (gv := vIv) (ok_spec_l05At _) fun r14 hr14 => ?_
          refine Run.q (e := vIv) (gv := vIv) (ok_spec_l07Core _) fun r15 hr15 => ?_
          exact Run.x 0
theorem ok_spec_AtanAt (a0 : I64) : Fun Tryz.prog 191 [] #[vI a0] (vIv (F_spec_AtanAt a0)) [] := ok_spec_AtanAt_r 2 a0 (by omega)

theorem ok_spec_AtanI (a0 : Iv) : Fun Tryz.prog 91 [] #[vIv a0] (vIv (F_spec_AtanI a0)) [] := by
  refine Fun.ofH 400 E_ok mixed Tryz.func91 (by kernel_rfl) (by kernel_rfl) ?_
  unfold F_spec_AtanI
  refine Run.q (e := vB) (gv := vIv) (ok_spec_IsWhole _) fun r1 _ => ?_
  refine Run.y (gv := vIv) (fun _ => ?_) (fun _ => ?_)
  · refine Run.q (e := vIv) (gv := vIv) (ok_spec_l07Quarter) fun r2 _ => ?_
    exact Run.x 0
  · refine Run.q (e := vIv) (gv := vIv) (ok_spec_AtanAt _) fun r3 _ => ?_
    refine Run.q (e := vIv) (gv := vIv) (ok_spec_AtanAt _) fun r4 _ => ?_
    refine Run.q (e := vIv) (gv := vIv) (ok_spec_HullI _ _) fun r5 _ => ?_
    exact Run.x 0

theorem ok_spec_WideMul (a0 : I64) (a1 : I64) : Fun Tryz.prog 300 [] #[vI a0, vI a1] (vWd (F_spec_WideMul a0 a1)) [] := by
  refine Fun.ofH 400 E_ok mixed Tryz.func300 (by kernel_rfl) (by kernel_rfl) ?_
  unfold F_spec_WideMul
  refine Run.q (e := vWd) (gv := vWd) (ok_spec_l02Mul _ _) fun r1 _ => ?_
  exact Run.x 0

theorem ok_spec_CircleAt (a0 : I64) : Fun Tryz.prog 257 [] #[vI a0] (vIv (F_spec_CircleAt a0)) [] := by
  refine Fun.ofH 400 E_ok mixed Tryz.func257 (by kernel_rfl) (by kernel_rfl) ?_
  unfold F_spec_CircleAt
  refine Run.q (e := vB) (gv := vIv) (ok_spec_l00In _ _ _) fun r1 _ => ?_
  refine Run.y (gv := vIv) (fun _ => ?_) (fun _ => ?_)
  · refine Run.q (e := vIv) (gv := vIv) (ok_spec_Whole) fun r2 _ => ?_
    exact Run.x 0
  · refine Run.q (e := vT_I_B) (gv := vIv) (ok_spec_SqrtFloor _ _) fun r3 _ => ?_
    refine Run.q (e := vWd) (gv := vIv) (ok_spec_WideMul _ _) fun r4 _ => ?_
    refine Run.q (e := vWd) (gv := vIv) (ok_spec_WideMul _ _) fun r5 _ => ?_
    refine Run.y (gv := vIv) (fun _ => ?_) (fun _ => ?_)
    · exact Run.x 0
    · exact Run.x 0

theorem ok_spec_AsinAt (a0 : I64) : Fun Tryz.prog 197 [] #[vI a0] (vIv (F_spec_AsinAt a0)) [] := by
  refine Fun.ofH 400 E_ok mixed Tryz.func197 (by kernel_rfl) (by kernel_rfl) ?_
  unfold F_spec_AsinAt
  refine Run.q (e := vB) (gv := vIv) (ok_spec_l00In _ _ _) fun r1 _ => ?_
  refine Run.y (gv := vIv) (fun _ => ?_) (fun _ => ?_)
  · refine Run.q (e := vIv) (gv := vIv) (ok_spec_Whole) fun r2 _ => ?_
    exact Run.x 0
  · refine Run.q (e := vIv) (gv := vIv) (ok_spec_l05At _) fun r3 _ => ?_
    refine Run.q (e := vIv) (gv := vIv) (ok_spec_Integer _) fun r4 _ => ?_
    refine Run.q (e := vIv) (gv := vIv) (ok_spec_CircleAt _) fun r5 _ => ?_
    refine Run.q (e := vIv) (gv := vIv) (ok_spec_AddI _ _) fun r6 _ => ?_
    refine Run.q (e := vIv) (gv := vIv) (ok_spec_DivI _ _) fun r7 _ => ?_
    refine Run.q (e := vIv) (gv := vIv) (ok_spec_AtanI _) fun r8 _ => ?_
    refine Run.q (e := vIv) (gv := vIv) (ok_spec_DoubleI _) fun r9 _ => ?_
    refine Run.q (e := vIv) (gv := vIv) (ok_spec_l07Quarter) fun r10 _ => ?_
    refine Run.q (e := vT_Iv_B) (gv := vIv) (ok_spec_MeetI _ _) fun r11 _ => ?_
    exact Run.x 0

theorem ok_spec_AsinI (a0 : Iv) : Fun Tryz.prog 96 [] #[vIv a0] (vIv (F_spec_AsinI a0)) [] := by
  refine Fun.ofH 400 E_ok mixed Tryz.func96 (by kernel_rfl) (by kernel_rfl) ?_
  unfold F_spec_AsinI
  refine Run.q (e := vIv) (gv := vIv) (ok_spec_l06Ring) fun r1 _ => ?_
  refine Run.q (e := vT_Iv_B) (gv := vIv) (ok_spec_MeetI _ _) fun r2 _ => ?_
  refine Run.y (gv := vIv) (fun _ => ?_) (fun _ => ?_)
  · refine Run.q (e := vIv) (gv := vIv) (ok_spec_Whole) fun r3 _ => ?_
    exact Run.x 0
  · refine Run.q (e := vIv) (gv := vIv) (ok_spec_AsinAt _) fun r4 _ => ?_
    refine Run.q (e := vIv) (gv := vIv) (ok_spec_AsinAt _) fun r5 _ => ?_
    refine Run.q (e := vIv) (gv := vIv) (ok_spec_HullI _ _) fun r6 _ => ?_
    exact Run.x 0

theorem ok_spec_CylinderInverse (a0 : Pj) (a1 : Pn) : Fun Tryz.prog 31 [] #[vPj a0, vPn a1] (vT_Iv_Iv_I (F_spec_CylinderInverse a0 a1)) [] := by
  refine Fun.ofH 400 E_ok mixed Tryz.func31 (by kernel_rfl) (by kernel_rfl) ?_
  unfold F_spec_CylinderInverse
  refine Run.q (e := vB) (gv := vT_Iv_Iv_I) (ok_spec_l17Cylinder _) fun r1 _ => ?_
  refine Run.y (gv := vT_Iv_Iv_I) (fun _ => ?_) (fun _ => ?_)
  · exact Run.x 0
  · refine Run.q (e := vIv) (gv := vT_Iv_Iv_I) (ok_spec_RadiansOf _) fun r2 _ => ?_
    refine Run.q (e := vIv) (gv := vT_Iv_Iv_I) (ok_spec_CosI _) fun r3 _ => ?_
    refine Run.y (gv := vT_Iv_Iv_I) (fun _ => ?_) (fun _ => ?_)
    · refine Run.q (e := vIv) (gv := vT_Iv_Iv_I) (ok_spec_DivI _ _) fun r4 _ => ?_
      refine Run.q (e := vT_Iv_Iv_I) (gv := vT_Iv_Iv_I) (ok_spec_l17Back _ _ _) fun r5 _ => ?_
      exact Run.x 0
    · refine Run.y (gv := vT_Iv_Iv_I) (fun _ => ?_) (fun _ => ?_)
      · refine Run.q (e := vIv) (gv := vT_Iv_Iv_I) (ok_spec_SinhI _) fun r6 _ => ?_
        refine Run.q (e := vIv) (gv := vT_Iv_Iv_I) (ok_spec_AtanI _) fun r7 _ => ?_
        refine Run.q (e := vT_Iv_Iv_I) (gv := vT_Iv_Iv_I) (ok_spec_l17Back _ _ _) fun r8 _ => ?_
        exact Run.x 0
      · refine Run.y (gv := vT_Iv_Iv_I) (fun _ => ?_) (fun _ => ?_)
        · refine Run.q (e := vIv) (gv := vT_Iv_Iv_I) (ok_spec_MulI _ _) fun r9 _ => ?_
          refine Run.q (e := vB) (gv := vT_Iv_Iv_I) (ok_spec_l04Ok _) fun r10 _ => ?_
          refine Run.y (gv := vT_Iv_Iv_I) (fun _ => ?_) (fun _ => ?_)
          · refine Run.z [true] ?_
            refine Run.q (e := vIv) (gv := vT_Iv_Iv_I) (ok_spec_l06Ring) fun r11 _ => ?_
            refine Run.z [true] ?_
            refine Run.q (e := vB) (gv := vT_Iv_Iv_I) (ok_spec_OverlapI _ _) fun r12 _ => ?_
            refine Run.z [true, true] ?_
            refine Run.y (gv := vT_Iv_Iv_I) (fun _ => ?_) (fun _ => ?_)
            · exact Run.x 0
            · refine Run.q (e := vIv) (gv := vT_Iv_Iv_I) (ok_spec_AsinI _) fun r13 _ => ?_
              refine Run.q (e := vIv) (gv := vT_Iv_Iv_I) (ok_spec_DivI _ _) fun r14 _ => ?_
              refine Run.q (e := vT_Iv_Iv_I) (gv := vT_Iv_Iv_I) (ok_spec_l17Back _ _ _) fun r15 _ => ?_
              exact Run.x 0
          · refine Run.z [false, false, false, false, false] ?_
            refine Run.q (e := vIv) (gv := vT_Iv_Iv_I) (ok_spec_AsinI _) fun r16 _ => ?_
            refine Run.q (e := vIv) (gv := vT_Iv_Iv_I) (ok_spec_DivI _ _) fun r17 _ => ?_
            refine Run.q (e := vT_Iv_Iv_I) (gv := vT_Iv_Iv_I) (ok_spec_l17Back _ _ _) fun r18 _ => ?_
            exact Run.x 0
        · refine Run.q (e := vIv) (gv := vT_Iv_Iv_I) (ok_spec_Quotient _ _) fun r19 _ => ?_
          refine Run.q (e := vIv) (gv := vT_Iv_Iv_I) (ok_spec_Quotient _ _) fun r20 _ => ?_
          refine Run.q (e := vIv) (gv := vT_Iv_Iv_I) (ok_spec_MulI _ _) fun r21 _ => ?_
          refine Run.q (e := vIv) (gv := vT_Iv_Iv_I) (ok_spec_SinhI _) fun r22 _ => ?_
          refine Run.q (e := vIv) (gv := vT_Iv_Iv_I) (ok_spec_AtanI _) fun r23 _ => ?_
          refine Run.q (e := vIv) (gv := vT_Iv_Iv_I) (ok_spec_MulI _ _) fun r24 _ => ?_
          refine Run.q (e := vT_Iv_Iv_I) (gv := vT_Iv_Iv_I) (ok_spec_l17Back _ _ _) fun r25 _ => ?_
          exact Run.x 0

theorem ok_spec_l18Kind (a0 : I64) : Fun Tryz.prog 200 [] #[vI a0] (vB (F_spec_l18Kind a0)) [] := by
  refine Fun.ofH 400 E_ok mixed Tryz.func200 (by kernel_rfl) (by kernel_rfl) ?_
  unfold F_spec_l18Kind
  refine Run.q (e := vB) (gv := vB) (ok_spec_l00In _ _ _) fun r1 _ => ?_
  exact Run.x 0

theorem ok_spec_ValidProjection (a0 : Pj) : Fun Tryz.prog 201 [] #[vPj a0] (vB (F_spec_ValidProjection a0)) [] := by
  refine Fun.ofH 400 E_ok mixed Tryz.func201 (by kernel_rfl) (by kernel_rfl) ?_
  unfold F_spec_ValidProjection
  refine Run.q (e := vB) (gv := vB) (ok_spec_l17Ok _) fun r1 _ => ?_
  exact Run.x 0

theorem ok_spec_l18Ok__pPj (b0 : Pj) : Fun Tryz.prog 98 [(#[.int .i64 b0.kind.val, .int .i64 b0.lat0.val, .int .i64 b0.lon0.val, .int .i64 b0.lat1.val, .int .i64 b0.lat2.val], 32)] #[.pointer (some ⟨0, 0, none⟩)] (vB (F_spec_l18Ok__pPj b0)) [(#[.int .i64 b0.kind.val, .int .i64 b0.lat0.val, .int .i64 b0.lon0.val, .int .i64 b0.lat1.val, .int .i64 b0.lat2.val], 32)] := by
  refine Fun.ofH 400 E_ok mixed Tryz.func98 (by kernel_rfl) (by kernel_rfl) ?_
  unfold F_spec_l18Ok__pPj
  refine Run.q (e := vB) (gv := vB) (ok_spec_l18Kind _) fun r1 _ => ?_
  refine Run.y (gv := vB) (fun _ => ?_) (fun _ => ?_)
  · refine Run.z [true, true, true] ?_
    refine Run.q (e := vB) (gv := vB) (ok_spec_ValidProjection _) fun r2 _ => ?_
    refine Run.z [true] ?_
    exact Run.x 1
  · refine Run.z [false, false, false, false] ?_
    exact Run.x 1

theorem ok_spec_AbsI (a0 : Iv) : Fun Tryz.prog 118 [] #[vIv a0] (vIv (F_spec_AbsI a0)) [] := by
  refine Fun.ofH 400 E_ok mixed Tryz.func118 (by kernel_rfl) (by kernel_rfl) ?_
  unfold F_spec_AbsI
  refine Run.q (e := vB) (gv := vIv) (ok_spec_l04Ok _) fun r1 _ => ?_
  refine Run.y (gv := vIv) (fun _ => ?_) (fun _ => ?_)
  · refine Run.q (e := vIv) (gv := vIv) (ok_spec_l04Whole) fun r2 _ => ?_
    exact Run.x 0
  · refine Run.q (e := vT_I_I) (gv := vIv) (ok_spec_l04Ends _) fun r3 _ => ?_
    refine Run.q (e := vIv) (gv := vIv) (ok_spec_l04Make _ _) fun r4 _ => ?_
    exact Run.x 0

theorem ok_spec_l10Ends (a0 : Iv) : Fun Tryz.prog 258 [] #[vIv a0] (vT_I_I (F_spec_l10Ends a0)) [] := by
  refine Fun.ofH 400 E_ok mixed Tryz.func258 (by kernel_rfl) (by kernel_rfl) ?_
  unfold F_spec_l10Ends
  refine Run.q (e := vIv) (gv := vT_I_I) (ok_spec_AbsI _) fun r1 _ => ?_
  exact Run.x 0

theorem ok_spec_l10Sum (a0 : I64) (a1 : I64) (a2 : I64) : Fun Tryz.prog 260 [] #[vI a0, vI a1, vI a2] (vWd (F_spec_l10Sum a0 a1 a2)) [] := by
  refine Fun.ofH 400 E_ok mixed Tryz.func260 (by kernel_rfl) (by kernel_rfl) ?_
  unfold F_spec_l10Sum
  refine Run.q (e := vWd) (gv := vWd) (ok_spec_l02Mul _ _) fun r1 _ => ?_
  refine Run.q (e := vWd) (gv := vWd) (ok_spec_l02Mul _ _) fun r2 _ => ?_
  refine Run.q (e := vWd) (gv := vWd) (ok_spec_l02Plus _ _) fun r3 _ => ?_
  refine Run.q (e := vWd) (gv := vWd) (ok_spec_l02Mul _ _) fun r4 _ => ?_
  refine Run.q (e := vWd) (gv := vWd) (ok_spec_l02Plus _ _) fun r5 _ => ?_
  exact Run.x 0

theorem ok_spec_NormV (a0 : Vc) : Fun Tryz.prog 202 [] #[vVc a0] (vIv (F_spec_NormV a0)) [] := by
  refine Fun.ofH 400 E_ok mixed Tryz.func202 (by kernel_rfl) (by kernel_rfl) ?_
  unfold F_spec_NormV
  refine Run.q (e := vB) (gv := vIv) (ok_spec_IsWhole _) fun r1 _ => ?_
  refine Run.y (gv := vIv) (fun _ => ?_) (fun _ => ?_)
  · refine Run.z [true, true, true, true, true, true, true, true] ?_
    refine Run.q (e := vIv) (gv := vIv) (ok_spec_Whole) fun r2 _ => ?_
    exact Run.x 0
  · refine Run.z [false, false] ?_
    refine Run.q (e := vB) (gv := vIv) (ok_spec_IsWhole _) fun r3 _ => ?_
    refine Run.z [false] ?_
    refine Run.y (gv := vIv) (fun _ => ?_) (fun _ => ?_)
    · refine Run.z [true, true, true, true] ?_
      refine Run.q (e := vIv) (gv := vIv) (ok_spec_Whole) fun r4 _ => ?_
      exact Run.x 0
    · refine Run.z [false, false] ?_
      refine Run.q (e := vB) (gv := vIv) (ok_spec_IsWhole _) fun r5 _ => ?_
      refine Run.z [false] ?_
      refine Run.y (gv := vIv) (fun _ => ?_) (fun _ => ?_)
      · refine Run.q (e := vIv) (gv := vIv) (ok_spec_Whole) fun r6 _ => ?_
        exact Run.x 0
      · refine Run.q (e := vT_I_I) (gv := vIv) (ok_spec_l10Ends _) fun r7 _ => ?_
        refine Run.q (e := vT_I_I) (gv := vIv) (ok_spec_l10Ends _) fun r8 _ => ?_
        refine Run.q (e := vT_I_I) (gv := vIv) (ok_spec_l10Ends _) fun r9 _ => ?_
        refine Run.q (e := vWd) (gv := vIv) (ok_spec_l10Sum _ _ _) fun r10 _ => ?_
        refine Run.q (e := vU) (gv := vIv) (ok_spec_l02Root _) fun r11 _ => ?_
        refine Run.q (e := vWd) (gv := vIv) (ok_spec_l10Sum _ _ _) fun r12 _ => ?_
        refine Run.q (e := vU) (gv := vIv) (ok_spec_l02Root _) fun r13 _ => ?_
        refine Run.q (e := vWd) (gv := vIv) (ok_spec_l02Mul _ _) fun r14 _ => ?_
        refine Run.y (gv := vIv) (fun _ => ?_) (fun _ => ?_)
        · refine Run.y (gv := vIv) (fun _ => ?_) (fun _ => ?_)
          · refine Run.q (e := vIv) (gv := vIv) (ok_spec_Whole) fun r15 _ => ?_
            exact Run.x 0
          · exact Run.x 0
        · refine Run.y (gv := vIv) (fun _ => ?_) (fun _ => ?_)
          · refine Run.q (e := vIv) (gv := vIv) (ok_spec_Whole) fun r16 _ => ?_
            exact Run.x 0
          · exact Run.x 0

theorem ok_spec_l15Flat (a0 : Vc) : Fun Tryz.prog 99 [] #[vVc a0] (vIv (F_spec_l15Flat a0)) [] := by
  refine Fun.ofH 400 E_ok mixed Tryz.func99 (by kernel_rfl) (by kernel_rfl) ?_
  unfold F_spec_l15Flat
  refine Run.q (e := vIv) (gv := vIv) (ok_spec_NormV _) fun r1 _ => ?_
  exact Run.x 0

theorem ok_spec_PiI : Fun Tryz.prog 122 [] #[] (vIv (F_spec_PiI)) [] := by
  refine Fun.ofH 400 E_ok mixed Tryz.func122 (by kernel_rfl) (by kernel_rfl) ?_
  unfold F_spec_PiI
  refine Run.q (e := vIv) (gv := vIv) (ok_spec_l05Turn _ (by decide)) fun r1 hr1 => ?_
  exact Run.x 0

theorem ok_spec_l18Most (a0 : I64) : Fun Tryz.prog 101 [] #[vI a0] (vIv (F_spec_l18Most a0)) [] := by
  refine Fun.ofH 400 E_ok mixed Tryz.func101 (by kernel_rfl) (by kernel_rfl) ?_
  unfold F_spec_l18Most
  refine Run.y (gv := vIv) (fun _ => ?_) (fun _ => ?_)
  · refine Run.q (e := vIv) (gv := vIv) (ok_spec_Integer _) fun r1 _ => ?_
    exact Run.x 0
  · refine Run.y (gv := vIv) (fun _ => ?_) (fun _ => ?_)
    · refine Run.q (e := vIv) (gv := vIv) (ok_spec_PiI) fun r2 _ => ?_
      exact Run.x 0
    · refine Run.y (gv := vIv) (fun _ => ?_) (fun _ => ?_)
      · refine Run.q (e := vIv) (gv := vIv) (ok_spec_Integer _) fun r3 _ => ?_
        exact Run.x 0
      · refine Run.q (e := vIv) (gv := vIv) (ok_spec_Whole) fun r4 _ => ?_
        exact Run.x 0

theorem ok_spec_LessI (a0 : Iv) (a1 : Iv) : Fun Tryz.prog 100 [] #[vIv a0, vIv a1] (vI (F_spec_LessI a0 a1)) [] := by
  refine Fun.ofH 400 E_ok mixed Tryz.func100 (by kernel_rfl) (by kernel_rfl) ?_
  unfold F_spec_LessI
  refine Run.q (e := vB) (gv := vI) (ok_spec_l04Ok _) fun r1 _ => ?_
  refine Run.y (gv := vI) (fun _ => ?_) (fun _ => ?_)
  · refine Run.z [true, true, true, true] ?_
    exact Run.x 0
  · refine Run.z [false] ?_
    refine Run.q (e := vB) (gv := vI) (ok_spec_l04Ok _) fun r2 _ => ?_
    refine Run.z [false, false] ?_
    refine Run.y (gv := vI) (fun _ => ?_) (fun _ => ?_)
    · exact Run.x 0
    · refine Run.y (gv := vI) (fun _ => ?_) (fun _ => ?_)
      · exact Run.x 0
      · refine Run.y (gv := vI) (fun _ => ?_) (fun _ => ?_)
        · exact Run.x 0
        · exact Run.x 0

theorem ok_spec_MaxI (a0 : Iv) (a1 : Iv) : Fun Tryz.prog 205 [] #[vIv a0, vIv a1] (vIv (F_spec_MaxI a0 a1)) [] := by
  refine Fun.ofH 400 E_ok mixed Tryz.func205 (by kernel_rfl) (by kernel_rfl) ?_
  unfold F_spec_MaxI
  refine Run.q (e := vB) (gv := vIv) (ok_spec_l04Ok _) fun r1 _ => ?_
  refine Run.y (gv := vIv) (fun _ => ?_) (fun _ => ?_)
  · refine Run.z [true, true, true, true] ?_
    refine Run.q (e := vIv) (gv := vIv) (ok_spec_l04Whole) fun r2 _ => ?_
    exact Run.x 0
  · refine Run.z [false] ?_
    refine Run.q (e := vB) (gv := vIv) (ok_spec_l04Ok _) fun r3 _ => ?_
    refine Run.z [false, false] ?_
    refine Run.y (gv := vIv) (fun _ => ?_) (fun _ => ?_)
    · refine Run.q (e := vIv) (gv := vIv) (ok_spec_l04Whole) fun r4 _ => ?_
      exact Run.x 0
    · refine Run.q (e := vI) (gv := vIv) (ok_spec_l00Max _ _) fun r5 _ => ?_
      refine Run.q (e := vI) (gv := vIv) (ok_spec_l00Max _ _) fun r6 _ => ?_
      refine Run.q (e := vIv) (gv := vIv) (ok_spec_l04Make _ _) fun r7 _ => ?_
      exact Run.x 0

theorem ok_spec_SinI (a0 : Iv) : Fun Tryz.prog 124 [] #[vIv a0] (vIv (F_spec_SinI a0)) [] := by
  refine Fun.ofH 400 E_ok mixed Tryz.func124 (by kernel_rfl) (by kernel_rfl) ?_
  unfold F_spec_SinI
  refine Run.q (e := vIv) (gv := vIv) (ok_spec_l06Over _ _) fun r1 _ => ?_
  exact Run.x 0

theorem ok_spec_l18Back (a0 : I64) (a1 : Pn) : Fun Tryz.prog 103 [] #[vI a0, vPn a1] (vVc (F_spec_l18Back a0 a1)) [] := by
  refine Fun.ofH 400 E_ok mixed Tryz.func103 (by kernel_rfl) (by kernel_rfl) ?_
  unfold F_spec_l18Back
  refine Run.q (e := vIv) (gv := vVc) (ok_spec_Integer _) fun r1 _ => ?_
  refine Run.q (e := vIv) (gv := vVc) (ok_spec_l15Flat _) fun r2 _ => ?_
  refine Run.q (e := vIv) (gv := vVc) (ok_spec_SqrI _) fun r3 _ => ?_
  refine Run.y (gv := vVc) (fun _ => ?_) (fun _ => ?_)
  · refine Run.q (e := vIv) (gv := vVc) (ok_spec_AddI _ _) fun r4 _ => ?_
    refine Run.q (e := vIv) (gv := vVc) (ok_spec_SqrtI _) fun r5 _ => ?_
    refine Run.q (e := vIv) (gv := vVc) (ok_spec_DivI _ _) fun r6 _ => ?_
    refine Run.q (e := vIv) (gv := vVc) (ok_spec_MulI _ _) fun r7 _ => ?_
    refine Run.q (e := vIv) (gv := vVc) (ok_spec_MulI _ _) fun r8 _ => ?_
    exact Run.x 0
  · refine Run.y (gv := vVc) (fun _ => ?_) (fun _ => ?_)
    · refine Run.q (e := vIv) (gv := vVc) (ok_spec_HalfI _) fun r9 _ => ?_
      refine Run.q (e := vIv) (gv := vVc) (ok_spec_HalfI _) fun r10 _ => ?_
      refine Run.q (e := vIv) (gv := vVc) (ok_spec_AddI _ _) fun r11 _ => ?_
      refine Run.q (e := vIv) (gv := vVc) (ok_spec_DivI _ _) fun r12 _ => ?_
      refine Run.q (e := vIv) (gv := vVc) (ok_spec_SubI _ _) fun r13 _ => ?_
      refine Run.q (e := vIv) (gv := vVc) (ok_spec_MulI _ _) fun r14 _ => ?_
      refine Run.q (e := vIv) (gv := vVc) (ok_spec_MulI _ _) fun r15 _ => ?_
      refine Run.q (e := vIv) (gv := vVc) (ok_spec_MulI _ _) fun r16 _ => ?_
      exact Run.x 0
    · refine Run.y (gv := vVc) (fun _ => ?_) (fun _ => ?_)
      · refine Run.q (e := vIv) (gv := vVc) (ok_spec_Integer _) fun r17 _ => ?_
        refine Run.q (e := vIv) (gv := vVc) (ok_spec_SubI _ _) fun r18 _ => ?_
        refine Run.q (e := vIv) (gv := vVc) (ok_spec_MaxI _ _) fun r19 _ => ?_
        refine Run.q (e := vIv) (gv := vVc) (ok_spec_SqrtI _) fun r20 _ => ?_
        refine Run.q (e := vIv) (gv := vVc) (ok_spec_MulI _ _) fun r21 _ => ?_
        refine Run.q (e := vIv) (gv := vVc) (ok_spec_MulI _ _) fun r22 _ => ?_
        exact Run.x 0
      · refine Run.y (gv := vVc) (fun _ => ?_) (fun _ => ?_)
        · refine Run.q (e := vIv) (gv := vVc) (ok_spec_CosI _) fun r23 _ => ?_
          refine Run.q (e := vIv) (gv := vVc) (ok_spec_HullI _ _) fun r24 _ => ?_
          refine Run.y (gv := vVc) (fun _ => ?_) (fun _ => ?_)
          · refine Run.q (e := vIv) (gv := vVc) (ok_spec_SinI _) fun r25 _ => ?_
            refine Run.q (e := vIv) (gv := vVc) (ok_spec_DivI _ _) fun r26 _ => ?_
            refine Run.q (e := vIv) (gv := vVc) (ok_spec_MulI _ _) fun r27 _ => ?_
            refine Run.q (e := vIv) (gv := vVc) (ok_spec_MulI _ _) fun r28 _ => ?_
            exact Run.x 0
          · refine Run.q (e := vIv) (gv := vVc) (ok_spec_MulI _ _) fun r29 _ => ?_
            refine Run.q (e := vIv) (gv := vVc) (ok_spec_MulI _ _) fun r30 _ => ?_
            exact Run.x 0
        · refine Run.q (e := vIv) (gv := vVc) (ok_spec_Integer _) fun r31 _ => ?_
          refine Run.q (e := vIv) (gv := vVc) (ok_spec_HalfI _) fun r32 _ => ?_
          refine Run.q (e := vIv) (gv := vVc) (ok_spec_HalfI _) fun r33 _ => ?_
          refine Run.q (e := vIv) (gv := vVc) (ok_spec_SubI _ _) fun r34 _ => ?_
          refine Run.q (e := vIv) (gv := vVc) (ok_spec_MaxI _ _) fun r35 _ => ?_
          refine Run.q (e := vIv) (gv := vVc) (ok_spec_SqrtI _) fun r36 _ => ?_
          refine Run.q (e := vIv) (gv := vVc) (ok_spec_HalfI _) fun r37 _ => ?_
          refine Run.q (e := vIv) (gv := vVc) (ok_spec_SubI _ _) fun r38 _ => ?_
          refine Run.q (e := vIv) (gv := vVc) (ok_spec_MulI _ _) fun r39 _ => ?_
          refine Run.q (e := vIv) (gv := vVc) (ok_spec_MulI _ _) fun r40 _ => ?_
          exact Run.x 0

theorem ok_spec_HasI (a0 : Iv) (a1 : I64) : Fun Tryz.prog 211 [] #[vIv a0, vI a1] (vB (F_spec_HasI a0 a1)) [] := by
  refine Fun.ofH 400 E_ok mixed Tryz.func211 (by kernel_rfl) (by kernel_rfl) ?_
  unfold F_spec_HasI
  refine Run.q (e := vB) (gv := vB) (ok_spec_l04Ok _) fun r1 _ => ?_
  refine Run.y (gv := vB) (fun _ => ?_) (fun _ => ?_)
  · refine Run.z [true, true, true] ?_
    exact Run.x 0
  · refine Run.z [false, false] ?_
    refine Run.q (e := vB) (gv := vB) (ok_spec_l04Has _ _) fun r2 _ => ?_
    refine Run.z [false] ?_
    exact Run.x 0

theorem ok_spec_DirectionAt (a0 : I64) (a1 : I64) : Fun Tryz.prog 212 [] #[vI a0, vI a1] (vIv (F_spec_DirectionAt a0 a1)) [] := by
  refine Fun.ofH 400 E_ok mixed Tryz.func212 (by kernel_rfl) (by kernel_rfl) ?_
  unfold F_spec_DirectionAt
  refine Run.q (e := vB) (gv := vIv) (ok_spec_l07Fix _) fun r1 _ => ?_
  refine Run.y (gv := vIv) (fun _ => ?_) (fun _ => ?_)
  · refine Run.z [true, true, true, true, true, true, true, true, true] ?_
    refine Run.q (e := vIv) (gv := vIv) (ok_spec_Whole) fun r2 _ => ?_
    exact Run.x 0
  · refine Run.z [false] ?_
    refine Run.q (e := vB) (gv := vIv) (ok_spec_l07Fix _) fun r3 _ => ?_
    refine Run.z [false, false] ?_
    refine Run.y (gv := vIv) (fun _ => ?_) (fun _ => ?_)
    · refine Run.z [true, true, true, true, true] ?_
      refine Run.q (e := vIv) (gv := vIv) (ok_spec_Whole) fun r4 _ => ?_
      exact Run.x 0
    · refine Run.z [false, false] ?_
      refine Run.y (gv := vIv) (fun _ => ?_) (fun _ => ?_)
      · refine Run.z [true, false, true, false] ?_
        refine Run.y (gv := vIv) (fun _ => ?_) (fun _ => ?_)
        · refine Run.q (e := vIv) (gv := vIv) (ok_spec_Whole) fun r5 _ => ?_
          exact Run.x 0
        · refine Run.y (gv := vIv) (fun _ => ?_) (fun _ => ?_)
          · refine Run.y (gv := vIv) (fun _ => ?_) (fun _ => ?_)
            · refine Run.z [true, true, true, true] ?_
              refine Run.y (gv := vIv) (fun _ => ?_) (fun _ => ?_)
              · refine Run.y (gv := vIv) (fun _ => ?_) (fun _ => ?_)
                · refine Run.q (e := vIv) (gv := vIv) (ok_spec_TurnI _) fun r6 _ => ?_
                  refine Run.q (e := vIv) (gv := vIv) (ok_spec_l05At _) fun r7 _ => ?_
                  refine Run.q (e := vIv) (gv := vIv) (ok_spec_l05At _) fun r8 _ => ?_
                  refine Run.q (e := vIv) (gv := vIv) (ok_spec_DivI _ _) fun r9 _ => ?_
                  refine Run.q (e := vIv) (gv := vIv) (ok_spec_AtanI _) fun r10 _ => ?_
                  refine Run.q (e := vIv) (gv := vIv) (ok_spec_SubI _ _) fun r11 _ => ?_
                  exact Run.x 0
                · refine Run.q (e := vIv) (gv := vIv) (ok_spec_TurnI _) fun r12 _ => ?_
                  refine Run.q (e := vIv) (gv := vIv) (ok_spec_l05At _) fun r13 _ => ?_
                  refine Run.q (e := vIv) (gv := vIv) (ok_spec_l05At _) fun r14 _ => ?_
                  refine Run.q (e := vIv) (gv := vIv) (ok_spec_DivI _ _) fun r15 _ => ?_
                  refine Run.q (e := vIv) (gv := vIv) (ok_spec_AtanI _) fun r16 _ => ?_
                  refine Run.q (e := vIv) (gv := vIv) (ok_spec_SubI _ _) fun r17 _ => ?_
                  exact Run.x 0
              · refine Run.y (gv := vIv) (fun _ => ?_) (fun _ => ?_)
                · refine Run.q (e := vIv) (gv := vIv) (ok_spec_l05At _) fun r18 _ => ?_
                  refine Run.q (e := vIv) (gv := vIv) (ok_spec_l05At _) fun r19 _ => ?_
                  refine Run.q (e := vIv) (gv := vIv) (ok_spec_DivI _ _) fun r20 _ => ?_
                  refine Run.q (e := vIv) (gv := vIv) (ok_spec_AtanI _) fun r21 _ => ?_
                  exact Run.x 0
                · refine Run.y (gv := vIv) (fun _ => ?_) (fun _ => ?_)
                  · refine Run.q (e := vIv) (gv := vIv) (ok_spec_l05At _) fun r22 _ => ?_
                    refine Run.q (e := vIv) (gv := vIv) (ok_spec_l05At _) fun r23 _ => ?_
                    refine Run.q (e := vIv) (gv := vIv) (ok_spec_DivI _ _) fun r24 _ => ?_
                    refine Run.q (e := vIv) (gv := vIv) (ok_spec_AtanI _) fun r25 _ => ?_
                    refine Run.q (e := vIv) (gv := vIv) (ok_spec_TurnI _) fun r26 _ => ?_
                    refine Run.q (e := vIv) (gv := vIv) (ok_spec_AddI _ _) fun r27 _ => ?_
                    exact Run.x 0
                  · refine Run.q (e := vIv) (gv := vIv) (ok_spec_l05At _) fun r28 _ => ?_
                    refine Run.q (e := vIv) (gv := vIv) (ok_spec_l05At _) fun r29 _ => ?_
                    refine Run.q (e := vIv) (gv := vIv) (ok_spec_DivI _ _) fun r30 _ => ?_
                    refine Run.q (e := vIv) (gv := vIv) (ok_spec_AtanI _) fun r31 _ => ?_
                    refine Run.q (e := vIv) (gv := vIv) (ok_spec_TurnI _) fun r32 _ => ?_
                    refine Run.q (e := vIv) (gv := vIv) (ok_spec_AddI _ _) fun r33 _ => ?_
                    exact Run.x 0
            · refine Run.z [false, false, false, false, false] ?_
              refine Run.y (gv := vIv) (fun _ => ?_) (fun _ => ?_)
              · refine Run.q (e := vIv) (gv := vIv) (ok_spec_l05At _) fun r34 _ => ?_
                refine Run.q (e := vIv) (gv := vIv) (ok_spec_l05At _) fun r35 _ => ?_
                refine Run.q (e := vIv) (gv := vIv) (ok_spec_DivI _ _) fun r36 _ => ?_
                refine Run.q (e := vIv) (gv := vIv) (ok_spec_AtanI _) fun r37 _ => ?_
                exact Run.x 0
              · refine Run.y (gv := vIv) (fun _ => ?_) (fun _ => ?_)
                · refine Run.q (e := vIv) (gv := vIv) (ok_spec_l05At _) fun r38 _ => ?_
                  refine Run.q (e := vIv) (gv := vIv) (ok_spec_l05At _) fun r39 _ => ?_
                  refine Run.q (e := vIv) (gv := vIv) (ok_spec_DivI _ _) fun r40 _ => ?_
                  refine Run.q (e := vIv) (gv := vIv) (ok_spec_AtanI _) fun r41 _ => ?_
                  refine Run.q (e := vIv) (gv := vIv) (ok_spec_TurnI _) fun r42 _ => ?_
                  refine Run.q (e := vIv) (gv := vIv) (ok_spec_AddI _ _) fun r43 _ => ?_
                  exact Run.x 0
                · refine Run.q (e := vIv) (gv := vIv) (ok_spec_l05At _) fun r44 _ => ?_
                  refine Run.q (e := vIv) (gv := vIv) (ok_spec_l05At _) fun r45 _ => ?_
                  refine Run.q (e := vIv) (gv := vIv) (ok_spec_DivI _ _) fun r46 _ => ?_
                  refine Run.q (e := vIv) (gv := vIv) (ok_spec_AtanI _) fun r47 _ => ?_
                  refine Run.q (e := vIv) (gv := vIv) (ok_spec_TurnI _) fun r48 _ => ?_
                  refine Run.q (e := vIv) (gv := vIv) (ok_spec_AddI _ _) fun r49 _ => ?_
                  exact Run.x 0
          · refine Run.y (gv := vIv) (fun _ => ?_) (fun _ => ?_)
            · refine Run.z [true, true, true, true] ?_
              refine Run.y (gv := vIv) (fun _ => ?_) (fun _ => ?_)
              · refine Run.y (gv := vIv) (fun _ => ?_) (fun _ => ?_)
                · refine Run.q (e := vIv) (gv := vIv) (ok_spec_TurnI _) fun r50 _ => ?_
                  refine Run.q (e := vIv) (gv := vIv) (ok_spec_l05At _) fun r51 _ => ?_
                  refine Run.q (e := vIv) (gv := vIv) (ok_spec_l05At _) fun r52 _ => ?_
                  refine Run.q (e := vIv) (gv := vIv) (ok_spec_DivI _ _) fun r53 _ => ?_
                  refine Run.q (e := vIv) (gv := vIv) (ok_spec_AtanI _) fun r54 _ => ?_
                  refine Run.q (e := vIv) (gv := vIv) (ok_spec_SubI _ _) fun r55 _ => ?_
                  exact Run.x 0
                · refine Run.q (e := vIv) (gv := vIv) (ok_spec_TurnI _) fun r56 _ => ?_
                  refine Run.q (e := vIv) (gv := vIv) (ok_spec_l05At _) fun r57 _ => ?_
                  refine Run.q (e := vIv) (gv := vIv) (ok_spec_l05At _) fun r58 _ => ?_
                  refine Run.q (e := vIv) (gv := vIv) (ok_spec_DivI _ _) fun r59 _ => ?_
                  refine Run.q (e := vIv) (gv := vIv) (ok_spec_AtanI _) fun r60 _ => ?_
                  refine Run.q (e := vIv) (gv := vIv) (ok_spec_SubI _ _) fun r61 _ => ?_
                  exact Run.x 0
              · refine Run.y (gv := vIv) (fun _ => ?_) (fun _ => ?_)
                · refine Run.q (e := vIv) (gv := vIv) (ok_spec_l05At _) fun r62 _ => ?_
                  refine Run.q (e := vIv) (gv := vIv) (ok_spec_l05At _) fun r63 _ => ?_
                  refine Run.q (e := vIv) (gv := vIv) (ok_spec_DivI _ _) fun r64 _ => ?_
                  refine Run.q (e := vIv) (gv := vIv) (ok_spec_AtanI _) fun r65 _ => ?_
                  exact Run.x 0
                · refine Run.y (gv := vIv) (fun _ => ?_) (fun _ => ?_)
                  · refine Run.q (e := vIv) (gv := vIv) (ok_spec_l05At _) fun r66 _ => ?_
                    refine Run.q (e := vIv) (gv := vIv) (ok_spec_l05At _) fun r67 _ => ?_
                    refine Run.q (e := vIv) (gv := vIv) (ok_spec_DivI _ _) fun r68 _ => ?_
                    refine Run.q (e := vIv) (gv := vIv) (ok_spec_AtanI _) fun r69 _ => ?_
                    refine Run.q (e := vIv) (gv := vIv) (ok_spec_TurnI _) fun r70 _ => ?_
                    refine Run.q (e := vIv) (gv := vIv) (ok_spec_AddI _ _) fun r71 _ => ?_
                    exact Run.x 0
                  · refine Run.q (e := vIv) (gv := vIv) (ok_spec_l05At _) fun r72 _ => ?_
                    refine Run.q (e := vIv) (gv := vIv) (ok_spec_l05At _) fun r73 _ => ?_
                    refine Run.q (e := vIv) (gv := vIv) (ok_spec_DivI _ _) fun r74 _ => ?_
                    refine Run.q (e := vIv) (gv := vIv) (ok_spec_AtanI _) fun r75 _ => ?_
                    refine Run.q (e := vIv) (gv := vIv) (ok_spec_TurnI _) fun r76 _ => ?_
                    refine Run.q (e := vIv) (gv := vIv) (ok_spec_AddI _ _) fun r77 _ => ?_
                    exact Run.x 0
            · refine Run.z [false, false, false, false, false] ?_
              refine Run.y (gv := vIv) (fun _ => ?_) (fun _ => ?_)
              · refine Run.q (e := vIv) (gv := vIv) (ok_spec_l05At _) fun r78 _ => ?_
                refine Run.q (e := vIv) (gv := vIv) (ok_spec_l05At _) fun r79 _ => ?_
                refine Run.q (e := vIv) (gv := vIv) (ok_spec_DivI _ _) fun r80 _ => ?_
                refine Run.q (e := vIv) (gv := vIv) (ok_spec_AtanI _) fun r81 _ => ?_
                exact Run.x 0
              · refine Run.y (gv := vIv) (fun _ => ?_) (fun _ => ?_)
                · refine Run.q (e := vIv) (gv := vIv) (ok_spec_l05At _) fun r82 _ => ?_
                  refine Run.q (e := vIv) (gv := vIv) (ok_spec_l05At _) fun r83 _ => ?_
                  refine Run.q (e := vIv) (gv := vIv) (ok_spec_DivI _ _) fun r84 _ => ?_
                  refine Run.q (e := vIv) (gv := vIv) (ok_spec_AtanI _) fun r85 _ => ?_
                  refine Run.q (e := vIv) (gv := vIv) (ok_spec_TurnI _) fun r86 _ => ?_
                  refine Run.q (e := vIv) (gv := vIv) (ok_spec_AddI _ _) fun r87 _ => ?_
                  exact Run.x 0
                · refine Run.q (e := vIv) (gv := vIv) (ok_spec_l05At _) fun r88 _ => ?_
                  refine Run.q (e := vIv) (gv := vIv) (ok_spec_l05At _) fun r89 _ => ?_
                  refine Run.q (e := vIv) (gv := vIv) (ok_spec_DivI _ _) fun r90 _ => ?_
                  refine Run.q (e := vIv) (gv := vIv) (ok_spec_AtanI _) fun r91 _ => ?_
                  refine Run.q (e := vIv) (gv := vIv) (ok_spec_TurnI _) fun r92 _ => ?_
                  refine Run.q (e := vIv) (gv := vIv) (ok_spec_AddI _ _) fun r93 _ => ?_
                  exact Run.x 0
      · refine Run.z [false, false, false, false, false] ?_
        refine Run.y (gv := vIv) (fun _ => ?_) (fun _ => ?_)
        · refine Run.y (gv := vIv) (fun _ => ?_) (fun _ => ?_)
          · refine Run.z [true, true, true, true] ?_
            refine Run.y (gv := vIv) (fun _ => ?_) (fun _ => ?_)
            · refine Run.y (gv := vIv) (fun _ => ?_) (fun _ => ?_)
              · refine Run.q (e := vIv) (gv := vIv) (ok_spec_TurnI _) fun r94 _ => ?_
                refine Run.q (e := vIv) (gv := vIv) (ok_spec_l05At _) fun r95 _ => ?_
                refine Run.q (e := vIv) (gv := vIv) (ok_spec_l05At _) fun r96 _ => ?_
                refine Run.q (e := vIv) (gv := vIv) (ok_spec_DivI _ _) fun r97 _ => ?_
                refine Run.q (e := vIv) (gv := vIv) (ok_spec_AtanI _) fun r98 _ => ?_
                refine Run.q (e := vIv) (gv := vIv) (ok_spec_SubI _ _) fun r99 _ => ?_
                exact Run.x 0
              · refine Run.q (e := vIv) (gv := vIv) (ok_spec_TurnI _) fun r100 _ => ?_
                refine Run.q (e := vIv) (gv := vIv) (ok_spec_l05At _) fun r101 _ => ?_
                refine Run.q (e := vIv) (gv := vIv) (ok_spec_l05At _) fun r102 _ => ?_
                refine Run.q (e := vIv) (gv := vIv) (ok_spec_DivI _ _) fun r103 _ => ?_
                refine Run.q (e := vIv) (gv := vIv) (ok_spec_AtanI _) fun r104 _ => ?_
                refine Run.q (e := vIv) (gv := vIv) (ok_spec_SubI _ _) fun r105 _ => ?_
                exact Run.x 0
            · refine Run.y (gv := vIv) (fun _ => ?_) (fun _ => ?_)
              · refine Run.q (e := vIv) (gv := vIv) (ok_spec_l05At _) fun r106 _ => ?_
                refine Run.q (e := vIv) (gv := vIv) (ok_spec_l05At _) fun r107 _ => ?_
                refine Run.q (e := vIv) (gv := vIv) (ok_spec_DivI _ _) fun r108 _ => ?_
                refine Run.q (e := vIv) (gv := vIv) (ok_spec_AtanI _) fun r109 _ => ?_
                exact Run.x 0
              · refine Run.y (gv := vIv) (fun _ => ?_) (fun _ => ?_)
                · refine Run.q (e := vIv) (gv := vIv) (ok_spec_l05At _) fun r110 _ => ?_
                  refine Run.q (e := vIv) (gv := vIv) (ok_spec_l05At _) fun r111 _ => ?_
                  refine Run.q (e := vIv) (gv := vIv) (ok_spec_DivI _ _) fun r112 _ => ?_
                  refine Run.q (e := vIv) (gv := vIv) (ok_spec_AtanI _) fun r113 _ => ?_
                  refine Run.q (e := vIv) (gv := vIv) (ok_spec_TurnI _) fun r114 _ => ?_
                  refine Run.q (e := vIv) (gv := vIv) (ok_spec_AddI _ _) fun r115 _ => ?_
                  exact Run.x 0
                · refine Run.q (e := vIv) (gv := vIv) (ok_spec_l05At _) fun r116 _ => ?_
                  refine Run.q (e := vIv) (gv := vIv) (ok_spec_l05At _) fun r117 _ => ?_
                  refine Run.q (e := vIv) (gv := vIv) (ok_spec_DivI _ _) fun r118 _ => ?_
                  refine Run.q (e := vIv) (gv := vIv) (ok_spec_AtanI _) fun r119 _ => ?_
                  refine Run.q (e := vIv) (gv := vIv) (ok_spec_TurnI _) fun r120 _ => ?_
                  refine Run.q (e := vIv) (gv := vIv) (ok_spec_AddI _ _) fun r121 _ => ?_
                  exact Run.x 0
          · refine Run.z [false, false, false, false, false] ?_
            refine Run.y (gv := vIv) (fun _ => ?_) (fun _ => ?_)
            · refine Run.q (e := vIv) (gv := vIv) (ok_spec_l05At _) fun r122 _ => ?_
              refine Run.q (e := vIv) (gv := vIv) (ok_spec_l05At _) fun r123 _ => ?_
              refine Run.q (e := vIv) (gv := vIv) (ok_spec_DivI _ _) fun r124 _ => ?_
              refine Run.q (e := vIv) (gv := vIv) (ok_spec_AtanI _) fun r125 _ => ?_
              exact Run.x 0
            · refine Run.y (gv := vIv) (fun _ => ?_) (fun _ => ?_)
              · refine Run.q (e := vIv) (gv := vIv) (ok_spec_l05At _) fun r126 _ => ?_
                refine Run.q (e := vIv) (gv := vIv) (ok_spec_l05At _) fun r127 _ => ?_
                refine Run.q (e := vIv) (gv := vIv) (ok_spec_DivI _ _) fun r128 _ => ?_
                refine Run.q (e := vIv) (gv := vIv) (ok_spec_AtanI _) fun r129 _ => ?_
                refine Run.q (e := vIv) (gv := vIv) (ok_spec_TurnI _) fun r130 _ => ?_
                refine Run.q (e := vIv) (gv := vIv) (ok_spec_AddI _ _) fun r131 _ => ?_
                exact Run.x 0
              · refine Run.q (e := vIv) (gv := vIv) (ok_spec_l05At _) fun r132 _ => ?_
                refine Run.q (e := vIv) (gv := vIv) (ok_spec_l05At _) fun r133 _ => ?_
                refine Run.q (e := vIv) (gv := vIv) (ok_spec_DivI _ _) fun r134 _ => ?_
                refine Run.q (e := vIv) (gv := vIv) (ok_spec_AtanI _) fun r135 _ => ?_
                refine Run.q (e := vIv) (gv := vIv) (ok_spec_TurnI _) fun r136 _ => ?_
                refine Run.q (e := vIv) (gv := vIv) (ok_spec_AddI _ _) fun r137 _ => ?_
                exact Run.x 0
        · refine Run.y (gv := vIv) (fun _ => ?_) (fun _ => ?_)
          · refine Run.z [true, true, true, true] ?_
            refine Run.y (gv := vIv) (fun _ => ?_) (fun _ => ?_)
            · refine Run.y (gv := vIv) (fun _ => ?_) (fun _ => ?_)
              · refine Run.q (e := vIv) (gv := vIv) (ok_spec_TurnI _) fun r138 _ => ?_
                refine Run.q (e := vIv) (gv := vIv) (ok_spec_l05At _) fun r139 _ => ?_
                refine Run.q (e := vIv) (gv := vIv) (ok_spec_l05At _) fun r140 _ => ?_
                refine Run.q (e := vIv) (gv := vIv) (ok_spec_DivI _ _) fun r141 _ => ?_
                refine Run.q (e := vIv) (gv := vIv) (ok_spec_AtanI _) fun r142 _ => ?_
                refine Run.q (e := vIv) (gv := vIv) (ok_spec_SubI _ _) fun r143 _ => ?_
                exact Run.x 0
              · refine Run.q (e := vIv) (gv := vIv) (ok_spec_TurnI _) fun r144 _ => ?_
                refine Run.q (e := vIv) (gv := vIv) (ok_spec_l05At _) fun r145 _ => ?_
                refine Run.q (e := vIv) (gv := vIv) (ok_spec_l05At _) fun r146 _ => ?_
                refine Run.q (e := vIv) (gv := vIv) (ok_spec_DivI _ _) fun r147 _ => ?_
                refine Run.q (e := vIv) (gv := vIv) (ok_spec_AtanI _) fun r148 _ => ?_
                refine Run.q (e := vIv) (gv := vIv) (ok_spec_SubI _ _) fun r149 _ => ?_
                exact Run.x 0
            · refine Run.y (gv := vIv) (fun _ => ?_) (fun _ => ?_)
              · refine Run.q (e := vIv) (gv := vIv) (ok_spec_l05At _) fun r150 _ => ?_
                refine Run.q (e := vIv) (gv := vIv) (ok_spec_l05At _) fun r151 _ => ?_
                refine Run.q (e := vIv) (gv := vIv) (ok_spec_DivI _ _) fun r152 _ => ?_
                refine Run.q (e := vIv) (gv := vIv) (ok_spec_AtanI _) fun r153 _ => ?_
                exact Run.x 0
              · refine Run.y (gv := vIv) (fun _ => ?_) (fun _ => ?_)
                · refine Run.q (e := vIv) (gv := vIv) (ok_spec_l05At _) fun r154 _ => ?_
                  refine Run.q (e := vIv) (gv := vIv) (ok_spec_l05At _) fun r155 _ => ?_
                  refine Run.q (e := vIv) (gv := vIv) (ok_spec_DivI _ _) fun r156 _ => ?_
                  refine Run.q (e := vIv) (gv := vIv) (ok_spec_AtanI _) fun r157 _ => ?_
                  refine Run.q (e := vIv) (gv := vIv) (ok_spec_TurnI _) fun r158 _ => ?_
                  refine Run.q (e := vIv) (gv := vIv) (ok_spec_AddI _ _) fun r159 _ => ?_
                  exact Run.x 0
                · refine Run.q (e := vIv) (gv := vIv) (ok_spec_l05At _) fun r160 _ => ?_
                  refine Run.q (e := vIv) (gv := vIv) (ok_spec_l05At _) fun r161 _ => ?_
                  refine Run.q (e := vIv) (gv := vIv) (ok_spec_DivI _ _) fun r162 _ => ?_
                  refine Run.q (e := vIv) (gv := vIv) (ok_spec_AtanI _) fun r163 _ => ?_
                  refine Run.q (e := vIv) (gv := vIv) (ok_spec_TurnI _) fun r164 _ => ?_
                  refine Run.q (e := vIv) (gv := vIv) (ok_spec_AddI _ _) fun r165 _ => ?_
                  exact Run.x 0
          · refine Run.z [false, false, false, false, false] ?_
            refine Run.y (gv := vIv) (fun _ => ?_) (fun _ => ?_)
            · refine Run.q (e := vIv) (gv := vIv) (ok_spec_l05At _) fun r166 _ => ?_
              refine Run.q (e := vIv) (gv := vIv) (ok_spec_l05At _) fun r167 _ => ?_
              refine Run.q (e := vIv) (gv := vIv) (ok_spec_DivI _ _) fun r168 _ => ?_
              refine Run.q (e := vIv) (gv := vIv) (ok_spec_AtanI _) fun r169 _ => ?_
              exact Run.x 0
            · refine Run.y (gv := vIv) (fun _ => ?_) (fun _ => ?_)
              · refine Run.q (e := vIv) (gv := vIv) (ok_spec_l05At _) fun r170 _ => ?_
                refine Run.q (e := vIv) (gv := vIv) (ok_spec_l05At _) fun r171 _ => ?_
                refine Run.q (e := vIv) (gv := vIv) (ok_spec_DivI _ _) fun r172 _ => ?_
                refine Run.q (e := vIv) (gv := vIv) (ok_spec_AtanI _) fun r173 _ => ?_
                refine Run.q (e := vIv) (gv := vIv) (ok_spec_TurnI _) fun r174 _ => ?_
                refine Run.q (e := vIv) (gv := vIv) (ok_spec_AddI _ _) fun r175 _ => ?_
                exact Run.x 0
              · refine Run.q (e := vIv) (gv := vIv) (ok_spec_l05At _) fun r176 _ => ?_
                refine Run.q (e := vIv) (gv := vIv) (ok_spec_l05At _) fun r177 _ => ?_
                refine Run.q (e := vIv) (gv := vIv) (ok_spec_DivI _ _) fun r178 _ => ?_
                refine Run.q (e := vIv) (gv := vIv) (ok_spec_AtanI _) fun r179 _ => ?_
                refine Run.q (e := vIv) (gv := vIv) (ok_spec_TurnI _) fun r180 _ => ?_
                refine Run.q (e := vIv) (gv := vIv) (ok_spec_AddI _ _) fun r181 _ => ?_
                exact Run.x 0

theorem ok_spec_DirectionI (a0 : Iv) (a1 : Iv) : Fun Tryz.prog 112 [] #[vIv a0, vIv a1] (vIv (F_spec_DirectionI a0 a1)) [] := by
  refine Fun.ofH 400 E_ok mixed Tryz.func112 (by kernel_rfl) (by kernel_rfl) ?_
  unfold F_spec_DirectionI
  refine Run.q (e := vB) (gv := vIv) (ok_spec_IsWhole _) fun r1 _ => ?_
  refine Run.y (gv := vIv) (fun _ => ?_) (fun _ => ?_)
  · refine Run.z [true, true, true, true, true, true, true, true, true, true, true, true, true, true, true, true] ?_
    refine Run.q (e := vIv) (gv := vIv) (ok_spec_Whole) fun r2 _ => ?_
    exact Run.x 0
  · refine Run.z [false] ?_
    refine Run.q (e := vB) (gv := vIv) (ok_spec_IsWhole _) fun r3 _ => ?_
    refine Run.z [false] ?_
    refine Run.y (gv := vIv) (fun _ => ?_) (fun _ => ?_)
    · refine Run.z [true, true, true, true, true, true, true, true, true, true, true, true, true] ?_
      refine Run.q (e := vIv) (gv := vIv) (ok_spec_Whole) fun r4 _ => ?_
      exact Run.x 0
    · refine Run.z [false] ?_
      refine Run.q (e := vB) (gv := vIv) (ok_spec_HasI _ _) fun r5 _ => ?_
      refine Run.z [false] ?_
      refine Run.y (gv := vIv) (fun _ => ?_) (fun _ => ?_)
      · refine Run.z [true] ?_
        refine Run.q (e := vB) (gv := vIv) (ok_spec_HasI _ _) fun r6 _ => ?_
        refine Run.z [false, true, false] ?_
        refine Run.y (gv := vIv) (fun _ => ?_) (fun _ => ?_)
        · refine Run.z [true, true, true, true, true, true, true, true] ?_
          refine Run.q (e := vIv) (gv := vIv) (ok_spec_Whole) fun r7 _ => ?_
          exact Run.x 0
        · refine Run.z [false, false, false] ?_
          refine Run.y (gv := vIv) (fun _ => ?_) (fun _ => ?_)
          · refine Run.z [true, true, false, true, false] ?_
            refine Run.y (gv := vIv) (fun _ => ?_) (fun _ => ?_)
            · refine Run.z [true, true, false, true, false] ?_
              refine Run.y (gv := vIv) (fun _ => ?_) (fun _ => ?_)
              · refine Run.q (e := vIv) (gv := vIv) (ok_spec_Whole) fun r8 _ => ?_
                exact Run.x 0
              · refine Run.q (e := vIv) (gv := vIv) (ok_spec_DirectionAt _ _) fun r9 _ => ?_
                refine Run.q (e := vIv) (gv := vIv) (ok_spec_DirectionAt _ _) fun r10 _ => ?_
                refine Run.q (e := vIv) (gv := vIv) (ok_spec_HullI _ _) fun r11 _ => ?_
                refine Run.q (e := vIv) (gv := vIv) (ok_spec_DirectionAt _ _) fun r12 _ => ?_
                refine Run.q (e := vIv) (gv := vIv) (ok_spec_DirectionAt _ _) fun r13 _ => ?_
                refine Run.q (e := vIv) (gv := vIv) (ok_spec_HullI _ _) fun r14 _ => ?_
                refine Run.q (e := vIv) (gv := vIv) (ok_spec_HullI _ _) fun r15 _ => ?_
                exact Run.x 0
            · refine Run.z [false, false, false, false, false, false] ?_
              refine Run.q (e := vIv) (gv := vIv) (ok_spec_DirectionAt _ _) fun r16 _ => ?_
              refine Run.q (e := vIv) (gv := vIv) (ok_spec_DirectionAt _ _) fun r17 _ => ?_
              refine Run.q (e := vIv) (gv := vIv) (ok_spec_HullI _ _) fun r18 _ => ?_
              refine Run.q (e := vIv) (gv := vIv) (ok_spec_DirectionAt _ _) fun r19 _ => ?_
              refine Run.q (e := vIv) (gv := vIv) (ok_spec_DirectionAt _ _) fun r20 _ => ?_
              refine Run.q (e := vIv) (gv := vIv) (ok_spec_HullI _ _) fun r21 _ => ?_
              refine Run.q (e := vIv) (gv := vIv) (ok_spec_HullI _ _) fun r22 _ => ?_
              exact Run.x 0
          · refine Run.z [false, false, false, false, false, false, false, false, false, false, false, false] ?_
            refine Run.q (e := vIv) (gv := vIv) (ok_spec_DirectionAt _ _) fun r23 _ => ?_
            refine Run.q (e := vIv) (gv := vIv) (ok_spec_DirectionAt _ _) fun r24 _ => ?_
            refine Run.q (e := vIv) (gv := vIv) (ok_spec_HullI _ _) fun r25 _ => ?_
            refine Run.q (e := vIv) (gv := vIv) (ok_spec_DirectionAt _ _) fun r26 _ => ?_
            refine Run.q (e := vIv) (gv := vIv) (ok_spec_DirectionAt _ _) fun r27 _ => ?_
            refine Run.q (e := vIv) (gv := vIv) (ok_spec_HullI _ _) fun r28 _ => ?_
            refine Run.q (e := vIv) (gv := vIv) (ok_spec_HullI _ _) fun r29 _ => ?_
            exact Run.x 0
      · refine Run.z [false, false, false, false, false, false, false, false] ?_
        refine Run.y (gv := vIv) (fun _ => ?_) (fun _ => ?_)
        · refine Run.z [true, true, false, true, false] ?_
          refine Run.y (gv := vIv) (fun _ => ?_) (fun _ => ?_)
          · refine Run.z [true, true, false, true, false] ?_
            refine Run.y (gv := vIv) (fun _ => ?_) (fun _ => ?_)
            · refine Run.q (e := vIv) (gv := vIv) (ok_spec_Whole) fun r30 _ => ?_
              exact Run.x 0
            · refine Run.q (e := vIv) (gv := vIv) (ok_spec_DirectionAt _ _) fun r31 _ => ?_
              refine Run.q (e := vIv) (gv := vIv) (ok_spec_DirectionAt _ _) fun r32 _ => ?_
              refine Run.q (e := vIv) (gv := vIv) (ok_spec_HullI _ _) fun r33 _ => ?_
              refine Run.q (e := vIv) (gv := vIv) (ok_spec_DirectionAt _ _) fun r34 _ => ?_
              refine Run.q (e := vIv) (gv := vIv) (ok_spec_DirectionAt _ _) fun r35 _ => ?_
              refine Run.q (e := vIv) (gv := vIv) (ok_spec_HullI _ _) fun r36 _ => ?_
              refine Run.q (e := vIv) (gv := vIv) (ok_spec_HullI _ _) fun r37 _ => ?_
              exact Run.x 0
          · refine Run.z [false, false, false, false, false, false] ?_
            refine Run.q (e := vIv) (gv := vIv) (ok_spec_DirectionAt _ _) fun r38 _ => ?_
            refine Run.q (e := vIv) (gv := vIv) (ok_spec_DirectionAt _ _) fun r39 _ => ?_
            refine Run.q (e := vIv) (gv := vIv) (ok_spec_HullI _ _) fun r40 _ => ?_
            refine Run.q (e := vIv) (gv := vIv) (ok_spec_DirectionAt _ _) fun r41 _ => ?_
            refine Run.q (e := vIv) (gv := vIv) (ok_spec_DirectionAt _ _) fun r42 _ => ?_
            refine Run.q (e := vIv) (gv := vIv) (ok_spec_HullI _ _) fun r43 _ => ?_
            refine Run.q (e := vIv) (gv := vIv) (ok_spec_HullI _ _) fun r44 _ => ?_
            exact Run.x 0
        · refine Run.z [false, false, false, false, false, false, false, false, false, false, false, false] ?_
          refine Run.q (e := vIv) (gv := vIv) (ok_spec_DirectionAt _ _) fun r45 _ => ?_
          refine Run.q (e := vIv) (gv := vIv) (ok_spec_DirectionAt _ _) fun r46 _ => ?_
          refine Run.q (e := vIv) (gv := vIv) (ok_spec_HullI _ _) fun r47 _ => ?_
          refine Run.q (e := vIv) (gv := vIv) (ok_spec_DirectionAt _ _) fun r48 _ => ?_
          refine Run.q (e := vIv) (gv := vIv) (ok_spec_DirectionAt _ _) fun r49 _ => ?_
          refine Run.q (e := vIv) (gv := vIv) (ok_spec_HullI _ _) fun r50 _ => ?_
          refine Run.q (e := vIv) (gv := vIv) (ok_spec_HullI _ _) fun r51 _ => ?_
          exact Run.x 0

theorem ok_spec_PositionOf (a0 : Vc) : Fun Tryz.prog 203 [] #[vVc a0] (vT_Iv_Iv_I (F_spec_PositionOf a0)) [] := by
  refine Fun.ofH 400 E_ok mixed Tryz.func203 (by kernel_rfl) (by kernel_rfl) ?_
  unfold F_spec_PositionOf
  refine Run.q (e := vIv) (gv := vT_Iv_Iv_I) (ok_spec_l15Flat _) fun r1 _ => ?_
  refine Run.q (e := vIv) (gv := vT_Iv_Iv_I) (ok_spec_DirectionI _ _) fun r2 _ => ?_
  refine Run.q (e := vB) (gv := vT_Iv_Iv_I) (ok_spec_IsWhole _) fun r3 _ => ?_
  refine Run.y (gv := vT_Iv_Iv_I) (fun _ => ?_) (fun _ => ?_)
  · exact Run.x 0
  · refine Run.q (e := vIv) (gv := vT_Iv_Iv_I) (ok_spec_DirectionI _ _) fun r4 _ => ?_
    exact Run.x 0

end Go.Proofs.YtjbdilphncpceaaGreat.Abs
