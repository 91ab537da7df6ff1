/- The program's functions are these; part 0 (written by w.py). -/
import Derived.Test.YtfhnlkinjbakgaaGreatSsE
import Derived.Test.YtfhnlkinjbakgaaGreatSsF3
import Derived.Test.YtfhnlkinjbakgaaGreatSsQpre
set_option linter.unusedVariables false
set_option linter.unusedSimpArgs false
namespace Go.Proofs.YtfhnlkinjbakgaaGreat.Abs
open Go Go.RowKit
theorem Zz (a0 : Dp) (a1 : Dp) : Br Tryz.prog 273 [] #[vU a0,vU a1] (K6 (Nj a0 a1)) []:=by
 refine Br.ofH 400 Az mixed Tryz.func273 (by kernel_rfl) (by kernel_rfl) ?_
 unfold Nj
 refine Ac.z [true,true,true,true,true] ?_
 exact Ac.x 0
def ren : Shelf.Ren:=⟨fun n=>if n = 129 then 322 else if n = 134 then 317 else 0,fun n=>if n = 3 then 3 else if n = 4 then 4 else if n = 5 then 5 else if n = 9 then 9 else if n = 46 then 123 else if n = 53 then 100 else 0,fun n=>n⟩
theorem Ag2 : Lays.n134 Tryz.prog ren:={ mixed:=mixed,f129:=by kernel_rfl,f134:=by kernel_rfl,t3:=by kernel_rfl,a3:=fun w=>by kernel_rfl,z3:=fun w=>by kernel_rfl,v3:=fun w=>by kernel_rfl,t4:=by kernel_rfl,a4:=fun w=>by kernel_rfl,z4:=fun w=>by kernel_rfl,v4:=fun w=>by kernel_rfl,t5:=by kernel_rfl,a5:=fun w=>by kernel_rfl,z5:=fun w=>by kernel_rfl,v5:=fun w=>by kernel_rfl,t9:=by kernel_rfl,a9:=fun w=>by kernel_rfl,z9:=fun w=>by kernel_rfl,v9:=fun w=>by kernel_rfl,t46:=by kernel_rfl,a46:=fun w=>by kernel_rfl,z46:=fun w=>by kernel_rfl,v46:=fun w=>by kernel_rfl,t53:=by kernel_rfl,a53:=fun w=>by kernel_rfl,z53:=fun w=>by kernel_rfl,v53:=fun w=>by kernel_rfl }
theorem V8 (a0 : Dp) : Br Tryz.prog 317 [] #[vU a0] (vI (Bg a0)) []:=by
 refine Br.ofCalls Tryz.func317 (by kernel_rfl) (by kernel_rfl) (by kernel_rfl) (by kernel_rfl) fun w=>?_
 refine (Any.bits_LeadingZeros64 Ag2 a0.val w a0.lo a0.hi).mono ?_
 rintro e w' ⟨rfl,rfl⟩
 have h:=Lib.bitLen_le a0.val.toNat 64 (by have q0:=Dp.lo a0; have q1:=Dp.hi a0; omega) (by have q0:=Dp.lo a0; have q1:=Dp.hi a0; omega)
 have e : vI (Bg a0) = .int .i64 (64 - (Lib.bitLen a0.val.toNat : Int)):=by
  show Value.int .i64 (An (64 - (Lib.bitLen a0.val.toNat : Int))).val = _
  rw [Ad]
  congr 1
  omega
 exact ⟨by rw [e],rfl⟩
theorem Qk : ∀ (fu : Nat) (x_y : Dp) (x_s : Dp) (x_yn1 : Dp) (x_yn0 : Dp) (x_un0 : Dp) (x_q1 : Dp) (x_un21 : Dp) (x_rhat : Dp) (x_q0 : Dp) (q0 : x_rhat.val < 4294967296) (q1 : 1 ≤ x_yn1.val ∧ x_yn1.val ≤ 4294967295) (hm : (4294967296 - x_rhat.val).toNat < fu) (t : Array Value) (ht : Qf t [0,1,3,4,5,11,12,13,19,20,21,22,23,24,25,26,27,28,29,30,31,32,33,34,35,36,37,38,39,40,41,42,43,44,45,46,47,48,49,50,51,52,53,54,55,56,57,58,59,60,61,62,63,64,65,66,67,68,69,70,71,72,73,74,75,76,77,78,79,80,81,82,83,84,85,86,87,88,89,90,91,92,93,94,95,96,97,98,99,100,101,102,103,104,105,106,107,108,109,110,111,112,113,114,115,116,117,118,119,120,121,122,123,124,125,126,127,128,129,130,131,132,133,134] = #[undef,undef,.int .u64 x_y.val,undef,undef,undef,.int .u64 0,.int .u64 0,.int .u64 x_s.val,.int .u64 x_yn1.val,.int .u64 x_yn0.val,undef,undef,undef,.int .u64 x_un0.val,.int .u64 x_q1.val,.int .u64 x_rhat.val,.int .u64 x_un21.val,.int .u64 x_q0.val,undef,undef,undef,undef,undef,undef,undef,undef,undef,undef,undef,undef,undef,undef,undef,undef,undef,undef,undef,undef,undef,undef,undef,undef,undef,undef,undef,undef,undef,undef,undef,undef,undef,undef,undef,undef,undef,undef,undef,undef,undef,undef,undef,undef,undef,undef,undef,undef,undef,undef,undef,undef,undef,undef,undef,undef,undef,undef,undef,undef,undef,undef,undef,undef,undef,undef,undef,undef,undef,undef,undef,undef,undef,undef,undef,undef,undef,undef,undef,undef,undef,undef,undef,undef,undef,undef,undef,undef,undef,undef,undef,undef,undef,undef,undef,undef,undef,undef,undef,undef,undef,undef,undef,undef,undef,undef,undef,undef,undef,undef,undef,undef,undef,undef,undef,undef]),Ox Tryz.prog 303 (Wj Tryz.f303 1) t [] (Ou [] (K6 (Ey fu x_y x_s x_yn1 x_yn0 x_un0 x_q1 x_un21 x_rhat x_q0))):=by
 intro fu
 induction fu with
 | zero=>intro x_y x_s x_yn1 x_yn0 x_un0 x_q1 x_un21 x_rhat x_q0 q0 q1 hm; exact absurd hm (Nat.not_lt_zero _)
 | succ fu ih=>
  intro x_y x_s x_yn1 x_yn0 x_un0 x_q1 x_un21 x_rhat x_q0 q0 q1 hm t ht
  refine Ox.round Az mixed Tryz.func303 ht fun g=>?_
  unfold Ey
  refine Ac.y (gv:=K6) (fun h5=>?_) (fun h5=>?_)
  ·refine Ac.z [true,true,true,true,true,true,true,true,true] ?_
   refine Ac.y (gv:=K6) (fun h6=>?_) (fun h6=>?_)
   ·refine Ac.k (c:=(decide (0 ≤ x_s.val))) (by kernel_rfl) (by first | (have n2:=J8 a2 (by have:=a0.lo; omega); rw [← hr2] at n2; exact decide_eq_true (by omega)) | (have p1:=q1.1; exact decide_eq_true (by omega)) | exact decide_eq_true (Dp.lo _) | exact decide_eq_true (by have:=Dp.lo a0; omega)) ?_
    exact Ac.x 0
   ·exact Ac.l (by kernel_rfl) (by kernel_rfl) (by kernel_rfl) (by kernel_rfl) (ih x_y x_s x_yn1 x_yn0 x_un0 x_q1 x_un21 (Ak (x_rhat.val + x_yn1.val)) (Ak (x_q0.val - 1)) (by first | exact q1 | (have p1:=q1.1; have p2:=q1.2; have p3:=x_rhat.lo; simp only [At,decide_eq_true_eq,decide_eq_false_iff_not] at *; omega)) (by first | exact q1 | (have p1:=q1.1; have p2:=q1.2; have p3:=x_rhat.lo; simp only [At,decide_eq_true_eq,decide_eq_false_iff_not] at *; omega)) (by first | exact q1 | (have p1:=q1.1; have p2:=q1.2; have p3:=x_rhat.lo; simp only [At,decide_eq_true_eq,decide_eq_false_iff_not] at *; omega)))
  ·refine Ac.z [false,false,false,false,false,false,false,false] ?_
   refine Ac.y (gv:=K6) (fun h7=>?_) (fun h7=>?_)
   ·refine Ac.y (gv:=K6) (fun h8=>?_) (fun h8=>?_)
    ·refine Ac.k (c:=(decide (0 ≤ x_s.val))) (by kernel_rfl) (by first | (have n2:=J8 a2 (by have:=a0.lo; omega); rw [← hr2] at n2; exact decide_eq_true (by omega)) | (have p1:=q1.1; exact decide_eq_true (by omega)) | exact decide_eq_true (Dp.lo _) | exact decide_eq_true (by have:=Dp.lo a0; omega)) ?_
     exact Ac.x 0
    ·exact Ac.l (by kernel_rfl) (by kernel_rfl) (by kernel_rfl) (by kernel_rfl) (ih x_y x_s x_yn1 x_yn0 x_un0 x_q1 x_un21 (Ak (x_rhat.val + x_yn1.val)) (Ak (x_q0.val - 1)) (by first | exact q1 | (have p1:=q1.1; have p2:=q1.2; have p3:=x_rhat.lo; simp only [At,decide_eq_true_eq,decide_eq_false_iff_not] at *; omega)) (by first | exact q1 | (have p1:=q1.1; have p2:=q1.2; have p3:=x_rhat.lo; simp only [At,decide_eq_true_eq,decide_eq_false_iff_not] at *; omega)) (by first | exact q1 | (have p1:=q1.1; have p2:=q1.2; have p3:=x_rhat.lo; simp only [At,decide_eq_true_eq,decide_eq_false_iff_not] at *; omega)))
   ·refine Ac.k (c:=(decide (0 ≤ x_s.val))) (by kernel_rfl) (by first | (have n2:=J8 a2 (by have:=a0.lo; omega); rw [← hr2] at n2; exact decide_eq_true (by omega)) | (have p1:=q1.1; exact decide_eq_true (by omega)) | exact decide_eq_true (Dp.lo _) | exact decide_eq_true (by have:=Dp.lo a0; omega)) ?_
    exact Ac.x 0
theorem eC : ∀ (fu : Nat) (x_y : Dp) (x_s : Dp) (x_yn1 : Dp) (x_yn0 : Dp) (x_un32 : Dp) (x_un1 : Dp) (x_un0 : Dp) (x_q1 : Dp) (x_rhat : Dp) (q0 : x_rhat.val < 4294967296) (q1 : 1 ≤ x_yn1.val ∧ x_yn1.val ≤ 4294967295) (hm : (4294967296 - x_rhat.val).toNat < fu) (t : Array Value) (ht : Qf t [0,1,3,4,5,12,17,18,19,20,21,22,23,24,25,26,27,28,29,30,31,32,33,34,35,36,37,38,39,40,41,42,43,44,45,46,47,48,49,50,51,52,53,54,55,56,57,58,59,60,61,62,63,64,65,66,67,68,69,70,71,72,73,74,75,76,77,78,79,80,81,82,83,84,85,86,87,88,89,90,91,92,93,94,95,96,97,98,99,100,101,102,103,104,105,106,107,108,109,110,111,112,113,114,115,116,117,118,119,120,121,122,123,124,125,126,127,128,129,130,131,132,133,134] = #[undef,undef,.int .u64 x_y.val,undef,undef,undef,.int .u64 0,.int .u64 0,.int .u64 x_s.val,.int .u64 x_yn1.val,.int .u64 x_yn0.val,.int .u64 x_un32.val,undef,.int .u64 x_un1.val,.int .u64 x_un0.val,.int .u64 x_q1.val,.int .u64 x_rhat.val,undef,undef,undef,undef,undef,undef,undef,undef,undef,undef,undef,undef,undef,undef,undef,undef,undef,undef,undef,undef,undef,undef,undef,undef,undef,undef,undef,undef,undef,undef,undef,undef,undef,undef,undef,undef,undef,undef,undef,undef,undef,undef,undef,undef,undef,undef,undef,undef,undef,undef,undef,undef,undef,undef,undef,undef,undef,undef,undef,undef,undef,undef,undef,undef,undef,undef,undef,undef,undef,undef,undef,undef,undef,undef,undef,undef,undef,undef,undef,undef,undef,undef,undef,undef,undef,undef,undef,undef,undef,undef,undef,undef,undef,undef,undef,undef,undef,undef,undef,undef,undef,undef,undef,undef,undef,undef,undef,undef,undef,undef,undef,undef,undef,undef,undef,undef,undef,undef]),Ox Tryz.prog 303 (Wj Tryz.f303 0) t [] (Ou [] (K6 (Iz fu x_y x_s x_yn1 x_yn0 x_un32 x_un1 x_un0 x_q1 x_rhat))):=by
 intro fu
 induction fu with
 | zero=>intro x_y x_s x_yn1 x_yn0 x_un32 x_un1 x_un0 x_q1 x_rhat q0 q1 hm; exact absurd hm (Nat.not_lt_zero _)
 | succ fu ih=>
  intro x_y x_s x_yn1 x_yn0 x_un32 x_un1 x_un0 x_q1 x_rhat q0 q1 hm t ht
  refine Ox.round Az mixed Tryz.func303 ht fun g=>?_
  unfold Iz
  refine Ac.y (gv:=K6) (fun h3=>?_) (fun h3=>?_)
  ·refine Ac.z [true,true,true,true,true,true,true,true,true] ?_
   refine Ac.y (gv:=K6) (fun h4=>?_) (fun h4=>?_)
   ·refine Ac.k (c:=(decide (x_yn1.val ≠ 0))) (by kernel_rfl) (by first | (have n2:=J8 a2 (by have:=a0.lo; omega); rw [← hr2] at n2; exact decide_eq_true (by omega)) | (have p1:=q1.1; exact decide_eq_true (by omega)) | exact decide_eq_true (Dp.lo _) | exact decide_eq_true (by have:=Dp.lo a0; omega)) ?_
    exact Ac.l (by kernel_rfl) (by kernel_rfl) (by kernel_rfl) (by kernel_rfl) (Qk ((4294967296 - (Ak ((Ak ((Ak ((Ak (x_un32.val * 4294967296)).val + x_un1.val)).val - (Ak ((Ak (x_q1.val - 1)).val * x_y.val)).val)).val - (Ak ((Ak (Int.tdiv (Ak ((Ak ((Ak (x_un32.val * 4294967296)).val + x_un1.val)).val - (Ak ((Ak (x_q1.val - 1)).val * x_y.val)).val)).val x_yn1.val)).val * x_yn1.val)).val)).val).toNat + 1) x_y x_s x_yn1 x_yn0 x_un0 (Ak (x_q1.val - 1)) (Ak ((Ak ((Ak (x_un32.val * 4294967296)).val + x_un1.val)).val - (Ak ((Ak (x_q1.val - 1)).val * x_y.val)).val)) (Ak ((Ak ((Ak ((Ak (x_un32.val * 4294967296)).val + x_un1.val)).val - (Ak ((Ak (x_q1.val - 1)).val * x_y.val)).val)).val - (Ak ((Ak (Int.tdiv (Ak ((Ak ((Ak (x_un32.val * 4294967296)).val + x_un1.val)).val - (Ak ((Ak (x_q1.val - 1)).val * x_y.val)).val)).val x_yn1.val)).val * x_yn1.val)).val)) (Ak (Int.tdiv (Ak ((Ak ((Ak (x_un32.val * 4294967296)).val + x_un1.val)).val - (Ak ((Ak (x_q1.val - 1)).val * x_y.val)).val)).val x_yn1.val)) (by first | exact Pu _ _ q1.1 q1.2 | exact q1 | exact Nat.lt_succ_self _) (by first | exact Pu _ _ q1.1 q1.2 | exact q1 | exact Nat.lt_succ_self _) (by first | exact Pu _ _ q1.1 q1.2 | exact q1 | exact Nat.lt_succ_self _))
   ·exact Ac.l (by kernel_rfl) (by kernel_rfl) (by kernel_rfl) (by kernel_rfl) (ih x_y x_s x_yn1 x_yn0 x_un32 x_un1 x_un0 (Ak (x_q1.val - 1)) (Ak (x_rhat.val + x_yn1.val)) (by first | exact q1 | (have p1:=q1.1; have p2:=q1.2; have p3:=x_rhat.lo; simp only [At,decide_eq_true_eq,decide_eq_false_iff_not] at *; omega)) (by first | exact q1 | (have p1:=q1.1; have p2:=q1.2; have p3:=x_rhat.lo; simp only [At,decide_eq_true_eq,decide_eq_false_iff_not] at *; omega)) (by first | exact q1 | (have p1:=q1.1; have p2:=q1.2; have p3:=x_rhat.lo; simp only [At,decide_eq_true_eq,decide_eq_false_iff_not] at *; omega)))
  ·refine Ac.z [false,false,false,false,false,false,false,false] ?_
   refine Ac.y (gv:=K6) (fun h9=>?_) (fun h9=>?_)
   ·refine Ac.y (gv:=K6) (fun h10=>?_) (fun h10=>?_)
    ·refine Ac.k (c:=(decide (x_yn1.val ≠ 0))) (by kernel_rfl) (by first | (have n2:=J8 a2 (by have:=a0.lo; omega); rw [← hr2] at n2; exact decide_eq_true (by omega)) | (have p1:=q1.1; exact decide_eq_true (by omega)) | exact decide_eq_true (Dp.lo _) | exact decide_eq_true (by have:=Dp.lo a0; omega)) ?_
     exact Ac.l (by kernel_rfl) (by kernel_rfl) (by kernel_rfl) (by kernel_rfl) (Qk ((4294967296 - (Ak ((Ak ((Ak ((Ak (x_un32.val * 4294967296)).val + x_un1.val)).val - (Ak ((Ak (x_q1.val - 1)).val * x_y.val)).val)).val - (Ak ((Ak (Int.tdiv (Ak ((Ak ((Ak (x_un32.val * 4294967296)).val + x_un1.val)).val - (Ak ((Ak (x_q1.val - 1)).val * x_y.val)).val)).val x_yn1.val)).val * x_yn1.val)).val)).val).toNat + 1) x_y x_s x_yn1 x_yn0 x_un0 (Ak (x_q1.val - 1)) (Ak ((Ak ((Ak (x_un32.val * 4294967296)).val + x_un1.val)).val - (Ak ((Ak (x_q1.val - 1)).val * x_y.val)).val)) (Ak ((Ak ((Ak ((Ak (x_un32.val * 4294967296)).val + x_un1.val)).val - (Ak ((Ak (x_q1.val - 1)).val * x_y.val)).val)).val - (Ak ((Ak (Int.tdiv (Ak ((Ak ((Ak (x_un32.val * 4294967296)).val + x_un1.val)).val - (Ak ((Ak (x_q1.val - 1)).val * x_y.val)).val)).val x_yn1.val)).val * x_yn1.val)).val)) (Ak (Int.tdiv (Ak ((Ak ((Ak (x_un32.val * 4294967296)).val + x_un1.val)).val - (Ak ((Ak (x_q1.val - 1)).val * x_y.val)).val)).val x_yn1.val)) (by first | exact Pu _ _ q1.1 q1.2 | exact q1 | exact Nat.lt_succ_self _) (by first | exact Pu _ _ q1.1 q1.2 | exact q1 | exact Nat.lt_succ_self _) (by first | exact Pu _ _ q1.1 q1.2 | exact q1 | exact Nat.lt_succ_self _))
    ·exact Ac.l (by kernel_rfl) (by kernel_rfl) (by kernel_rfl) (by kernel_rfl) (ih x_y x_s x_yn1 x_yn0 x_un32 x_un1 x_un0 (Ak (x_q1.val - 1)) (Ak (x_rhat.val + x_yn1.val)) (by first | exact q1 | (have p1:=q1.1; have p2:=q1.2; have p3:=x_rhat.lo; simp only [At,decide_eq_true_eq,decide_eq_false_iff_not] at *; omega)) (by first | exact q1 | (have p1:=q1.1; have p2:=q1.2; have p3:=x_rhat.lo; simp only [At,decide_eq_true_eq,decide_eq_false_iff_not] at *; omega)) (by first | exact q1 | (have p1:=q1.1; have p2:=q1.2; have p3:=x_rhat.lo; simp only [At,decide_eq_true_eq,decide_eq_false_iff_not] at *; omega)))
   ·refine Ac.k (c:=(decide (x_yn1.val ≠ 0))) (by kernel_rfl) (by first | (have n2:=J8 a2 (by have:=a0.lo; omega); rw [← hr2] at n2; exact decide_eq_true (by omega)) | (have p1:=q1.1; exact decide_eq_true (by omega)) | exact decide_eq_true (Dp.lo _) | exact decide_eq_true (by have:=Dp.lo a0; omega)) ?_
    exact Ac.l (by kernel_rfl) (by kernel_rfl) (by kernel_rfl) (by kernel_rfl) (Qk ((4294967296 - (Ak ((Ak ((Ak ((Ak (x_un32.val * 4294967296)).val + x_un1.val)).val - (Ak (x_q1.val * x_y.val)).val)).val - (Ak ((Ak (Int.tdiv (Ak ((Ak ((Ak (x_un32.val * 4294967296)).val + x_un1.val)).val - (Ak (x_q1.val * x_y.val)).val)).val x_yn1.val)).val * x_yn1.val)).val)).val).toNat + 1) x_y x_s x_yn1 x_yn0 x_un0 x_q1 (Ak ((Ak ((Ak (x_un32.val * 4294967296)).val + x_un1.val)).val - (Ak (x_q1.val * x_y.val)).val)) (Ak ((Ak ((Ak ((Ak (x_un32.val * 4294967296)).val + x_un1.val)).val - (Ak (x_q1.val * x_y.val)).val)).val - (Ak ((Ak (Int.tdiv (Ak ((Ak ((Ak (x_un32.val * 4294967296)).val + x_un1.val)).val - (Ak (x_q1.val * x_y.val)).val)).val x_yn1.val)).val * x_yn1.val)).val)) (Ak (Int.tdiv (Ak ((Ak ((Ak (x_un32.val * 4294967296)).val + x_un1.val)).val - (Ak (x_q1.val * x_y.val)).val)).val x_yn1.val)) (by first | exact Pu _ _ q1.1 q1.2 | exact q1 | exact Nat.lt_succ_self _) (by first | exact Pu _ _ q1.1 q1.2 | exact q1 | exact Nat.lt_succ_self _) (by first | exact Pu _ _ q1.1 q1.2 | exact q1 | exact Nat.lt_succ_self _))
theorem lM (a0 : Dp) (a1 : Dp) (a2 : Dp) (p0 : a0.val < a2.val) : Br Tryz.prog 303 [] #[vU a0,vU a1,vU a2] (K6 (P9 a0 a1 a2)) []:=by
 refine Br.ofH 400 Az mixed Tryz.func303 (by kernel_rfl) (by kernel_rfl) ?_
 unfold P9
 refine Ac.kn (c:=(a2.val == 0)) (by kernel_rfl) (by have q:=a0.lo; simp; omega) ?_
 refine Ac.kn (c:=(decide (a2.val ≤ a0.val))) (by kernel_rfl) (by simp; omega) ?_
 refine Ac.y (gv:=K6) (fun h1=>?_) (fun h1=>?_)
 ·refine Ac.k (c:=(decide (a2.val ≠ 0))) (by kernel_rfl) (by first | (have n2:=J8 a2 (by have:=a0.lo; omega); rw [← hr2] at n2; exact decide_eq_true (by omega)) | (have p1:=q1.1; exact decide_eq_true (by omega)) | exact decide_eq_true (Dp.lo _) | exact decide_eq_true (by have:=Dp.lo a0; omega)) ?_
  refine Ac.k (c:=(decide (a2.val ≠ 0))) (by kernel_rfl) (by first | (have n2:=J8 a2 (by have:=a0.lo; omega); rw [← hr2] at n2; exact decide_eq_true (by omega)) | (have p1:=q1.1; exact decide_eq_true (by omega)) | exact decide_eq_true (Dp.lo _) | exact decide_eq_true (by have:=Dp.lo a0; omega)) ?_
  exact Ac.x 0
 ·refine Ac.q (e:=vI) (gv:=K6) (V8 _) fun r2 hr2=>?_
  refine Ac.k (c:=(decide (0 ≤ (Ak r2.val).val))) (by kernel_rfl) (by first | (have n2:=J8 a2 (by have:=a0.lo; omega); rw [← hr2] at n2; exact decide_eq_true (by omega)) | (have p1:=q1.1; exact decide_eq_true (by omega)) | exact decide_eq_true (Dp.lo _) | exact decide_eq_true (by have:=Dp.lo a0; omega)) ?_
  refine Ac.z [true] ?_
  refine Ac.k (c:=(decide (0 ≤ (Ak r2.val).val))) (by kernel_rfl) (by first | (have n2:=J8 a2 (by have:=a0.lo; omega); rw [← hr2] at n2; exact decide_eq_true (by omega)) | (have p1:=q1.1; exact decide_eq_true (by omega)) | exact decide_eq_true (Dp.lo _) | exact decide_eq_true (by have:=Dp.lo a0; omega)) ?_
  refine Ac.k (c:=(decide (0 ≤ (Ak (64 - (Ak r2.val).val)).val))) (by kernel_rfl) (by first | (have n2:=J8 a2 (by have:=a0.lo; omega); rw [← hr2] at n2; exact decide_eq_true (by omega)) | (have p1:=q1.1; exact decide_eq_true (by omega)) | exact decide_eq_true (Dp.lo _) | exact decide_eq_true (by have:=Dp.lo a0; omega)) ?_
  refine Ac.k (c:=(decide (0 ≤ (Ak r2.val).val))) (by kernel_rfl) (by first | (have n2:=J8 a2 (by have:=a0.lo; omega); rw [← hr2] at n2; exact decide_eq_true (by omega)) | (have p1:=q1.1; exact decide_eq_true (by omega)) | exact decide_eq_true (Dp.lo _) | exact decide_eq_true (by have:=Dp.lo a0; omega)) ?_
  refine Ac.z [true] ?_
  refine Ac.k (c:=(decide ((Ck (Ci .u64 a2.val (Ak r2.val).val) 32).val ≠ 0))) (by kernel_rfl) (by first | (have n2:=J8 a2 (by have:=a0.lo; omega); rw [← hr2] at n2; exact decide_eq_true (by omega)) | (have p1:=q1.1; exact decide_eq_true (by omega)) | exact decide_eq_true (Dp.lo _) | exact decide_eq_true (by have:=Dp.lo a0; omega)) ?_
  exact Ac.l (by kernel_rfl) (by kernel_rfl) (by kernel_rfl) (by kernel_rfl) (eC ((4294967296 - (Ak ((Qg .u64 (Ci .u64 a0.val (Ak r2.val).val).val (Ck a1 (Ak (64 - (Ak r2.val).val)).val).val).val - (Ak ((Ak (Int.tdiv (Qg .u64 (Ci .u64 a0.val (Ak r2.val).val).val (Ck a1 (Ak (64 - (Ak r2.val).val)).val).val).val (Ck (Ci .u64 a2.val (Ak r2.val).val) 32).val)).val * (Ck (Ci .u64 a2.val (Ak r2.val).val) 32).val)).val)).val).toNat + 1) (Ci .u64 a2.val (Ak r2.val).val) (Ak r2.val) (Ck (Ci .u64 a2.val (Ak r2.val).val) 32) (Eo .u64 (Ci .u64 a2.val (Ak r2.val).val).val 4294967295) (Qg .u64 (Ci .u64 a0.val (Ak r2.val).val).val (Ck a1 (Ak (64 - (Ak r2.val).val)).val).val) (Ck (Ci .u64 a1.val (Ak r2.val).val) 32) (Eo .u64 (Ci .u64 a1.val (Ak r2.val).val).val 4294967295) (Ak (Int.tdiv (Qg .u64 (Ci .u64 a0.val (Ak r2.val).val).val (Ck a1 (Ak (64 - (Ak r2.val).val)).val).val).val (Ck (Ci .u64 a2.val (Ak r2.val).val) 32).val)) (Ak ((Qg .u64 (Ci .u64 a0.val (Ak r2.val).val).val (Ck a1 (Ak (64 - (Ak r2.val).val)).val).val).val - (Ak ((Ak (Int.tdiv (Qg .u64 (Ci .u64 a0.val (Ak r2.val).val).val (Ck a1 (Ak (64 - (Ak r2.val).val)).val).val).val (Ck (Ci .u64 a2.val (Ak r2.val).val) 32).val)).val * (Ck (Ci .u64 a2.val (Ak r2.val).val) 32).val)).val)) (by have n2:=J8 a2 (by have:=a0.lo; omega); rw [← hr2] at n2; first | exact Pu _ _ n2.1 n2.2 | exact n2 | exact Nat.lt_succ_self _) (by have n2:=J8 a2 (by have:=a0.lo; omega); rw [← hr2] at n2; first | exact Pu _ _ n2.1 n2.2 | exact n2 | exact Nat.lt_succ_self _) (by have n2:=J8 a2 (by have:=a0.lo; omega); rw [← hr2] at n2; first | exact Pu _ _ n2.1 n2.2 | exact n2 | exact Nat.lt_succ_self _))
theorem Qc (b0_0 : Aq) (b0_1 : Aq) (b0_2 : Aq) (b0_3 : Aq) (b0_4 : Aq) (b0_5 : Aq) (a0 : Aq) : Br Tryz.prog 100 [(#[.int .i64 b0_0.val,.int .i64 b0_1.val,.int .i64 b0_2.val,.int .i64 b0_3.val,.int .i64 b0_4.val,.int .i64 b0_5.val],2)] #[.slice (some ⟨0,0,none⟩) 6 6,vI a0] (vI (Gi b0_0 b0_1 b0_2 b0_3 b0_4 b0_5 a0)) [(#[.int .i64 b0_0.val,.int .i64 b0_1.val,.int .i64 b0_2.val,.int .i64 b0_3.val,.int .i64 b0_4.val,.int .i64 b0_5.val],2)]:=by
 refine Br.ofH 400 Az mixed Tryz.func100 (by kernel_rfl) (by kernel_rfl) ?_
 unfold Gi
 refine Ac.u 400 Az mixed Tryz.func100 ?_
 refine Ac.z [true,true] ?_
 refine Ac.y (gv:=vI) (fun _=>?_) (fun _=>?_)
 ·exact Ac.x 1
 ·refine Ac.u 400 Az mixed Tryz.func100 ?_
  refine Ac.z [true,true] ?_
  refine Ac.y (gv:=vI) (fun _=>?_) (fun _=>?_)
  ·exact Ac.x 1
  ·refine Ac.u 400 Az mixed Tryz.func100 ?_
   refine Ac.z [true,true] ?_
   refine Ac.y (gv:=vI) (fun _=>?_) (fun _=>?_)
   ·exact Ac.x 1
   ·refine Ac.u 400 Az mixed Tryz.func100 ?_
    refine Ac.z [true,true] ?_
    refine Ac.y (gv:=vI) (fun _=>?_) (fun _=>?_)
    ·exact Ac.x 1
    ·refine Ac.u 400 Az mixed Tryz.func100 ?_
     refine Ac.z [true,true] ?_
     refine Ac.y (gv:=vI) (fun _=>?_) (fun _=>?_)
     ·exact Ac.x 1
     ·refine Ac.u 400 Az mixed Tryz.func100 ?_
      refine Ac.z [true,true] ?_
      refine Ac.y (gv:=vI) (fun _=>?_) (fun _=>?_)
      ·exact Ac.x 1
      ·refine Ac.u 400 Az mixed Tryz.func100 ?_
       refine Ac.z [false] ?_
       exact Ac.x 1
theorem Oj (b0_0 : Aq) (b0_1 : Aq) (b0_2 : Aq) (b0_3 : Aq) (b0_4 : Aq) (b0_5 : Aq) (a0 : Aq) : Br Tryz.prog 36 [(#[.int .i64 b0_0.val,.int .i64 b0_1.val,.int .i64 b0_2.val,.int .i64 b0_3.val,.int .i64 b0_4.val,.int .i64 b0_5.val],2)] #[.slice (some ⟨0,0,none⟩) 6 6,vI a0] (vB (Fi b0_0 b0_1 b0_2 b0_3 b0_4 b0_5 a0)) [(#[.int .i64 b0_0.val,.int .i64 b0_1.val,.int .i64 b0_2.val,.int .i64 b0_3.val,.int .i64 b0_4.val,.int .i64 b0_5.val],2)]:=by
 refine Br.ofH 400 Az mixed Tryz.func36 (by kernel_rfl) (by kernel_rfl) ?_
 unfold Fi
 refine Ac.w (e:=vI) (gv:=vB) [0] (Qc _ _ _ _ _ _ _) fun r1 _=>?_
 exact Ac.x 1
theorem Qd (b0_0 : Aq) (b0_1 : Aq) (b0_2 : Aq) (b0_3 : Aq) (a0 : Aq) : Br Tryz.prog 100 [(#[.int .i64 b0_0.val,.int .i64 b0_1.val,.int .i64 b0_2.val,.int .i64 b0_3.val],2)] #[.slice (some ⟨0,0,none⟩) 4 4,vI a0] (vI (Gj b0_0 b0_1 b0_2 b0_3 a0)) [(#[.int .i64 b0_0.val,.int .i64 b0_1.val,.int .i64 b0_2.val,.int .i64 b0_3.val],2)]:=by
 refine Br.ofH 400 Az mixed Tryz.func100 (by kernel_rfl) (by kernel_rfl) ?_
 unfold Gj
 refine Ac.u 400 Az mixed Tryz.func100 ?_
 refine Ac.z [true,true] ?_
 refine Ac.y (gv:=vI) (fun _=>?_) (fun _=>?_)
 ·exact Ac.x 1
 ·refine Ac.u 400 Az mixed Tryz.func100 ?_
  refine Ac.z [true,true] ?_
  refine Ac.y (gv:=vI) (fun _=>?_) (fun _=>?_)
  ·exact Ac.x 1
  ·refine Ac.u 400 Az mixed Tryz.func100 ?_
   refine Ac.z [true,true] ?_
   refine Ac.y (gv:=vI) (fun _=>?_) (fun _=>?_)
   ·exact Ac.x 1
   ·refine Ac.u 400 Az mixed Tryz.func100 ?_
    refine Ac.z [true,true] ?_
    refine Ac.y (gv:=vI) (fun _=>?_) (fun _=>?_)
    ·exact Ac.x 1
    ·refine Ac.u 400 Az mixed Tryz.func100 ?_
     refine Ac.z [false] ?_
     exact Ac.x 1
theorem Ok (b0_0 : Aq) (b0_1 : Aq) (b0_2 : Aq) (b0_3 : Aq) (a0 : Aq) : Br Tryz.prog 36 [(#[.int .i64 b0_0.val,.int .i64 b0_1.val,.int .i64 b0_2.val,.int .i64 b0_3.val],2)] #[.slice (some ⟨0,0,none⟩) 4 4,vI a0] (vB (Fj b0_0 b0_1 b0_2 b0_3 a0)) [(#[.int .i64 b0_0.val,.int .i64 b0_1.val,.int .i64 b0_2.val,.int .i64 b0_3.val],2)]:=by
 refine Br.ofH 400 Az mixed Tryz.func36 (by kernel_rfl) (by kernel_rfl) ?_
 unfold Fj
 refine Ac.w (e:=vI) (gv:=vB) [0] (Qd _ _ _ _ _) fun r1 _=>?_
 exact Ac.x 1
end Go.Proofs.YtfhnlkinjbakgaaGreat.Abs
