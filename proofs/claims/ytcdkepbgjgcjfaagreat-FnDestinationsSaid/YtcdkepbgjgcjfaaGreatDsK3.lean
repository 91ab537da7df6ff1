/- The program's functions are these; part 3 (written by w.py). -/
import Derived.Test.YtcdkepbgjgcjfaaGreatDsE
import Derived.Test.YtcdkepbgjgcjfaaGreatDsF3
import Derived.Test.YtcdkepbgjgcjfaaGreatDsQpre
import Derived.Test.YtcdkepbgjgcjfaaGreatDsK1
import Derived.Test.YtcdkepbgjgcjfaaGreatDsK2
set_option linter.unusedVariables false
set_option linter.unusedSimpArgs false
namespace Go.Proofs.YtcdkepbgjgcjfaaGreat.Abs
open Go Go.RowKit

theorem ok_spec_l00Src_pick__src_n (b1 : Src) (a0 : I64) (ps : 0 ≤ b1.ix.val ∧ b1.ix.val + 2 ≤ 1000000000) : FunS Tryz.prog 51 [] [srcB 113 (.slice none 0 0) b1.ix b1.sd] #[.pointer (some ⟨0, 0, none⟩), vI a0] (Drew vI 113 (.slice none 0 0) b1.ix.val (b1.ix.val + 2) (F_spec_l00Src_pick__src Cd.nil b1 a0)) := by
 refine FunS.drew (fun _ _ => rfl) rfl (by kernel_rfl) (FunR.of 400 E_ok mixed Tryz.func51 (by kernel_rfl) ?_)
 show Run _ _ ((RD [] vI 113 (.slice none 0 0) b1.ix.val (b1.ix.val + 2)) (F_spec_l00Src_pick__src Cd.nil b1 a0)) _
 unfold F_spec_l00Src_pick__src
 refine Run.gy (Rg := (RD [] vI 113 (.slice none 0 0) b1.ix.val (b1.ix.val + 2))) (fun h1 => ?_) (fun h1 => ?_)
 ·exact Run.dr (by kernel_rfl) (by kernel_rfl) (by first | omega | (simp only [w64_val, c64_val] at *; omega))
 ·refine Run.cw (e := vI) (Rg := (RD [] vI 113 (.slice none 0 0) b1.ix.val (b1.ix.val + 2))) [] 0 (ok_spec_l00Src_next__src_n _ (by first | omega | (simp only [w64_val, c64_val] at *; omega))) rfl fun r2 hr2 kr2 => ?_
  refine Run.gy (Rg := (RD [] vI 113 (.slice none 0 0) b1.ix.val (b1.ix.val + 2))) (fun h3 => ?_) (fun h3 => ?_)
  ·refine Run.cw (e := vI) (Rg := (RD [] vI 113 (.slice none 0 0) b1.ix.val (b1.ix.val + 2))) [] 0 (ok_spec_l00Src_next__src_n _ (by first | omega | (simp only [w64_val, c64_val] at *; omega))) rfl fun r4 hr4 kr4 => ?_
   refine Run.k (c := (decide (a0.val ≠ 0))) (by kernel_rfl) (by simp only [w64_val, wu64_val, c64_val, cu64_val, decide_eq_true_eq, decide_eq_false_iff_not, cond_true, cond_false] at *; omega) ?_
   exact Run.dr (by kernel_rfl) (by kernel_rfl) (by first | omega | (simp only [w64_val, c64_val] at *; omega))
  ·refine Run.k (c := (decide (a0.val ≠ 0))) (by kernel_rfl) (by simp only [w64_val, wu64_val, c64_val, cu64_val, decide_eq_true_eq, decide_eq_false_iff_not, cond_true, cond_false] at *; omega) ?_
   exact Run.dr (by kernel_rfl) (by kernel_rfl) (by first | omega | (simp only [w64_val, c64_val] at *; omega))

theorem ok_spec_l00Src_one__src_n (b1 : Src) (a0 : I64) (ps : 0 ≤ b1.ix.val ∧ b1.ix.val + 2 ≤ 1000000000) : FunS Tryz.prog 145 [] [srcB 113 (.slice none 0 0) b1.ix b1.sd] #[.pointer (some ⟨0, 0, none⟩), vI a0] (Drew vB 113 (.slice none 0 0) b1.ix.val (b1.ix.val + 2) (F_spec_l00Src_one__src Cd.nil b1 a0)) := by
 refine FunS.drew (fun _ _ => rfl) rfl (by kernel_rfl) (FunR.of 400 E_ok mixed Tryz.func145 (by kernel_rfl) ?_)
 show Run _ _ ((RD [] vB 113 (.slice none 0 0) b1.ix.val (b1.ix.val + 2)) (F_spec_l00Src_one__src Cd.nil b1 a0)) _
 unfold F_spec_l00Src_one__src
 refine Run.cw (e := vI) (Rg := (RD [] vB 113 (.slice none 0 0) b1.ix.val (b1.ix.val + 2))) [] 0 (ok_spec_l00Src_pick__src_n _ _ (by first | omega | (simp only [w64_val, c64_val] at *; omega))) rfl fun r1 hr1 kr1 => ?_
 exact Run.dr (by kernel_rfl) (by kernel_rfl) (by first | omega | (simp only [w64_val, c64_val] at *; omega))

theorem ok_spec_l00Src_among__src__s4_n (b1_0 : I64) (b1_1 : I64) (b1_2 : I64) (b1_3 : I64) (b2 : Src) (ps : 0 ≤ b2.ix.val ∧ b2.ix.val + 2 ≤ 1000000000) : FunS Tryz.prog 151 [(#[.int .i64 b1_0.val, .int .i64 b1_1.val, .int .i64 b1_2.val, .int .i64 b1_3.val], 2)] [srcB 113 (.slice none 0 0) b2.ix b2.sd] #[.pointer (some ⟨1, 0, none⟩), .slice (some ⟨0, 0, none⟩) 4 4] (Drew vI 113 (.slice none 0 0) b2.ix.val (b2.ix.val + 2) (F_spec_l00Src_among__src__s4 Cd.nil b1_0 b1_1 b1_2 b1_3 b2)) := by
 refine FunS.marks (args := #[.pointer (some ⟨1, 0, none⟩), .slice (some ⟨0, 0, some 0⟩) 4 4]) (by kernel_rfl) ?_
 refine FunS.drew (fun _ _ => rfl) (allc (by kernel_rfl) rfl) (by kernel_rfl) (FunR.of 400 E_ok mixed Tryz.func151 (by kernel_rfl) ?_)
 show Run _ _ ((RD [(#[.int .i64 b1_0.val, .int .i64 b1_1.val, .int .i64 b1_2.val, .int .i64 b1_3.val], 2)] vI 113 (.slice none 0 0) b2.ix.val (b2.ix.val + 2)) (F_spec_l00Src_among__src__s4 Cd.nil b1_0 b1_1 b1_2 b1_3 b2)) _
 unfold F_spec_l00Src_among__src__s4
 refine Run.cw (e := vI) (Rg := (RD [(#[.int .i64 b1_0.val, .int .i64 b1_1.val, .int .i64 b1_2.val, .int .i64 b1_3.val], 2)] vI 113 (.slice none 0 0) b2.ix.val (b2.ix.val + 2))) [] 1 (ok_spec_l00Src_pick__src_n _ _ (by first | omega | (simp only [w64_val, c64_val] at *; omega))) rfl fun r1 hr1 kr1 => ?_
 refine Run.k (c := (decide (0 ≤ r1.1.val ∧ r1.1.val < 4))) (by kernel_rfl) (by rw [hr1]; first | exact decide_eq_true ⟨(pick_range _ _ _).1, (pick_range _ _ _).2 (by decide)⟩ | exact ⟨(pick_range _ _ _).1, (pick_range _ _ _).2 (by decide)⟩) ?_
 refine Run.ld (by kernel_rfl) (listAt_ok (L := [b1_0, b1_1, b1_2, b1_3]) (pad := []) (i := r1.1) (by rw [hr1]; first | exact decide_eq_true ⟨(pick_range _ _ _).1, (pick_range _ _ _).2 (by decide)⟩ | exact ⟨(pick_range _ _ _).1, (pick_range _ _ _).2 (by decide)⟩)) ?_
 exact Run.dr (by kernel_rfl) (by kernel_rfl) (by first | omega | (simp only [w64_val, c64_val] at *; omega))

theorem ok_spec_l05Number__src_n (b1 : Src) (a0 : I64) (p0 : 0 ≤ a0.val) (p1 : a0.val < 9223372036854775807) (ps : 0 ≤ b1.ix.val ∧ b1.ix.val + 13 ≤ 1000000000) : FunS Tryz.prog 150 [] [srcB 113 (.slice none 0 0) b1.ix b1.sd] #[.pointer (some ⟨0, 0, none⟩), vI a0] (Drew vI 113 (.slice none 0 0) b1.ix.val (b1.ix.val + 13) (F_spec_l05Number__src Cd.nil b1 a0)) := by
 refine FunS.drew (fun _ _ => rfl) rfl (by kernel_rfl) (FunR.of 400 E_ok mixed Tryz.func150 (by kernel_rfl) ?_)
 show Run _ _ ((RD [] vI 113 (.slice none 0 0) b1.ix.val (b1.ix.val + 13)) (F_spec_l05Number__src Cd.nil b1 a0)) _
 unfold F_spec_l05Number__src
 refine Run.u 400 E_ok mixed Tryz.func150 ?_
 refine Run.z [true, true] ?_
 refine Run.cw (e := vI) (Rg := (RD [] vI 113 (.slice none 0 0) b1.ix.val (b1.ix.val + 13))) [] 0 (ok_spec_l00Src_next__src_n _ (by first | omega | (simp only [w64_val, c64_val] at *; omega))) rfl fun r1 hr1 kr1 => ?_
 refine Run.u 400 E_ok mixed Tryz.func150 ?_
 refine Run.z [true, true] ?_
 refine Run.cw (e := vI) (Rg := (RD [] vI 113 (.slice none 0 0) b1.ix.val (b1.ix.val + 13))) [] 0 (ok_spec_l00Src_next__src_n _ (by first | omega | (simp only [w64_val, c64_val] at *; omega))) rfl fun r2 hr2 kr2 => ?_
 refine Run.u 400 E_ok mixed Tryz.func150 ?_
 refine Run.z [true, true] ?_
 refine Run.cw (e := vI) (Rg := (RD [] vI 113 (.slice none 0 0) b1.ix.val (b1.ix.val + 13))) [] 0 (ok_spec_l00Src_next__src_n _ (by first | omega | (simp only [w64_val, c64_val] at *; omega))) rfl fun r3 hr3 kr3 => ?_
 refine Run.u 400 E_ok mixed Tryz.func150 ?_
 refine Run.z [true, true] ?_
 refine Run.cw (e := vI) (Rg := (RD [] vI 113 (.slice none 0 0) b1.ix.val (b1.ix.val + 13))) [] 0 (ok_spec_l00Src_next__src_n _ (by first | omega | (simp only [w64_val, c64_val] at *; omega))) rfl fun r4 hr4 kr4 => ?_
 refine Run.u 400 E_ok mixed Tryz.func150 ?_
 refine Run.z [true, true] ?_
 refine Run.cw (e := vI) (Rg := (RD [] vI 113 (.slice none 0 0) b1.ix.val (b1.ix.val + 13))) [] 0 (ok_spec_l00Src_next__src_n _ (by first | omega | (simp only [w64_val, c64_val] at *; omega))) rfl fun r5 hr5 kr5 => ?_
 refine Run.u 400 E_ok mixed Tryz.func150 ?_
 refine Run.z [true, true] ?_
 refine Run.cw (e := vI) (Rg := (RD [] vI 113 (.slice none 0 0) b1.ix.val (b1.ix.val + 13))) [] 0 (ok_spec_l00Src_next__src_n _ (by first | omega | (simp only [w64_val, c64_val] at *; omega))) rfl fun r6 hr6 kr6 => ?_
 refine Run.u 400 E_ok mixed Tryz.func150 ?_
 refine Run.z [true, true] ?_
 refine Run.cw (e := vI) (Rg := (RD [] vI 113 (.slice none 0 0) b1.ix.val (b1.ix.val + 13))) [] 0 (ok_spec_l00Src_next__src_n _ (by first | omega | (simp only [w64_val, c64_val] at *; omega))) rfl fun r7 hr7 kr7 => ?_
 refine Run.u 400 E_ok mixed Tryz.func150 ?_
 refine Run.z [false] ?_
 refine Run.k (c := (decide ((w64 (a0.val + 1)).val ≠ 0))) (by kernel_rfl) (by simp only [w64_val, wu64_val, c64_val, cu64_val, decide_eq_true_eq, decide_eq_false_iff_not, cond_true, cond_false] at *; omega) ?_
 refine Run.cw (e := vI) (Rg := (RD [] vI 113 (.slice none 0 0) b1.ix.val (b1.ix.val + 13))) [] 0 (ok_spec_l00Src_pick__src_n _ _ (by first | omega | (simp only [w64_val, c64_val] at *; omega))) rfl fun r8 hr8 kr8 => ?_
 refine Run.gy (Rg := (RD [] vI 113 (.slice none 0 0) b1.ix.val (b1.ix.val + 13))) (fun h9 => ?_) (fun h9 => ?_)
 ·refine Run.cw (e := vI) (Rg := (RD [] vI 113 (.slice none 0 0) b1.ix.val (b1.ix.val + 13))) [] 0 (ok_spec_l00Src_pick__src_n _ _ (by first | omega | (simp only [w64_val, c64_val] at *; omega))) rfl fun r10 hr10 kr10 => ?_
  refine Run.k (c := (decide (0 ≤ (wu64 r10.1.val).val))) (by kernel_rfl) (by simp only [w64_val, wu64_val, c64_val, cu64_val, decide_eq_true_eq, decide_eq_false_iff_not, cond_true, cond_false] at *; omega) ?_
  refine Run.cw (e := vB) (Rg := (RD [] vI 113 (.slice none 0 0) b1.ix.val (b1.ix.val + 13))) [] 0 (ok_spec_l00Src_one__src_n _ _ (by first | omega | (simp only [w64_val, c64_val] at *; omega))) rfl fun r11 hr11 kr11 => ?_
  refine Run.gy (Rg := (RD [] vI 113 (.slice none 0 0) b1.ix.val (b1.ix.val + 13))) (fun h12 => ?_) (fun h12 => ?_)
  ·exact Run.dr (by kernel_rfl) (by kernel_rfl) (by first | omega | (simp only [w64_val, c64_val] at *; omega))
  ·exact Run.dr (by kernel_rfl) (by kernel_rfl) (by first | omega | (simp only [w64_val, c64_val] at *; omega))
 ·refine Run.gy (Rg := (RD [] vI 113 (.slice none 0 0) b1.ix.val (b1.ix.val + 13))) (fun h13 => ?_) (fun h13 => ?_)
  ·refine Run.z [true] ?_
   refine Run.cw (e := vI) (Rg := (RD [] vI 113 (.slice none 0 0) b1.ix.val (b1.ix.val + 13))) [1] 0 (ok_spec_l00Src_among__src__s4_n _ _ _ _ _ (by first | omega | (simp only [w64_val, c64_val] at *; omega))) (allc (by kernel_rfl) rfl) fun r14 hr14 kr14 => ?_
   refine Run.cw (e := vB) (Rg := (RD [] vI 113 (.slice none 0 0) b1.ix.val (b1.ix.val + 13))) [] 0 (ok_spec_l00Src_one__src_n _ _ (by first | omega | (simp only [w64_val, c64_val] at *; omega))) rfl fun r15 hr15 kr15 => ?_
   refine Run.gy (Rg := (RD [] vI 113 (.slice none 0 0) b1.ix.val (b1.ix.val + 13))) (fun h16 => ?_) (fun h16 => ?_)
   ·exact Run.dr (by kernel_rfl) (by kernel_rfl) (by first | omega | (simp only [w64_val, c64_val] at *; omega))
   ·exact Run.dr (by kernel_rfl) (by kernel_rfl) (by first | omega | (simp only [w64_val, c64_val] at *; omega))
  ·refine Run.cw (e := vB) (Rg := (RD [] vI 113 (.slice none 0 0) b1.ix.val (b1.ix.val + 13))) [] 0 (ok_spec_l00Src_one__src_n _ _ (by first | omega | (simp only [w64_val, c64_val] at *; omega))) rfl fun r17 hr17 kr17 => ?_
   refine Run.gy (Rg := (RD [] vI 113 (.slice none 0 0) b1.ix.val (b1.ix.val + 13))) (fun h18 => ?_) (fun h18 => ?_)
   ·exact Run.dr (by kernel_rfl) (by kernel_rfl) (by first | omega | (simp only [w64_val, c64_val] at *; omega))
   ·exact Run.dr (by kernel_rfl) (by kernel_rfl) (by first | omega | (simp only [w64_val, c64_val] at *; omega))

theorem ok_spec_l00Src_among__src__s5_n (b1_0 : I64) (b1_1 : I64) (b1_2 : I64) (b1_3 : I64) (b1_4 : I64) (b2 : Src) (ps : 0 ≤ b2.ix.val ∧ b2.ix.val + 2 ≤ 1000000000) : FunS Tryz.prog 151 [(#[.int .i64 b1_0.val, .int .i64 b1_1.val, .int .i64 b1_2.val, .int .i64 b1_3.val, .int .i64 b1_4.val], 2)] [srcB 113 (.slice none 0 0) b2.ix b2.sd] #[.pointer (some ⟨1, 0, none⟩), .slice (some ⟨0, 0, none⟩) 5 5] (Drew vI 113 (.slice none 0 0) b2.ix.val (b2.ix.val + 2) (F_spec_l00Src_among__src__s5 Cd.nil b1_0 b1_1 b1_2 b1_3 b1_4 b2)) := by
 refine FunS.marks (args := #[.pointer (some ⟨1, 0, none⟩), .slice (some ⟨0, 0, some 0⟩) 5 5]) (by kernel_rfl) ?_
 refine FunS.drew (fun _ _ => rfl) (allc (by kernel_rfl) rfl) (by kernel_rfl) (FunR.of 400 E_ok mixed Tryz.func151 (by kernel_rfl) ?_)
 show Run _ _ ((RD [(#[.int .i64 b1_0.val, .int .i64 b1_1.val, .int .i64 b1_2.val, .int .i64 b1_3.val, .int .i64 b1_4.val], 2)] vI 113 (.slice none 0 0) b2.ix.val (b2.ix.val + 2)) (F_spec_l00Src_among__src__s5 Cd.nil b1_0 b1_1 b1_2 b1_3 b1_4 b2)) _
 unfold F_spec_l00Src_among__src__s5
 refine Run.cw (e := vI) (Rg := (RD [(#[.int .i64 b1_0.val, .int .i64 b1_1.val, .int .i64 b1_2.val, .int .i64 b1_3.val, .int .i64 b1_4.val], 2)] vI 113 (.slice none 0 0) b2.ix.val (b2.ix.val + 2))) [] 1 (ok_spec_l00Src_pick__src_n _ _ (by first | omega | (simp only [w64_val, c64_val] at *; omega))) rfl fun r1 hr1 kr1 => ?_
 refine Run.k (c := (decide (0 ≤ r1.1.val ∧ r1.1.val < 5))) (by kernel_rfl) (by rw [hr1]; first | exact decide_eq_true ⟨(pick_range _ _ _).1, (pick_range _ _ _).2 (by decide)⟩ | exact ⟨(pick_range _ _ _).1, (pick_range _ _ _).2 (by decide)⟩) ?_
 refine Run.ld (by kernel_rfl) (listAt_ok (L := [b1_0, b1_1, b1_2, b1_3, b1_4]) (pad := []) (i := r1.1) (by rw [hr1]; first | exact decide_eq_true ⟨(pick_range _ _ _).1, (pick_range _ _ _).2 (by decide)⟩ | exact ⟨(pick_range _ _ _).1, (pick_range _ _ _).2 (by decide)⟩)) ?_
 exact Run.dr (by kernel_rfl) (by kernel_rfl) (by first | omega | (simp only [w64_val, c64_val] at *; omega))

theorem ok_spec_l11Draw__src_n (b1 : Src) (ps : 0 ≤ b1.ix.val ∧ b1.ix.val + 30 ≤ 1000000000) : FunS Tryz.prog 55 [] [srcB 113 (.slice none 0 0) b1.ix b1.sd] #[.pointer (some ⟨0, 0, none⟩)] (Drew vPt 113 (.slice none 0 0) b1.ix.val (b1.ix.val + 30) (F_spec_l11Draw__src Cd.nil b1)) := by
 refine FunS.drew (fun _ _ => rfl) rfl (by kernel_rfl) (FunR.of 400 E_ok mixed Tryz.func55 (by kernel_rfl) ?_)
 show Run _ _ ((RD [] vPt 113 (.slice none 0 0) b1.ix.val (b1.ix.val + 30)) (F_spec_l11Draw__src Cd.nil b1)) _
 unfold F_spec_l11Draw__src
 refine Run.cw (e := vI) (Rg := (RD [] vPt 113 (.slice none 0 0) b1.ix.val (b1.ix.val + 30))) [] 0 (ok_spec_l05Number__src_n _ _ (by simp only [w64_val, wu64_val, c64_val, cu64_val, decide_eq_true_eq, decide_eq_false_iff_not, cond_true, cond_false] at *; omega) (by simp only [w64_val, wu64_val, c64_val, cu64_val, decide_eq_true_eq, decide_eq_false_iff_not, cond_true, cond_false] at *; omega) (by first | omega | (simp only [w64_val, c64_val] at *; omega))) rfl fun r1 hr1 kr1 => ?_
 refine Run.cw (e := vI) (Rg := (RD [] vPt 113 (.slice none 0 0) b1.ix.val (b1.ix.val + 30))) [] 0 (ok_spec_l05Number__src_n _ _ (by simp only [w64_val, wu64_val, c64_val, cu64_val, decide_eq_true_eq, decide_eq_false_iff_not, cond_true, cond_false] at *; omega) (by simp only [w64_val, wu64_val, c64_val, cu64_val, decide_eq_true_eq, decide_eq_false_iff_not, cond_true, cond_false] at *; omega) (by first | omega | (simp only [w64_val, c64_val] at *; omega))) rfl fun r2 hr2 kr2 => ?_
 refine Run.gq (Rg := (RD [] vPt 113 (.slice none 0 0) b1.ix.val (b1.ix.val + 30))) (e := vI) (ok_spec_l11Wrap _) fun r3 hr3 => ?_
 refine Run.cw (e := vI) (Rg := (RD [] vPt 113 (.slice none 0 0) b1.ix.val (b1.ix.val + 30))) [] 0 (ok_spec_l00Src_pick__src_n _ _ (by first | omega | (simp only [w64_val, c64_val] at *; omega))) rfl fun r4 hr4 kr4 => ?_
 refine Run.gy (Rg := (RD [] vPt 113 (.slice none 0 0) b1.ix.val (b1.ix.val + 30))) (fun h5 => ?_) (fun h5 => ?_)
 ·refine Run.cw (e := vI) (Rg := (RD [] vPt 113 (.slice none 0 0) b1.ix.val (b1.ix.val + 30))) [3] 0 (ok_spec_l00Src_among__src__s4_n _ _ _ _ _ (by first | omega | (simp only [w64_val, c64_val] at *; omega))) (allc (by kernel_rfl) rfl) fun r6 hr6 kr6 => ?_
  exact Run.dr (by kernel_rfl) (by kernel_rfl) (by first | omega | (simp only [w64_val, c64_val] at *; omega))
 ·refine Run.gy (Rg := (RD [] vPt 113 (.slice none 0 0) b1.ix.val (b1.ix.val + 30))) (fun h7 => ?_) (fun h7 => ?_)
  ·refine Run.cw (e := vI) (Rg := (RD [] vPt 113 (.slice none 0 0) b1.ix.val (b1.ix.val + 30))) [3] 0 (ok_spec_l00Src_among__src__s5_n _ _ _ _ _ _ (by first | omega | (simp only [w64_val, c64_val] at *; omega))) (allc (by kernel_rfl) rfl) fun r8 hr8 kr8 => ?_
   exact Run.dr (by kernel_rfl) (by kernel_rfl) (by first | omega | (simp only [w64_val, c64_val] at *; omega))
  ·exact Run.dr (by kernel_rfl) (by kernel_rfl) (by first | omega | (simp only [w64_val, c64_val] at *; omega))

theorem ok_spec_E8Points_n : Fun Tryz.prog 34 [] #[.slice none 0 0] (vT_Pt_Pt_Pt (F_spec_E8Points Cd.nil)) [] := by
 refine Fun.ofH 400 E_ok mixed Tryz.func34 (by kernel_rfl) (by kernel_rfl) ?_
 unfold F_spec_E8Points
 refine Run.cf [] ok_spec_l00From_n rfl ?_
 refine Run.cw (e := vPt) (Rg := (fun b => RvH [] (vT_Pt_Pt_Pt b))) [] 3 (ok_spec_l11Draw__src_n _ (by first | omega | (simp only [w64_val, c64_val] at *; omega))) rfl fun r1 hr1 kr1 => ?_
 refine Run.cw (e := vPt) (Rg := (fun b => RvH [] (vT_Pt_Pt_Pt b))) [] 3 (ok_spec_l11Draw__src_n _ (by first | omega | (simp only [w64_val, c64_val] at *; omega))) rfl fun r2 hr2 kr2 => ?_
 refine Run.cw (e := vPt) (Rg := (fun b => RvH [] (vT_Pt_Pt_Pt b))) [] 3 (ok_spec_l11Draw__src_n _ (by first | omega | (simp only [w64_val, c64_val] at *; omega))) rfl fun r3 hr3 kr3 => ?_
 refine Run.cw (e := vI) (Rg := (fun b => RvH [] (vT_Pt_Pt_Pt b))) [] 3 (ok_spec_l00Src_pick__src_n _ _ (by first | omega | (simp only [w64_val, c64_val] at *; omega))) rfl fun r4 hr4 kr4 => ?_
 refine Run.y (gv := vT_Pt_Pt_Pt) (fun h5 => ?_) (fun h5 => ?_)
 ·refine Run.o (by kernel_rfl) ?_ ?_
  ·refine Run.o (by kernel_rfl) ?_ ?_
   ·refine Run.cw (e := vI) (Rg := (fun b => RvH [] (vT_Pt_Pt_Pt b))) [] 3 (ok_spec_l00Src_pick__src_n _ _ (by first | omega | (simp only [w64_val, c64_val] at *; omega))) rfl fun r6 hr6 kr6 => ?_
    refine Run.q (e := vI) (gv := vT_Pt_Pt_Pt) (ok_spec_l11Wrap _) fun r7 hr7 => ?_
    exact Run.x 0
   ·refine Run.cw (e := vI) (Rg := (fun b => RvH [] (vT_Pt_Pt_Pt b))) [] 3 (ok_spec_l00Src_pick__src_n _ _ (by first | omega | (simp only [w64_val, c64_val] at *; omega))) rfl fun r8 hr8 kr8 => ?_
    refine Run.q (e := vI) (gv := vT_Pt_Pt_Pt) (ok_spec_l11Wrap _) fun r9 hr9 => ?_
    exact Run.x 0
  refine Run.o (by kernel_rfl) ?_ ?_
  ·refine Run.o (by kernel_rfl) ?_ ?_
   ·refine Run.cw (e := vI) (Rg := (fun b => RvH [] (vT_Pt_Pt_Pt b))) [] 3 (ok_spec_l00Src_pick__src_n _ _ (by first | omega | (simp only [w64_val, c64_val] at *; omega))) rfl fun r10 hr10 kr10 => ?_
    refine Run.q (e := vI) (gv := vT_Pt_Pt_Pt) (ok_spec_l11Wrap _) fun r11 hr11 => ?_
    exact Run.x 0
   ·refine Run.cw (e := vI) (Rg := (fun b => RvH [] (vT_Pt_Pt_Pt b))) [] 3 (ok_spec_l00Src_pick__src_n _ _ (by first | omega | (simp only [w64_val, c64_val] at *; omega))) rfl fun r12 hr12 kr12 => ?_
    refine Run.o (by kernel_rfl) ?_ ?_
    ·refine Run.q (e := vI) (gv := vT_Pt_Pt_Pt) (ok_spec_l11Wrap _) fun r13 hr13 => ?_
     exact Run.x 0
    ·refine Run.q (e := vI) (gv := vT_Pt_Pt_Pt) (ok_spec_l11Wrap _) fun r14 hr14 => ?_
     exact Run.x 0
  ·refine Run.cw (e := vI) (Rg := (fun b => RvH [] (vT_Pt_Pt_Pt b))) [] 3 (ok_spec_l00Src_pick__src_n _ _ (by first | omega | (simp only [w64_val, c64_val] at *; omega))) rfl fun r15 hr15 kr15 => ?_
   refine Run.o (by kernel_rfl) ?_ ?_
   ·refine Run.q (e := vI) (gv := vT_Pt_Pt_Pt) (ok_spec_l11Wrap _) fun r16 hr16 => ?_
    exact Run.x 0
   ·refine Run.o (by kernel_rfl) ?_ ?_
    ·refine Run.q (e := vI) (gv := vT_Pt_Pt_Pt) (ok_spec_l11Wrap _) fun r17 hr17 => ?_
     exact Run.x 0
    ·refine Run.q (e := vI) (gv := vT_Pt_Pt_Pt) (ok_spec_l11Wrap _) fun r18 hr18 => ?_
     exact Run.x 0
 ·refine Run.y (gv := vT_Pt_Pt_Pt) (fun h19 => ?_) (fun h19 => ?_)
  ·exact Run.x 0
  ·refine Run.y (gv := vT_Pt_Pt_Pt) (fun h20 => ?_) (fun h20 => ?_)
   ·exact Run.x 0
   ·exact Run.x 0

end Go.Proofs.YtcdkepbgjgcjfaaGreat.Abs
