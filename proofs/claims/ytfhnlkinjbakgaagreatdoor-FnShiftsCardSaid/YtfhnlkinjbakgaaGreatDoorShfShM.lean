/- ShiftText and ReadShift as functions of the own machine. -/
import Derived.Test.YtfhnlkinjbakgaaGreatDoorShfSx
import Derived.Test.YtfhnlkinjbakgaaGreatDoorShfMc
namespace Go.Proofs.YtfhnlkinjbakgaaGreatDoor.Abs
open Go Go.RowKit
open Go.Proofs.YtfhnlkinjbakgaaGreatDoor.PFnShifts (words dv okV textOf text_short text_back okV_p dv_range impl_ShiftText_calls readShift_wrong readShift_right)
set_option linter.unusedVariables false
structure Sh where
  b : ByteArray
  short : b.size ≤ 1048576
def vSh (s : Sh) : Value:=.string s.b
theorem Fun.ofBelow {P : Program} {f : FuncId} {fn : Func} {args : Array Value} {v : Value} (hf : P.funcs[f]? = some fn) (hn : (fn.name == "runtime.NumGoroutine") = false) (hb : fn.body.isNone = false) (ha : args.toList.all flat = true) (hv : flat v = true)
    (h : ∀ w,Inv w → Calls P f args w fun e w'=>e = .returned v ∧ Below w.heap.size w w') : Fun P f [] args v []:=by
  refine ⟨⟨fn,hf,hn,hb⟩,fun m args' w hra hH=>?_⟩
  rw [hra.eq_of_flat ha]
  refine (h w hH.inv).mono ?_
  rintro e w' ⟨rfl,hb⟩
  exact ⟨v,[],rfl,VR.refl_of_flat _ hv,by rw [List.append_nil]; exact hH.below hb,by simp,Kept.of_below hb⟩
theorem w64_in {a : Int} (h : -9223372036854775808 ≤ a ∧ a ≤ 9223372036854775807) : (w64 a).val = a:=by
  rw [w64_val]
  omega
theorem w64_self (x : I64) : w64 x.val = x:=IK.eq (w64_in ⟨I64.lo _,I64.hi _⟩)
theorem Inv.lens {w : World} (h : Inv w) : PFnShifts.Lens w:=h.2.2.2
def I_ShiftText (a0 : Sf) : Sh:=⟨textOf a0.tx.val a0.ty.val a0.tz.val a0.rx.val a0.ry.val a0.rz.val a0.sc.val,text_short _ _ _ _ _ _ _⟩
theorem oi_ShiftText (a0 : Sf) : Fun Tryz.prog 12 [] #[vSf a0] (vSh (I_ShiftText a0)) []:=by
  refine Fun.ofBelow Tryz.func12 (by kernel_rfl) (by kernel_rfl) rfl rfl fun w hi=>?_
  exact impl_ShiftText_calls _ _ _ _ _ _ _ ⟨I64.lo _,I64.hi _⟩ ⟨I64.lo _,I64.hi _⟩ ⟨I64.lo _,I64.hi _⟩ ⟨I64.lo _,I64.hi _⟩ ⟨I64.lo _,I64.hi _⟩ ⟨I64.lo _,I64.hi _⟩ ⟨I64.lo _,I64.hi _⟩ w hi.2.1
def shZero : Sf:=⟨c64 0,c64 0,c64 0,c64 0,c64 0,c64 0,c64 0⟩
def I_ReadShift (a0 : Sh) : Sf × Bool:=
  match (words a0.b).map dv with
  | [a0_,a1,a2,a3,a4,a5,a6]=>if okV a0_ a1 a2 a3 a4 a5 a6 = true ∧ (⟨(Lib.join (([a0_,a1,a2,a3,a4,a5,a6] : List Int).map Lib.itoa) [32]).toArray⟩ : ByteArray).toList = a0.b.toList then (⟨w64 a0_,w64 a1,w64 a2,w64 a3,w64 a4,w64 a5,w64 a6⟩,true) else (shZero,false)
  | _=>(shZero,false)
theorem seven {l : List Int} (h : l.length = 7) : ∃ a0 a1 a2 a3 a4 a5 a6,l = [a0,a1,a2,a3,a4,a5,a6]:=by
  match l,h with
  | [a0,a1,a2,a3,a4,a5,a6],_=>exact ⟨a0,a1,a2,a3,a4,a5,a6,rfl⟩
theorem ok_ReadShift (a0 : Sh) : Fun Tryz.prog 11 [] #[vSh a0] (.tuple #[vSf (I_ReadShift a0).1,vB (I_ReadShift a0).2]) []:=by
  refine Fun.ofBelow Tryz.func11 (by kernel_rfl) (by kernel_rfl) rfl rfl fun w hi=>?_
  by_cases h7 : (words a0.b).length = 7
  · obtain ⟨x0,x1,x2,x3,x4,x5,x6,hA⟩:=seven (l:=(words a0.b).map dv) (by rw [List.length_map]; exact h7)
    have hin : ∀ x ∈ (words a0.b).map dv,-9223372036854775808 ≤ x ∧ x ≤ 9223372036854775807:=fun x hx=>by
      obtain ⟨w,_,rfl⟩:=List.mem_map.1 hx
      exact dv_range w
    rw [hA] at hin
    have q0:=hin x0 (by simp)
    have q1:=hin x1 (by simp)
    have q2:=hin x2 (by simp)
    have q3:=hin x3 (by simp)
    have q4:=hin x4 (by simp)
    have q5:=hin x5 (by simp)
    have q6:=hin x6 (by simp)
    unfold I_ReadShift
    rw [hA]
    refine (readShift_right a0.b a0.short w hi.2.1 hi.2.2.1 hi.lens h7 x0 x1 x2 x3 x4 x5 x6 hA q0 q1 q2 q3 q4 q5 q6).mono ?_
    rintro e w' ⟨rfl,hb⟩
    refine ⟨?_,hb⟩
    congr 1
    by_cases c : okV x0 x1 x2 x3 x4 x5 x6 = true ∧ (⟨(Lib.join (([x0,x1,x2,x3,x4,x5,x6] : List Int).map Lib.itoa) [32]).toArray⟩ : ByteArray).toList = a0.b.toList
    · simp only
      rw [if_pos c,if_pos c]
      show _ = Value.tuple #[.agg #[.int .i64 (w64 x0).val,.int .i64 (w64 x1).val,.int .i64 (w64 x2).val,.int .i64 (w64 x3).val,.int .i64 (w64 x4).val,.int .i64 (w64 x5).val,.int .i64 (w64 x6).val],.bool true]
      rw [w64_in q0,w64_in q1,w64_in q2,w64_in q3,w64_in q4,w64_in q5,w64_in q6]
    · simp only
      rw [if_neg c,if_neg c]
      rfl
  · refine (readShift_wrong a0.b a0.short w hi.lens h7).mono ?_
    rintro e w' ⟨rfl,hb⟩
    refine ⟨?_,hb⟩
    have : I_ReadShift a0 = (shZero,false):=by
      unfold I_ReadShift
      split
      · next h=>
        have:=congrArg List.length h
        rw [List.length_map] at this
        exact absurd this h7
      · rfl
    rw [this]
    rfl
theorem Read_back {s : Sf} (h : okV s.tx.val s.ty.val s.tz.val s.rx.val s.ry.val s.rz.val s.sc.val = true) : I_ReadShift (I_ShiftText s) = (s,true):=by
  unfold I_ReadShift I_ShiftText
  simp only
  rw [text_back h]
  simp only
  rw [if_pos ⟨h,by unfold textOf; rw [if_pos h]⟩]
  simp only [w64_self]
end Go.Proofs.YtfhnlkinjbakgaaGreatDoor.Abs
