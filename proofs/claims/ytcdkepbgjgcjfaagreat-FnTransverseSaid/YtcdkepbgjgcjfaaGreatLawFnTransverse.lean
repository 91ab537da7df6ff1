/- The row of the law FnTransverse: the contract of its function, and the plain law. (written by lawrow.py) -/
import Derived.Test.YtcdkepbgjgcjfaaGreatRows
import Derived.Test.YtcdkepbgjgcjfaaGreatTsAbsB
import Derived.Test.YtcdkepbgjgcjfaaGreatTsWhole
import Derived.Test.YtcdkepbgjgcjfaaGreatTsK0
import Derived.Test.YtcdkepbgjgcjfaaGreatTsK1
import Derived.Test.YtcdkepbgjgcjfaaGreatTsK2
import Derived.Test.YtcdkepbgjgcjfaaGreatTsK3
import Derived.Test.YtcdkepbgjgcjfaaGreatTsK4
import Derived.Test.YtcdkepbgjgcjfaaGreatTsK5
import Derived.Test.YtcdkepbgjgcjfaaGreatTsK6
import Derived.Test.YtcdkepbgjgcjfaaGreatTsK7
import Derived.Test.YtcdkepbgjgcjfaaGreatTsQzsztzu
namespace Go.Proofs.YtcdkepbgjgcjfaaGreat.fnTransverse
open Go.ChangeShapes Go.WideShapes Go.ChangeAt Go.RowKit
open Go.Proofs.YtcdkepbgjgcjfaaGreat.Abs
set_option linter.unusedVariables false
theorem own : ownKnob Tryz.prog.godebug = none:=by kernel_rfl
theorem laidOut : laidOutB Tryz.prog = true:=whole1
set_option maxRecDepth 100000 in
theorem lifted (os : Os) (started : os.Started) (H : Type) (enc : TypeId × Value → H) :
    ReturnsInHanded {} Tryz.checked os 6 .any (Rows.fnTransverseSpec.pre6 enc Tryz.prog Tryz.f6 Rows.fnTransverseRow.domain false) (Rows.fnTransverseSpec.post enc Tryz.prog Tryz.f6 false true false false):=by
  refine returnsInHanded_of_change_sized (C:=Tryz.checked) own started (by kernel_rfl) Tryz.func6
    (ChangeSpec.witness6 (enc:=enc) (C:=Tryz.checked) false ⟨#[],#[.slice none 0 0,.slice none 0 0],[]⟩ 8 (by kernel_rfl) (by kernel_rfl) (by kernel_rfl) (by kernel_rfl)) ?_
  intro W base args ds gs before hval0 hW hcnd hsz0 _
  have hval : ∀ (j : Nat) t v,Tryz.f6.params[j]? = some t → args[j]? = some v → Value.okWide Tryz.prog W .any base t v:=hval0
  have hW':=hW
  obtain ⟨p,q,hA0,hV,rfl,hfz,hnd⟩:=hW
  have hA : DataW.TrodAll enc Tryz.prog W 0 (fun _=>true) true Tryz.f6.params.toList args.toList ds p:=hA0
  rw [Tryz.params6] at hA hval
  obtain ⟨v0,vs0,d0,ds0,p0,q0,hargs,rfl,rfl,h0,r0⟩:=trodAll_cons hA
  obtain ⟨v1,vs1,d1,ds1,p1,q1,rfl,rfl,rfl,h1,r1⟩:=trodAll_cons r0
  obtain ⟨rfl,rfl,rfl⟩:=trodAll_nil r1
  obtain rfl : args = #[v0,v1]:=by cases args; simp_all
  obtain ⟨rfl,rfl⟩:=trodVars_none hV
  have lt0 : ∀ x ∈ p0,x.block < W.heap.size:=by obtain ⟨m,hm⟩:=h0; exact DataW.trod_lt m _ _ _ hm
  have b0:=open_bytes Tryz.underlying22 Tryz.underlying5 (by kernel_rfl) (hval 0 22 v0 rfl rfl) h0
  have lt1 : ∀ x ∈ p1,x.block < W.heap.size:=by obtain ⟨m,hm⟩:=h1; exact DataW.trod_lt m _ _ _ hm
  have b1:=open_bytes Tryz.underlying22 Tryz.underlying5 (by kernel_rfl) (hval 1 22 v1 rfl rfl) h1
  have hc:=bytes2 (P:=Tryz.prog) (f:=6) (r:=vB true) rfl b0 b1 (fun C D=>by have h:=ol_FnTransverse C D; rw [pure_FnTransverse C D] at h; exact h) (fun C=>by have h:=ol_FnTransverse_ln C; rw [pure_FnTransverse C Cd.nil] at h; exact h) (fun C=>by have h:=ol_FnTransverse_nl C; rw [pure_FnTransverse Cd.nil C] at h; exact h) (by have h:=ol_FnTransverse_nn; rw [pure_FnTransverse Cd.nil Cd.nil] at h; exact h) (fun C V=>by have h:=ol_FnTransverse_lv C V; rw [pure_FnTransverse C (C.vw V)] at h; exact h)
  refine hc.mono fun e W' ⟨he,bel⟩=>?_
  subst he
  exact ⟨_,rfl,_,_,_,[],_,[],hW',trodAll_mk1 (shut_bool Tryz.underlying4 _),(trodAll_cons_mk (Below.trod laidOut (by kernel_rfl) (of_decide_eq_true (by kernel_rfl)) h0 bel lt0) (trodAll_cons_mk (Below.trod laidOut (by kernel_rfl) (of_decide_eq_true (by kernel_rfl)) h1 bel lt1) trodAll_mk0)),rfl,bel.frame _,fun h=>by cases h⟩
theorem j0 : (Rows.fnTransverseRow.wf (OpenSpec.ofChange Rows.fnTransverseSpec)) = true:=by kernel_rfl
theorem j1 : (laidOutB Tryz.prog) = true:=whole1
theorem j2 : (mapsRowed Tryz.prog) = true:=whole2
theorem j3 : (Tryz.f6.params.all (Tryz.prog.readableRec ·)) = true:=by kernel_rfl
theorem j4 : (namedTie Tryz.prog Rows.fnTransverseRow.named Rows.fnTransverseSpec.vars) = true:=by kernel_rfl
theorem j5 : (Rows.fnTransverseRow.stops == []) = true:=by kernel_rfl
theorem j6 : (Tryz.prog.stops == []) = true:=whole6
theorem j7 : (Rows.fnTransverseRow.knobs == []) = true:=by kernel_rfl
theorem j8 : (Tryz.prog.stopKnobs == []) = true:=whole8
theorem j9 : (Rows.fnTransverseRow.inPlace == Tryz.prog.inPlace 6) = true:=by kernel_rfl
theorem j10 : (Rows.fnTransverseRow.unfollowed == Tryz.prog.unfollowed 6) = true:=by kernel_rfl
theorem j11 : (Rows.fnTransverseRow.recurses == Tryz.prog.recurses 6) = true:=by kernel_rfl
theorem j12 : (Rows.fnTransverseRow.named == Tryz.prog.varsNamed 6) = true:=by kernel_rfl
theorem j13 : (Rows.fnTransverseRow.maps == (Tryz.f6.params.toList ++ Rows.fnTransverseSpec.plain.varTypes Tryz.prog).any (Tryz.prog.mapsRec ·)) = true:=by kernel_rfl
theorem j14 : (Rows.fnTransverseRow.ifaces == (Tryz.f6.params.toList ++ Rows.fnTransverseSpec.plain.varTypes Tryz.prog).any (Tryz.prog.ifacesRec ·)) = true:=by kernel_rfl
theorem j15 : (Rows.fnTransverseRow.mapsOut == Tryz.prog.mapsAmong Tryz.f6.resultTypes.toList) = true:=by kernel_rfl
theorem j16 : (Rows.fnTransverseRow.loops == (Tryz.f6.params.toList ++ Rows.fnTransverseSpec.plain.varTypes Tryz.prog).any (Tryz.prog.loopsFrom ·)) = true:=by kernel_rfl
theorem j17 : (Rows.fnTransverseRow.wideKeys == (Tryz.f6.params.toList ++ Rows.fnTransverseSpec.plain.varTypes Tryz.prog ++ Tryz.f6.resultTypes.toList).any (Tryz.prog.wideKeysFrom ·)) = true:=by kernel_rfl
theorem j18 : (Rows.fnTransverseSpec.vars.all (Tryz.prog.varReadable ·)) = true:=by kernel_rfl
theorem j19 : (Tryz.f6.resultTypes.all (fun t=>Tryz.prog.readableRec t && decide (t < Tryz.prog.types.size))) = true:=by kernel_rfl
theorem j20 : (Rows.fnTransverseRow.ifacesOut == Tryz.f6.resultTypes.toList.any (Tryz.prog.ifacesRec ·)) = true:=by kernel_rfl
theorem j21 : (Rows.fnTransverseRow.loopsOut == Tryz.f6.resultTypes.toList.any (Tryz.prog.loopsFrom ·)) = true:=by kernel_rfl
theorem j22 : (Rows.fnTransverseRow.plainKeys == Tryz.prog.plainKeys) = true:=whole22
theorem j23 : (Rows.fnTransverseRow.shortTexts.isNone) = true:=by kernel_rfl
theorem j24 : (Tryz.prog.stopsHeard) = true:=whole24
theorem j25 : (Tryz.prog.mayEnter) = true:=whole25
theorem j26 : (Rows.fnTransverseRow.lifted == Tryz.prog.liftsFinal) = true:=whole26
theorem j27 : (Tryz.prog.make == some Rows.fnTransverseRow.make) = true:=whole27
theorem j28 : (Rows.fnTransverseRow.kinds == (if Rows.fnTransverseRow.domain.isEmpty then [] else Tryz.f6.params.toList.map fun t=>match Tryz.prog.underlying t with | some (.int k)=>some k | _=>none)) = true:=by kernel_rfl
theorem j29 : (Rows.fnTransverseRow.pinned == Rows.fnTransverseRow.pinnedBy) = true:=by kernel_rfl
theorem j30 : (Rows.fnTransverseRow.veiled == (Tryz.f6.params.toList ++ Rows.fnTransverseSpec.plain.varTypes Tryz.prog ++ Tryz.f6.resultTypes.toList).any (Tryz.prog.veiledRec ·)) = true:=by kernel_rfl
theorem j31 : (Rows.fnTransverseRow.veiledFits Tryz.prog Tryz.f6.params.toList (Tryz.f6.params.toList ++ Rows.fnTransverseSpec.plain.varTypes Tryz.prog ++ Tryz.f6.resultTypes.toList)) = true:=by kernel_rfl
set_option maxRecDepth 100000 in
theorem closed : joinedFacts Tryz.prog 6 Tryz.f6 Rows.fnTransverseSpec Rows.fnTransverseRow = true:=and_mk (and_mk (and_mk (and_mk (and_mk (and_mk (and_mk (and_mk (and_mk (and_mk (and_mk (and_mk (and_mk (and_mk (and_mk (and_mk (and_mk (and_mk (and_mk (and_mk (and_mk (and_mk (and_mk (and_mk (and_mk (and_mk (and_mk (and_mk (and_mk (and_mk (and_mk (j0) j1) j2) j3) j4) j5) j6) j7) j8) j9) j10) j11) j12) j13) j14) j15) j16) j17) j18) j19) j20) j21) j22) j23) j24) j25) j26) j27) j28) j29) j30) j31
theorem over : Rows.fnTransverseRow.holds Tryz.pinned (OpenSpec.ofChange Rows.fnTransverseSpec):=
  OpenClaim.holds_of_wide 6 Tryz.f6 rfl rfl rfl rfl rfl rfl rfl ⟨rfl,rfl,rfl,rfl,rfl⟩ rfl rfl rfl rfl rfl (by kernel_rfl) Tryz.func6 closed
    (of_decide_eq_true (by kernel_rfl)) (by unfold Func.isWrapper; first | (rw [if_pos (by decide +kernel)]; kernel_rfl) | (rw [if_neg (by decide +kernel)]; exact ⟨rfl,rfl⟩))
    (fun os started H enc _=>lifted os started H enc)
theorem proved : Rows.FnTransverseSaid:=over
#print axioms proved
end Go.Proofs.YtcdkepbgjgcjfaaGreat.fnTransverse
namespace Go.Proofs.YtcdkepbgjgcjfaaGreat
theorem fnTransverse_holds : Rows.FnTransverseSaid:=fnTransverse.proved
end Go.Proofs.YtcdkepbgjgcjfaaGreat
