/- The row of the law FnMoves: the contract of its function, and the plain law. (written by lawrow.py) -/
import Derived.Test.YtfhnlkinjbakgaaGreatRows
import Derived.Test.YtfhnlkinjbakgaaGreatMsAbsB
import Derived.Test.YtfhnlkinjbakgaaGreatMsWhole
import Derived.Test.YtfhnlkinjbakgaaGreatMsK0
import Derived.Test.YtfhnlkinjbakgaaGreatMsK1
import Derived.Test.YtfhnlkinjbakgaaGreatMsK2
import Derived.Test.YtfhnlkinjbakgaaGreatMsK3
import Derived.Test.YtfhnlkinjbakgaaGreatMsK4
import Derived.Test.YtfhnlkinjbakgaaGreatMsK5
import Derived.Test.YtfhnlkinjbakgaaGreatMsK6
import Derived.Test.YtfhnlkinjbakgaaGreatMsQzzbzzczzdzze
namespace Go.Proofs.YtfhnlkinjbakgaaGreat.fnMoves
open Go.ChangeShapes Go.WideShapes Go.ChangeAt Go.RowKit
open Go.Proofs.YtfhnlkinjbakgaaGreat.Abs
set_option linter.unusedVariables false
theorem own : ownKnob Tryz.prog.godebug = none:=by kernel_rfl
theorem laidOut : laidOutB Tryz.prog = true:=whole1
set_option maxRecDepth 100000 in
theorem lifted (os : Os) (started : os.Started) (H : Type) (enc : TypeId × Value → H) :
    ReturnsInHanded {} Tryz.checked os 4 .any (Rows.fnMovesSpec.pre6 enc Tryz.prog Tryz.f4 Rows.fnMovesRow.domain false) (Rows.fnMovesSpec.post enc Tryz.prog Tryz.f4 false true false false):=by
  refine returnsInHanded_of_change_sized (C:=Tryz.checked) own started (by kernel_rfl) Tryz.func4
    (ChangeSpec.witness6 (enc:=enc) (C:=Tryz.checked) false ⟨#[],#[.slice none 0 0,.slice none 0 0],[]⟩ 8 (by kernel_rfl) (by kernel_rfl) (by kernel_rfl) (by kernel_rfl)) ?_
  intro W base args ds gs before hval0 hW hcnd hsz0 _
  have hval : ∀ (j : Nat) t v,Tryz.f4.params[j]? = some t → args[j]? = some v → Value.okWide Tryz.prog W .any base t v:=hval0
  have hW':=hW
  obtain ⟨p,q,hA0,hV,rfl,hfz,hnd⟩:=hW
  have hA : DataW.TrodAll enc Tryz.prog W 0 (fun _=>true) true Tryz.f4.params.toList args.toList ds p:=hA0
  rw [Tryz.params4] at hA hval
  obtain ⟨v0,vs0,d0,ds0,p0,q0,hargs,rfl,rfl,h0,r0⟩:=trodAll_cons hA
  obtain ⟨v1,vs1,d1,ds1,p1,q1,rfl,rfl,rfl,h1,r1⟩:=trodAll_cons r0
  obtain ⟨rfl,rfl,rfl⟩:=trodAll_nil r1
  obtain rfl : args = #[v0,v1]:=by cases args; simp_all
  obtain ⟨rfl,rfl⟩:=trodVars_none hV
  have lt0 : ∀ x ∈ p0,x.block < W.heap.size:=by obtain ⟨m,hm⟩:=h0; exact DataW.trod_lt m _ _ _ hm
  have b0:=open_bytes Tryz.underlying22 Tryz.underlying5 (by kernel_rfl) (hval 0 22 v0 rfl rfl) h0
  have lt1 : ∀ x ∈ p1,x.block < W.heap.size:=by obtain ⟨m,hm⟩:=h1; exact DataW.trod_lt m _ _ _ hm
  have b1:=open_bytes Tryz.underlying22 Tryz.underlying5 (by kernel_rfl) (hval 1 22 v1 rfl rfl) h1
  have hc:=bytes2 (P:=Tryz.prog) (f:=4) (r:=vB true) rfl b0 b1 (fun C D=>by have h:=ol_FnMoves C D; rw [pure_FnMoves C D] at h; exact h) (fun C=>by have h:=ol_FnMoves_ln C; rw [pure_FnMoves C Cd.nil] at h; exact h) (fun C=>by have h:=ol_FnMoves_nl C; rw [pure_FnMoves Cd.nil C] at h; exact h) (by have h:=ol_FnMoves_nn; rw [pure_FnMoves Cd.nil Cd.nil] at h; exact h) (fun C V=>by have h:=ol_FnMoves_lv C V; rw [pure_FnMoves C (C.vw V)] at h; exact h)
  refine hc.mono fun e W' ⟨he,bel⟩=>?_
  subst he
  exact ⟨_,rfl,_,_,_,[],_,[],hW',trodAll_mk1 (shut_bool Tryz.underlying4 _),(trodAll_cons_mk (Below.trod laidOut (by kernel_rfl) (of_decide_eq_true (by kernel_rfl)) h0 bel lt0) (trodAll_cons_mk (Below.trod laidOut (by kernel_rfl) (of_decide_eq_true (by kernel_rfl)) h1 bel lt1) trodAll_mk0)),rfl,bel.frame _,fun h=>by cases h⟩
theorem j0 : (Rows.fnMovesRow.wf (OpenSpec.ofChange Rows.fnMovesSpec)) = true:=by kernel_rfl
theorem j1 : (laidOutB Tryz.prog) = true:=whole1
theorem j2 : (mapsRowed Tryz.prog) = true:=whole2
theorem j3 : (Tryz.f4.params.all (Tryz.prog.readableRec ·)) = true:=by kernel_rfl
theorem j4 : (namedTie Tryz.prog Rows.fnMovesRow.named Rows.fnMovesSpec.vars) = true:=by kernel_rfl
theorem j5 : (Rows.fnMovesRow.stops == []) = true:=by kernel_rfl
theorem j6 : (Tryz.prog.stops == []) = true:=whole6
theorem j7 : (Rows.fnMovesRow.knobs == []) = true:=by kernel_rfl
theorem j8 : (Tryz.prog.stopKnobs == []) = true:=whole8
theorem j9 : (Rows.fnMovesRow.inPlace == Tryz.prog.inPlace 4) = true:=by kernel_rfl
theorem j10 : (Rows.fnMovesRow.unfollowed == Tryz.prog.unfollowed 4) = true:=by kernel_rfl
theorem j11 : (Rows.fnMovesRow.recurses == Tryz.prog.recurses 4) = true:=by kernel_rfl
theorem j12 : (Rows.fnMovesRow.named == Tryz.prog.varsNamed 4) = true:=by kernel_rfl
theorem j13 : (Rows.fnMovesRow.maps == (Tryz.f4.params.toList ++ Rows.fnMovesSpec.plain.varTypes Tryz.prog).any (Tryz.prog.mapsRec ·)) = true:=by kernel_rfl
theorem j14 : (Rows.fnMovesRow.ifaces == (Tryz.f4.params.toList ++ Rows.fnMovesSpec.plain.varTypes Tryz.prog).any (Tryz.prog.ifacesRec ·)) = true:=by kernel_rfl
theorem j15 : (Rows.fnMovesRow.mapsOut == Tryz.prog.mapsAmong Tryz.f4.resultTypes.toList) = true:=by kernel_rfl
theorem j16 : (Rows.fnMovesRow.loops == (Tryz.f4.params.toList ++ Rows.fnMovesSpec.plain.varTypes Tryz.prog).any (Tryz.prog.loopsFrom ·)) = true:=by kernel_rfl
theorem j17 : (Rows.fnMovesRow.wideKeys == (Tryz.f4.params.toList ++ Rows.fnMovesSpec.plain.varTypes Tryz.prog ++ Tryz.f4.resultTypes.toList).any (Tryz.prog.wideKeysFrom ·)) = true:=by kernel_rfl
theorem j18 : (Rows.fnMovesSpec.vars.all (Tryz.prog.varReadable ·)) = true:=by kernel_rfl
theorem j19 : (Tryz.f4.resultTypes.all (fun t=>Tryz.prog.readableRec t && decide (t < Tryz.prog.types.size))) = true:=by kernel_rfl
theorem j20 : (Rows.fnMovesRow.ifacesOut == Tryz.f4.resultTypes.toList.any (Tryz.prog.ifacesRec ·)) = true:=by kernel_rfl
theorem j21 : (Rows.fnMovesRow.loopsOut == Tryz.f4.resultTypes.toList.any (Tryz.prog.loopsFrom ·)) = true:=by kernel_rfl
theorem j22 : (Rows.fnMovesRow.plainKeys == Tryz.prog.plainKeys) = true:=whole22
theorem j23 : (Rows.fnMovesRow.shortTexts.isNone) = true:=by kernel_rfl
theorem j24 : (Tryz.prog.stopsHeard) = true:=whole24
theorem j25 : (Tryz.prog.mayEnter) = true:=whole25
theorem j26 : (Rows.fnMovesRow.lifted == Tryz.prog.liftsFinal) = true:=whole26
theorem j27 : (Tryz.prog.make == some Rows.fnMovesRow.make) = true:=whole27
theorem j28 : (Rows.fnMovesRow.kinds == (if Rows.fnMovesRow.domain.isEmpty then [] else Tryz.f4.params.toList.map fun t=>match Tryz.prog.underlying t with | some (.int k)=>some k | _=>none)) = true:=by kernel_rfl
theorem j29 : (Rows.fnMovesRow.pinned == Rows.fnMovesRow.pinnedBy) = true:=by kernel_rfl
theorem j30 : (Rows.fnMovesRow.veiled == (Tryz.f4.params.toList ++ Rows.fnMovesSpec.plain.varTypes Tryz.prog ++ Tryz.f4.resultTypes.toList).any (Tryz.prog.veiledRec ·)) = true:=by kernel_rfl
theorem j31 : (Rows.fnMovesRow.veiledFits Tryz.prog Tryz.f4.params.toList (Tryz.f4.params.toList ++ Rows.fnMovesSpec.plain.varTypes Tryz.prog ++ Tryz.f4.resultTypes.toList)) = true:=by kernel_rfl
set_option maxRecDepth 100000 in
theorem closed : joinedFacts Tryz.prog 4 Tryz.f4 Rows.fnMovesSpec Rows.fnMovesRow = true:=and_mk (and_mk (and_mk (and_mk (and_mk (and_mk (and_mk (and_mk (and_mk (and_mk (and_mk (and_mk (and_mk (and_mk (and_mk (and_mk (and_mk (and_mk (and_mk (and_mk (and_mk (and_mk (and_mk (and_mk (and_mk (and_mk (and_mk (and_mk (and_mk (and_mk (and_mk (j0) j1) j2) j3) j4) j5) j6) j7) j8) j9) j10) j11) j12) j13) j14) j15) j16) j17) j18) j19) j20) j21) j22) j23) j24) j25) j26) j27) j28) j29) j30) j31
theorem over : Rows.fnMovesRow.holds Tryz.pinned (OpenSpec.ofChange Rows.fnMovesSpec):=
  OpenClaim.holds_of_wide 4 Tryz.f4 rfl rfl rfl rfl rfl rfl rfl ⟨rfl,rfl,rfl,rfl,rfl⟩ rfl rfl rfl rfl rfl (by kernel_rfl) Tryz.func4 closed
    (of_decide_eq_true (by kernel_rfl)) (by unfold Func.isWrapper; first | (rw [if_pos (by decide +kernel)]; kernel_rfl) | (rw [if_neg (by decide +kernel)]; exact ⟨rfl,rfl⟩))
    (fun os started H enc _=>lifted os started H enc)
theorem proved : Rows.FnMovesSaid:=over
#print axioms proved
end Go.Proofs.YtfhnlkinjbakgaaGreat.fnMoves
namespace Go.Proofs.YtfhnlkinjbakgaaGreat
theorem fnMoves_holds : Rows.FnMovesSaid:=fnMoves.proved
end Go.Proofs.YtfhnlkinjbakgaaGreat
