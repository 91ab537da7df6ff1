/- The row of the law FnScales: the contract of its function, and the plain law. (written by lawrow.py) -/
import Derived.Test.YtfhnlkinjbakgaaGreatRows
import Derived.Test.YtfhnlkinjbakgaaGreatSsAbsB
import Derived.Test.YtfhnlkinjbakgaaGreatSsWhole
import Derived.Test.YtfhnlkinjbakgaaGreatSsK0
import Derived.Test.YtfhnlkinjbakgaaGreatSsK1
import Derived.Test.YtfhnlkinjbakgaaGreatSsK2
import Derived.Test.YtfhnlkinjbakgaaGreatSsK3
import Derived.Test.YtfhnlkinjbakgaaGreatSsK4
import Derived.Test.YtfhnlkinjbakgaaGreatSsK5
import Derived.Test.YtfhnlkinjbakgaaGreatSsK6
import Derived.Test.YtfhnlkinjbakgaaGreatSsK7
import Derived.Test.YtfhnlkinjbakgaaGreatSsQzzbzzczzdzze
namespace Go.Proofs.YtfhnlkinjbakgaaGreat.fnScales
open Go.ChangeShapes Go.WideShapes Go.ChangeAt Go.RowKit
open Go.Proofs.YtfhnlkinjbakgaaGreat.Abs
set_option linter.unusedVariables false
theorem own : ownKnob Tryz.prog.godebug = none:=by kernel_rfl
theorem laidOut : laidOutB Tryz.prog = true:=Ab3
set_option maxRecDepth 100000 in
theorem lifted (os : Os) (started : os.Started) (H : Type) (enc : TypeId × Value → H) :
    ReturnsInHanded {} Tryz.checked os 3 .any (Rows.fnScalesSpec.pre6 enc Tryz.prog Tryz.f3 Rows.fnScalesRow.domain false) (Rows.fnScalesSpec.post enc Tryz.prog Tryz.f3 false true false false):=by
  refine returnsInHanded_of_change_sized (C:=Tryz.checked) own started (by kernel_rfl) Tryz.func3
    (ChangeSpec.witness6 (enc:=enc) (C:=Tryz.checked) false ⟨#[],#[.slice none 0 0],[]⟩ 8 (by kernel_rfl) (by kernel_rfl) (by kernel_rfl) (by kernel_rfl)) ?_
  intro W base args ds gs before hval0 hW hcnd hsz0 _
  have hval : ∀ (j : Nat) t v,Tryz.f3.params[j]? = some t → args[j]? = some v → Value.okWide Tryz.prog W .any base t v:=hval0
  have hW':=hW
  obtain ⟨p,q,hA0,hV,rfl,hfz,hnd⟩:=hW
  have hA : DataW.TrodAll enc Tryz.prog W 0 (fun _=>true) true Tryz.f3.params.toList args.toList ds p:=hA0
  rw [Tryz.params3] at hA hval
  obtain ⟨v0,vs0,d0,ds0,p0,q0,hargs,rfl,rfl,h0,r0⟩:=trodAll_cons hA
  obtain ⟨rfl,rfl,rfl⟩:=trodAll_nil r0
  obtain rfl : args = #[v0]:=by cases args; simp_all
  obtain ⟨rfl,rfl⟩:=trodVars_none hV
  have lt0 : ∀ x ∈ p0,x.block < W.heap.size:=by obtain ⟨m,hm⟩:=h0; exact DataW.trod_lt m _ _ _ hm
  have b0:=vQ Tryz.underlying22 Tryz.underlying5 (by kernel_rfl) (hval 0 22 v0 rfl rfl) h0
  have hc:=Aj3 (P:=Tryz.prog) (f:=3) (r:=vB true) rfl b0 (fun C=>by have h:=rT C; rw [Zw C] at h; exact h) (by have h:=lL; rw [Zw Cd.nil] at h; exact h)
  refine hc.mono fun e W' ⟨he,bel⟩=>?_
  subst he
  exact ⟨_,rfl,_,_,_,[],_,[],hW',trodAll_mk1 (shut_bool Tryz.underlying4 _),(trodAll_cons_mk (Below.trod laidOut (by kernel_rfl) (of_decide_eq_true (by kernel_rfl)) h0 bel lt0) trodAll_mk0),rfl,bel.frame _,fun h=>by cases h⟩
theorem j0 : (Rows.fnScalesRow.wf (OpenSpec.ofChange Rows.fnScalesSpec)) = true:=by kernel_rfl
theorem j1 : (laidOutB Tryz.prog) = true:=Ab3
theorem j2 : (mapsRowed Tryz.prog) = true:=Aiz
theorem j3 : (Tryz.f3.params.all (Tryz.prog.readableRec ·)) = true:=by kernel_rfl
theorem j4 : (namedTie Tryz.prog Rows.fnScalesRow.named Rows.fnScalesSpec.vars) = true:=by kernel_rfl
theorem j5 : (Rows.fnScalesRow.stops == []) = true:=by kernel_rfl
theorem j6 : (Tryz.prog.stops == []) = true:=Aiy
theorem j7 : (Rows.fnScalesRow.knobs == []) = true:=by kernel_rfl
theorem j8 : (Tryz.prog.stopKnobs == []) = true:=Aix
theorem j9 : (Rows.fnScalesRow.inPlace == Tryz.prog.inPlace 3) = true:=by kernel_rfl
theorem j10 : (Rows.fnScalesRow.unfollowed == Tryz.prog.unfollowed 3) = true:=by kernel_rfl
theorem j11 : (Rows.fnScalesRow.recurses == Tryz.prog.recurses 3) = true:=by kernel_rfl
theorem j12 : (Rows.fnScalesRow.named == Tryz.prog.varsNamed 3) = true:=by kernel_rfl
theorem j13 : (Rows.fnScalesRow.maps == (Tryz.f3.params.toList ++ Rows.fnScalesSpec.plain.varTypes Tryz.prog).any (Tryz.prog.mapsRec ·)) = true:=by kernel_rfl
theorem j14 : (Rows.fnScalesRow.ifaces == (Tryz.f3.params.toList ++ Rows.fnScalesSpec.plain.varTypes Tryz.prog).any (Tryz.prog.ifacesRec ·)) = true:=by kernel_rfl
theorem j15 : (Rows.fnScalesRow.mapsOut == Tryz.prog.mapsAmong Tryz.f3.resultTypes.toList) = true:=by kernel_rfl
theorem j16 : (Rows.fnScalesRow.loops == (Tryz.f3.params.toList ++ Rows.fnScalesSpec.plain.varTypes Tryz.prog).any (Tryz.prog.loopsFrom ·)) = true:=by kernel_rfl
theorem j17 : (Rows.fnScalesRow.wideKeys == (Tryz.f3.params.toList ++ Rows.fnScalesSpec.plain.varTypes Tryz.prog ++ Tryz.f3.resultTypes.toList).any (Tryz.prog.wideKeysFrom ·)) = true:=by kernel_rfl
theorem j18 : (Rows.fnScalesSpec.vars.all (Tryz.prog.varReadable ·)) = true:=by kernel_rfl
theorem j19 : (Tryz.f3.resultTypes.all (fun t=>Tryz.prog.readableRec t && decide (t < Tryz.prog.types.size))) = true:=by kernel_rfl
theorem j20 : (Rows.fnScalesRow.ifacesOut == Tryz.f3.resultTypes.toList.any (Tryz.prog.ifacesRec ·)) = true:=by kernel_rfl
theorem j21 : (Rows.fnScalesRow.loopsOut == Tryz.f3.resultTypes.toList.any (Tryz.prog.loopsFrom ·)) = true:=by kernel_rfl
theorem j22 : (Rows.fnScalesRow.plainKeys == Tryz.prog.plainKeys) = true:=Af7
theorem j23 : (Rows.fnScalesRow.shortTexts.isNone) = true:=by kernel_rfl
theorem j24 : (Tryz.prog.stopsHeard) = true:=Af6
theorem j25 : (Tryz.prog.mayEnter) = true:=Af5
theorem j26 : (Rows.fnScalesRow.lifted == Tryz.prog.liftsFinal) = true:=Af4
theorem j27 : (Tryz.prog.make == some Rows.fnScalesRow.make) = true:=Af3
theorem j28 : (Rows.fnScalesRow.kinds == (if Rows.fnScalesRow.domain.isEmpty then [] else Tryz.f3.params.toList.map fun t=>match Tryz.prog.underlying t with | some (.int k)=>some k | _=>none)) = true:=by kernel_rfl
theorem j29 : (Rows.fnScalesRow.pinned == Rows.fnScalesRow.pinnedBy) = true:=by kernel_rfl
theorem j30 : (Rows.fnScalesRow.veiled == (Tryz.f3.params.toList ++ Rows.fnScalesSpec.plain.varTypes Tryz.prog ++ Tryz.f3.resultTypes.toList).any (Tryz.prog.veiledRec ·)) = true:=by kernel_rfl
theorem j31 : (Rows.fnScalesRow.veiledFits Tryz.prog Tryz.f3.params.toList (Tryz.f3.params.toList ++ Rows.fnScalesSpec.plain.varTypes Tryz.prog ++ Tryz.f3.resultTypes.toList)) = true:=by kernel_rfl
set_option maxRecDepth 100000 in
theorem closed : joinedFacts Tryz.prog 3 Tryz.f3 Rows.fnScalesSpec Rows.fnScalesRow = true:=G6 (G6 (G6 (G6 (G6 (G6 (G6 (G6 (G6 (G6 (G6 (G6 (G6 (G6 (G6 (G6 (G6 (G6 (G6 (G6 (G6 (G6 (G6 (G6 (G6 (G6 (G6 (G6 (G6 (G6 (G6 (j0) j1) j2) j3) j4) j5) j6) j7) j8) j9) j10) j11) j12) j13) j14) j15) j16) j17) j18) j19) j20) j21) j22) j23) j24) j25) j26) j27) j28) j29) j30) j31
theorem over : Rows.fnScalesRow.holds Tryz.pinned (OpenSpec.ofChange Rows.fnScalesSpec):=
  OpenClaim.holds_of_wide 3 Tryz.f3 rfl rfl rfl rfl rfl rfl rfl ⟨rfl,rfl,rfl,rfl,rfl⟩ rfl rfl rfl rfl rfl (by kernel_rfl) Tryz.func3 closed
    (of_decide_eq_true (by kernel_rfl)) (by unfold Func.isWrapper; first | (rw [if_pos (by decide +kernel)]; kernel_rfl) | (rw [if_neg (by decide +kernel)]; exact ⟨rfl,rfl⟩))
    (fun os started H enc _=>lifted os started H enc)
theorem proved : Rows.FnScalesSaid:=over
#print axioms proved
end Go.Proofs.YtfhnlkinjbakgaaGreat.fnScales
namespace Go.Proofs.YtfhnlkinjbakgaaGreat
theorem fnScales_holds : Rows.FnScalesSaid:=fnScales.proved
end Go.Proofs.YtfhnlkinjbakgaaGreat
