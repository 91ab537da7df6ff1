/- The row of the law FnExactUnproject: the contract of its function, and the plain law. (written by lawrow.py) -/
import Derived.Test.YtjckiicaegpghaaGreatRows
import Derived.Test.YtjckiicaegpghaaGreatAbsL
import Derived.Test.YtjckiicaegpghaaGreatWhole
import Derived.Test.YtjckiicaegpghaaGreatK7
import Derived.Test.YtjckiicaegpghaaGreatQy
namespace Go.Proofs.YtjckiicaegpghaaGreat.fnExactUnproject
open Go.ChangeShapes Go.WideShapes Go.ChangeAt Go.RowKit
open Go.Proofs.YtjckiicaegpghaaGreat.Abs
set_option linter.unusedVariables false
theorem own : ownKnob Tryz.prog.godebug = none := by kernel_rfl
theorem laidOut : laidOutB Tryz.prog = true := whole1
set_option maxRecDepth 100000 in
theorem lifted (os : Os) (started : os.Started) (H : Type) (enc : TypeId × Value → H) :
    ReturnsInHanded {} Tryz.checked os 7 .any (Rows.fnExactUnprojectSpec.pre6 enc Tryz.prog Tryz.f7 Rows.fnExactUnprojectRow.domain false) (Rows.fnExactUnprojectSpec.post enc Tryz.prog Tryz.f7 false true false false) := by
  refine returnsInHanded_of_change_sized (C := Tryz.checked) own started (by kernel_rfl) Tryz.func7
    (ChangeSpec.witness6 (enc := enc) (C := Tryz.checked) false ⟨#[], #[.agg #[.int .i64 0, .int .i64 0, .int .i64 0, .int .i64 0, .int .i64 0], .agg #[.int .i64 0, .int .i64 0, .int .i64 0, .int .i64 0]], []⟩ 8 (by kernel_rfl) (by kernel_rfl) (by kernel_rfl) (by kernel_rfl)) ?_
  intro W base args ds gs before hval0 hW hcnd hsz0 _
  have hval : ∀ (j : Nat) t v, Tryz.f7.params[j]? = some t → args[j]? = some v → Value.okWide Tryz.prog W .any base t v := hval0
  have hW' := hW
  obtain ⟨p, q, hA0, hV, rfl, hfz, hnd⟩ := hW
  have hA : DataW.TrodAll enc Tryz.prog W 0 (fun _ => true) true Tryz.f7.params.toList args.toList ds p := hA0
  rw [Tryz.params7] at hA hval
  obtain ⟨v0, vs0, d0, ds0, p0, q0, hargs, rfl, rfl, h0, r0⟩ := trodAll_cons hA
  obtain ⟨v1, vs1, d1, ds1, p1, q1, rfl, rfl, rfl, h1, r1⟩ := trodAll_cons r0
  obtain ⟨rfl, rfl, rfl⟩ := trodAll_nil r1
  obtain rfl : args = #[v0, v1] := by cases args; simp_all
  obtain ⟨rfl, rfl⟩ := trodVars_none hV
  have lt0 : ∀ x ∈ p0, x.block < W.heap.size := by obtain ⟨m, hm⟩ := h0; exact DataW.trod_lt m _ _ _ hm
  obtain ⟨a0, rfl⟩ := open_Pj (by kernel_rfl) (hval 0 23 v0 rfl rfl)
  have lt1 : ∀ x ∈ p1, x.block < W.heap.size := by obtain ⟨m, hm⟩ := h1; exact DataW.trod_lt m _ _ _ hm
  obtain ⟨a1, rfl⟩ := open_Pn (by kernel_rfl) (hval 1 45 v1 rfl rfl)
  have hc := Fun.calls (ok_laws_FnExactUnproject a0 a1) (by kernel_rfl) (by kernel_rfl) W
  rw [pure_FnExactUnproject a0 a1] at hc
  refine hc.mono fun e W' ⟨he, bel⟩ => ?_
  subst he
  exact ⟨_, rfl, _, _, _, [], _, [], hW', trodAll_mk1 (shut_bool Tryz.underlying4 _), (trodAll_cons_mk (Below.trod laidOut (by kernel_rfl) (of_decide_eq_true (by kernel_rfl)) h0 bel lt0) (trodAll_cons_mk (Below.trod laidOut (by kernel_rfl) (of_decide_eq_true (by kernel_rfl)) h1 bel lt1) trodAll_mk0)), rfl, bel.frame _, fun h => by cases h⟩
theorem j0 : (Rows.fnExactUnprojectRow.wf (OpenSpec.ofChange Rows.fnExactUnprojectSpec)) = true := by kernel_rfl
theorem j1 : (laidOutB Tryz.prog) = true := whole1
theorem j2 : (mapsRowed Tryz.prog) = true := whole2
theorem j3 : (Tryz.f7.params.all (Tryz.prog.readableRec ·)) = true := by kernel_rfl
theorem j4 : (namedTie Tryz.prog Rows.fnExactUnprojectRow.named Rows.fnExactUnprojectSpec.vars) = true := by kernel_rfl
theorem j5 : (Rows.fnExactUnprojectRow.stops == []) = true := by kernel_rfl
theorem j6 : (Tryz.prog.stops == []) = true := whole6
theorem j7 : (Rows.fnExactUnprojectRow.knobs == []) = true := by kernel_rfl
theorem j8 : (Tryz.prog.stopKnobs == []) = true := whole8
theorem j9 : (Rows.fnExactUnprojectRow.inPlace == Tryz.prog.inPlace 7) = true := by kernel_rfl
theorem j10 : (Rows.fnExactUnprojectRow.unfollowed == Tryz.prog.unfollowed 7) = true := by kernel_rfl
theorem j11 : (Rows.fnExactUnprojectRow.recurses == Tryz.prog.recurses 7) = true := by kernel_rfl
theorem j12 : (Rows.fnExactUnprojectRow.named == Tryz.prog.varsNamed 7) = true := by kernel_rfl
theorem j13 : (Rows.fnExactUnprojectRow.maps == (Tryz.f7.params.toList ++ Rows.fnExactUnprojectSpec.plain.varTypes Tryz.prog).any (Tryz.prog.mapsRec ·)) = true := by kernel_rfl
theorem j14 : (Rows.fnExactUnprojectRow.ifaces == (Tryz.f7.params.toList ++ Rows.fnExactUnprojectSpec.plain.varTypes Tryz.prog).any (Tryz.prog.ifacesRec ·)) = true := by kernel_rfl
theorem j15 : (Rows.fnExactUnprojectRow.mapsOut == Tryz.prog.mapsAmong Tryz.f7.resultTypes.toList) = true := by kernel_rfl
theorem j16 : (Rows.fnExactUnprojectRow.loops == (Tryz.f7.params.toList ++ Rows.fnExactUnprojectSpec.plain.varTypes Tryz.prog).any (Tryz.prog.loopsFrom ·)) = true := by kernel_rfl
theorem j17 : (Rows.fnExactUnprojectRow.wideKeys == (Tryz.f7.params.toList ++ Rows.fnExactUnprojectSpec.plain.varTypes Tryz.prog ++ Tryz.f7.resultTypes.toList).any (Tryz.prog.wideKeysFrom ·)) = true := by kernel_rfl
theorem j18 : (Rows.fnExactUnprojectSpec.vars.all (Tryz.prog.varReadable ·)) = true := by kernel_rfl
theorem j19 : (Tryz.f7.resultTypes.all (fun t => Tryz.prog.readableRec t && decide (t < Tryz.prog.types.size))) = true := by kernel_rfl
theorem j20 : (Rows.fnExactUnprojectRow.ifacesOut == Tryz.f7.resultTypes.toList.any (Tryz.prog.ifacesRec ·)) = true := by kernel_rfl
theorem j21 : (Rows.fnExactUnprojectRow.loopsOut == Tryz.f7.resultTypes.toList.any (Tryz.prog.loopsFrom ·)) = true := by kernel_rfl
theorem j22 : (Rows.fnExactUnprojectRow.plainKeys == Tryz.prog.plainKeys) = true := whole22
theorem j23 : (Rows.fnExactUnprojectRow.shortTexts.isNone) = true := by kernel_rfl
theorem j24 : (Tryz.prog.stopsHeard) = true := whole24
theorem j25 : (Tryz.prog.mayEnter) = true := whole25
theorem j26 : (Rows.fnExactUnprojectRow.lifted == Tryz.prog.liftsFinal) = true := whole26
theorem j27 : (Tryz.prog.make == some Rows.fnExactUnprojectRow.make) = true := whole27
theorem j28 : (Rows.fnExactUnprojectRow.kinds == (if Rows.fnExactUnprojectRow.domain.isEmpty then [] else Tryz.f7.params.toList.map fun t => match Tryz.prog.underlying t with | some (.int k) => some k | _ => none)) = true := by kernel_rfl
theorem j29 : (Rows.fnExactUnprojectRow.pinned == Rows.fnExactUnprojectRow.pinnedBy) = true := by kernel_rfl
theorem j30 : (Rows.fnExactUnprojectRow.veiled == (Tryz.f7.params.toList ++ Rows.fnExactUnprojectSpec.plain.varTypes Tryz.prog ++ Tryz.f7.resultTypes.toList).any (Tryz.prog.veiledRec ·)) = true := by kernel_rfl
theorem j31 : (Rows.fnExactUnprojectRow.veiledFits Tryz.prog Tryz.f7.params.toList (Tryz.f7.params.toList ++ Rows.fnExactUnprojectSpec.plain.varTypes Tryz.prog ++ Tryz.f7.resultTypes.toList)) = true := by kernel_rfl
set_option maxRecDepth 100000 in
theorem closed : joinedFacts Tryz.prog 7 Tryz.f7 Rows.fnExactUnprojectSpec Rows.fnExactUnprojectRow = true := and_mk (and_mk (and_mk (and_mk (and_mk (and_mk (and_mk (and_mk (and_mk (and_mk (and_mk (and_mk (and_mk (and_mk (and_mk (and_mk (and_mk (and_mk (and_mk (and_mk (and_mk (and_mk (and_mk (and_mk (and_mk (and_mk (and_mk (and_mk (and_mk (and_mk (and_mk (j0) j1) j2) j3) j4) j5) j6) j7) j8) j9) j10) j11) j12) j13) j14) j15) j16) j17) j18) j19) j20) j21) j22) j23) j24) j25) j26) j27) j28) j29) j30) j31
theorem over : Rows.fnExactUnprojectRow.holds Tryz.pinned (OpenSpec.ofChange Rows.fnExactUnprojectSpec) :=
  OpenClaim.holds_of_wide 7 Tryz.f7 rfl rfl rfl rfl rfl rfl rfl ⟨rfl, rfl, rfl, rfl, rfl⟩ rfl rfl rfl rfl rfl (by kernel_rfl) Tryz.func7 closed
    (of_decide_eq_true (by kernel_rfl)) (by unfold Func.isWrapper; first | (rw [if_pos (by decide +kernel)]; kernel_rfl) | (rw [if_neg (by decide +kernel)]; exact ⟨rfl, rfl⟩))
    (fun os started H enc _ => lifted os started H enc)
theorem proved : Rows.FnExactUnprojectSaid := over
#print axioms proved
end Go.Proofs.YtjckiicaegpghaaGreat.fnExactUnproject
namespace Go.Proofs.YtjckiicaegpghaaGreat
/-- The row, under a short name, for the claim. -/
theorem fnExactUnproject_holds : Rows.FnExactUnprojectSaid := fnExactUnproject.proved
end Go.Proofs.YtjckiicaegpghaaGreat
