/- The row of the law FnExactMapDistance: the contract of its function, and the plain law. (written by lawrow.py) -/
import Derived.Test.YtjckiicaegpghaaGreatRows
import Derived.Test.YtjckiicaegpghaaGreatAbsL
import Derived.Test.YtjckiicaegpghaaGreatWhole
import Derived.Test.YtjckiicaegpghaaGreatK9
import Derived.Test.YtjckiicaegpghaaGreatQy
namespace Go.Proofs.YtjckiicaegpghaaGreat.fnExactMapDistance
open Go.ChangeShapes Go.WideShapes Go.ChangeAt Go.RowKit
open Go.Proofs.YtjckiicaegpghaaGreat.Abs
set_option linter.unusedVariables false
theorem own : ownKnob Tryz.prog.godebug = none := by kernel_rfl
theorem laidOut : laidOutB Tryz.prog = true := whole1
set_option maxRecDepth 100000 in
theorem lifted (os : Os) (started : os.Started) (H : Type) (enc : TypeId × Value → H) :
    ReturnsInHanded {} Tryz.checked os 6 .any (Rows.fnExactMapDistanceSpec.pre6 enc Tryz.prog Tryz.f6 Rows.fnExactMapDistanceRow.domain false) (Rows.fnExactMapDistanceSpec.post enc Tryz.prog Tryz.f6 false true false false) := by
  refine returnsInHanded_of_change_sized (C := Tryz.checked) own started (by kernel_rfl) Tryz.func6
    (ChangeSpec.witness6 (enc := enc) (C := Tryz.checked) false ⟨#[], #[.agg #[.int .i64 0, .int .i64 0, .int .i64 0, .int .i64 0, .int .i64 0], .agg #[.int .i64 0, .int .i64 0], .agg #[.int .i64 0, .int .i64 0]], []⟩ 8 (by kernel_rfl) (by kernel_rfl) (by kernel_rfl) (by kernel_rfl)) ?_
  intro W base args ds gs before hval0 hW hcnd hsz0 _
  have hval : ∀ (j : Nat) t v, Tryz.f6.params[j]? = some t → args[j]? = some v → Value.okWide Tryz.prog W .any base t v := hval0
  have hW' := hW
  obtain ⟨p, q, hA0, hV, rfl, hfz, hnd⟩ := hW
  have hA : DataW.TrodAll enc Tryz.prog W 0 (fun _ => true) true Tryz.f6.params.toList args.toList ds p := hA0
  rw [Tryz.params6] at hA hval
  obtain ⟨v0, vs0, d0, ds0, p0, q0, hargs, rfl, rfl, h0, r0⟩ := trodAll_cons hA
  obtain ⟨v1, vs1, d1, ds1, p1, q1, rfl, rfl, rfl, h1, r1⟩ := trodAll_cons r0
  obtain ⟨v2, vs2, d2, ds2, p2, q2, rfl, rfl, rfl, h2, r2⟩ := trodAll_cons r1
  obtain ⟨rfl, rfl, rfl⟩ := trodAll_nil r2
  obtain rfl : args = #[v0, v1, v2] := by cases args; simp_all
  obtain ⟨rfl, rfl⟩ := trodVars_none hV
  have lt0 : ∀ x ∈ p0, x.block < W.heap.size := by obtain ⟨m, hm⟩ := h0; exact DataW.trod_lt m _ _ _ hm
  obtain ⟨a0, rfl⟩ := open_Pj (by kernel_rfl) (hval 0 23 v0 rfl rfl)
  have lt1 : ∀ x ∈ p1, x.block < W.heap.size := by obtain ⟨m, hm⟩ := h1; exact DataW.trod_lt m _ _ _ hm
  obtain ⟨a1, rfl⟩ := open_Pt (by kernel_rfl) (hval 1 25 v1 rfl rfl)
  have lt2 : ∀ x ∈ p2, x.block < W.heap.size := by obtain ⟨m, hm⟩ := h2; exact DataW.trod_lt m _ _ _ hm
  obtain ⟨a2, rfl⟩ := open_Pt (by kernel_rfl) (hval 2 25 v2 rfl rfl)
  have hc := Fun.calls (ok_laws_FnExactMapDistance a0 a1 a2) (by kernel_rfl) (by kernel_rfl) W
  rw [pure_FnExactMapDistance a0 a1 a2] at hc
  refine hc.mono fun e W' ⟨he, bel⟩ => ?_
  subst he
  exact ⟨_, rfl, _, _, _, [], _, [], hW', trodAll_mk1 (shut_bool Tryz.underlying4 _), (trodAll_cons_mk (Below.trod laidOut (by kernel_rfl) (of_decide_eq_true (by kernel_rfl)) h0 bel lt0) (trodAll_cons_mk (Below.trod laidOut (by kernel_rfl) (of_decide_eq_true (by kernel_rfl)) h1 bel lt1) (trodAll_cons_mk (Below.trod laidOut (by kernel_rfl) (of_decide_eq_true (by kernel_rfl)) h2 bel lt2) trodAll_mk0))), rfl, bel.frame _, fun h => by cases h⟩
theorem j0 : (Rows.fnExactMapDistanceRow.wf (OpenSpec.ofChange Rows.fnExactMapDistanceSpec)) = true := by kernel_rfl
theorem j1 : (laidOutB Tryz.prog) = true := whole1
theorem j2 : (mapsRowed Tryz.prog) = true := whole2
theorem j3 : (Tryz.f6.params.all (Tryz.prog.readableRec ·)) = true := by kernel_rfl
theorem j4 : (namedTie Tryz.prog Rows.fnExactMapDistanceRow.named Rows.fnExactMapDistanceSpec.vars) = true := by kernel_rfl
theorem j5 : (Rows.fnExactMapDistanceRow.stops == []) = true := by kernel_rfl
theorem j6 : (Tryz.prog.stops == []) = true := whole6
theorem j7 : (Rows.fnExactMapDistanceRow.knobs == []) = true := by kernel_rfl
theorem j8 : (Tryz.prog.stopKnobs == []) = true := whole8
theorem j9 : (Rows.fnExactMapDistanceRow.inPlace == Tryz.prog.inPlace 6) = true := by kernel_rfl
theorem j10 : (Rows.fnExactMapDistanceRow.unfollowed == Tryz.prog.unfollowed 6) = true := by kernel_rfl
theorem j11 : (Rows.fnExactMapDistanceRow.recurses == Tryz.prog.recurses 6) = true := by kernel_rfl
theorem j12 : (Rows.fnExactMapDistanceRow.named == Tryz.prog.varsNamed 6) = true := by kernel_rfl
theorem j13 : (Rows.fnExactMapDistanceRow.maps == (Tryz.f6.params.toList ++ Rows.fnExactMapDistanceSpec.plain.varTypes Tryz.prog).any (Tryz.prog.mapsRec ·)) = true := by kernel_rfl
theorem j14 : (Rows.fnExactMapDistanceRow.ifaces == (Tryz.f6.params.toList ++ Rows.fnExactMapDistanceSpec.plain.varTypes Tryz.prog).any (Tryz.prog.ifacesRec ·)) = true := by kernel_rfl
theorem j15 : (Rows.fnExactMapDistanceRow.mapsOut == Tryz.prog.mapsAmong Tryz.f6.resultTypes.toList) = true := by kernel_rfl
theorem j16 : (Rows.fnExactMapDistanceRow.loops == (Tryz.f6.params.toList ++ Rows.fnExactMapDistanceSpec.plain.varTypes Tryz.prog).any (Tryz.prog.loopsFrom ·)) = true := by kernel_rfl
theorem j17 : (Rows.fnExactMapDistanceRow.wideKeys == (Tryz.f6.params.toList ++ Rows.fnExactMapDistanceSpec.plain.varTypes Tryz.prog ++ Tryz.f6.resultTypes.toList).any (Tryz.prog.wideKeysFrom ·)) = true := by kernel_rfl
theorem j18 : (Rows.fnExactMapDistanceSpec.vars.all (Tryz.prog.varReadable ·)) = true := by kernel_rfl
theorem j19 : (Tryz.f6.resultTypes.all (fun t => Tryz.prog.readableRec t && decide (t < Tryz.prog.types.size))) = true := by kernel_rfl
theorem j20 : (Rows.fnExactMapDistanceRow.ifacesOut == Tryz.f6.resultTypes.toList.any (Tryz.prog.ifacesRec ·)) = true := by kernel_rfl
theorem j21 : (Rows.fnExactMapDistanceRow.loopsOut == Tryz.f6.resultTypes.toList.any (Tryz.prog.loopsFrom ·)) = true := by kernel_rfl
theorem j22 : (Rows.fnExactMapDistanceRow.plainKeys == Tryz.prog.plainKeys) = true := whole22
theorem j23 : (Rows.fnExactMapDistanceRow.shortTexts.isNone) = true := by kernel_rfl
theorem j24 : (Tryz.prog.stopsHeard) = true := whole24
theorem j25 : (Tryz.prog.mayEnter) = true := whole25
theorem j26 : (Rows.fnExactMapDistanceRow.lifted == Tryz.prog.liftsFinal) = true := whole26
theorem j27 : (Tryz.prog.make == some Rows.fnExactMapDistanceRow.make) = true := whole27
theorem j28 : (Rows.fnExactMapDistanceRow.kinds == (if Rows.fnExactMapDistanceRow.domain.isEmpty then [] else Tryz.f6.params.toList.map fun t => match Tryz.prog.underlying t with | some (.int k) => some k | _ => none)) = true := by kernel_rfl
theorem j29 : (Rows.fnExactMapDistanceRow.pinned == Rows.fnExactMapDistanceRow.pinnedBy) = true := by kernel_rfl
theorem j30 : (Rows.fnExactMapDistanceRow.veiled == (Tryz.f6.params.toList ++ Rows.fnExactMapDistanceSpec.plain.varTypes Tryz.prog ++ Tryz.f6.resultTypes.toList).any (Tryz.prog.veiledRec ·)) = true := by kernel_rfl
theorem j31 : (Rows.fnExactMapDistanceRow.veiledFits Tryz.prog Tryz.f6.params.toList (Tryz.f6.params.toList ++ Rows.fnExactMapDistanceSpec.plain.varTypes Tryz.prog ++ Tryz.f6.resultTypes.toList)) = true := by kernel_rfl
set_option maxRecDepth 100000 in
theorem closed : joinedFacts Tryz.prog 6 Tryz.f6 Rows.fnExactMapDistanceSpec Rows.fnExactMapDistanceRow = true := and_mk (and_mk (and_mk (and_mk (and_mk (and_mk (and_mk (and_mk (and_mk (and_mk (and_mk (and_mk (and_mk (and_mk (and_mk (and_mk (and_mk (and_mk (and_mk (and_mk (and_mk (and_mk (and_mk (and_mk (and_mk (and_mk (and_mk (and_mk (and_mk (and_mk (and_mk (j0) j1) j2) j3) j4) j5) j6) j7) j8) j9) j10) j11) j12) j13) j14) j15) j16) j17) j18) j19) j20) j21) j22) j23) j24) j25) j26) j27) j28) j29) j30) j31
theorem over : Rows.fnExactMapDistanceRow.holds Tryz.pinned (OpenSpec.ofChange Rows.fnExactMapDistanceSpec) :=
  OpenClaim.holds_of_wide 6 Tryz.f6 rfl rfl rfl rfl rfl rfl rfl ⟨rfl, rfl, rfl, rfl, rfl⟩ rfl rfl rfl rfl rfl (by kernel_rfl) Tryz.func6 closed
    (of_decide_eq_true (by kernel_rfl)) (by unfold Func.isWrapper; first | (rw [if_pos (by decide +kernel)]; kernel_rfl) | (rw [if_neg (by decide +kernel)]; exact ⟨rfl, rfl⟩))
    (fun os started H enc _ => lifted os started H enc)
theorem proved : Rows.FnExactMapDistanceSaid := over
#print axioms proved
end Go.Proofs.YtjckiicaegpghaaGreat.fnExactMapDistance
namespace Go.Proofs.YtjckiicaegpghaaGreat
/-- The row, under a short name, for the claim. -/
theorem fnExactMapDistance_holds : Rows.FnExactMapDistanceSaid := fnExactMapDistance.proved
end Go.Proofs.YtjckiicaegpghaaGreat
