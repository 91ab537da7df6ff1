/- The row of the law FnExactStretchOf: the contract of its function, and the plain law. (written by lawrow.py) -/
import Derived.Test.YtjckiicaegpghaaGreatRows
import Derived.Test.YtjckiicaegpghaaGreatAbsL
import Derived.Test.YtjckiicaegpghaaGreatWhole
import Derived.Test.YtjckiicaegpghaaGreatK9
import Derived.Test.YtjckiicaegpghaaGreatQy
namespace Go.Proofs.YtjckiicaegpghaaGreat.fnExactStretchOf
open Go.ChangeShapes Go.WideShapes Go.ChangeAt Go.RowKit
open Go.Proofs.YtjckiicaegpghaaGreat.Abs
set_option linter.unusedVariables false
theorem own : ownKnob Tryz.prog.godebug = none := by kernel_rfl
theorem laidOut : laidOutB Tryz.prog = true := whole1
set_option maxRecDepth 100000 in
theorem lifted (os : Os) (started : os.Started) (H : Type) (enc : TypeId × Value → H) :
    ReturnsInHanded {} Tryz.checked os 8 .any (Rows.fnExactStretchOfSpec.pre6 enc Tryz.prog Tryz.f8 Rows.fnExactStretchOfRow.domain false) (Rows.fnExactStretchOfSpec.post enc Tryz.prog Tryz.f8 false true false false) := by
  refine returnsInHanded_of_change_sized (C := Tryz.checked) own started (by kernel_rfl) Tryz.func8
    (ChangeSpec.witness6 (enc := enc) (C := Tryz.checked) false ⟨#[], #[.agg #[.int .i64 0, .int .i64 0, .int .i64 0, .int .i64 0, .int .i64 0], .agg #[.int .i64 0, .int .i64 0], .agg #[.int .i64 0, .int .i64 0]], []⟩ 8 (by kernel_rfl) (by kernel_rfl) (by kernel_rfl) (by kernel_rfl)) ?_
  intro W base args ds gs before hval0 hW hcnd hsz0 _
  have hval : ∀ (j : Nat) t v, Tryz.f8.params[j]? = some t → args[j]? = some v → Value.okWide Tryz.prog W .any base t v := hval0
  have hW' := hW
  obtain ⟨p, q, hA0, hV, rfl, hfz, hnd⟩ := hW
  have hA : DataW.TrodAll enc Tryz.prog W 0 (fun _ => true) true Tryz.f8.params.toList args.toList ds p := hA0
  rw [Tryz.params8] at hA hval
  obtain ⟨v0, vs0, d0, ds0, p0, q0, hargs, rfl, rfl, h0, r0⟩ := trodAll_cons hA
  obtain ⟨v1, vs1, d1, ds1, p1, q1, rfl, rfl, rfl, h1, r1⟩ := trodAll_cons r0
  obtain ⟨v2, vs2, d2, ds2, p2, q2, rfl, rfl, rfl, h2, r2⟩ := trodAll_cons r1
  obtain ⟨rfl, rfl, rfl⟩ := trodAll_nil r2
  obtain rfl : args = #[v0, v1, v2] := by cases args; simp_all
  obtain ⟨rfl, rfl⟩ := trodVars_none hV
  have lt0 : ∀ x ∈ p0, x.block < W.heap.size := by obtain ⟨m, hm⟩ := h0; exact DataW.trod_lt m _ _ _ hm
  obtain ⟨a0, rfl⟩ := open_Pj (by kernel_rfl) (hval 0 23 v0 rfl rfl)
  have lt1 : ∀ x ∈ p1, x.block < W.heap.size := by obtain ⟨m, hm⟩ := h1; exact DataW.trod_lt m _ _ _ hm
  obtain ⟨a1, rfl⟩ := open_Pt (by kernel_rfl) (hval 1 25 v1 rfl rfl)
  have lt2 : ∀ x ∈ p2, x.block < W.heap.size := by obtain ⟨m, hm⟩ := h2; exact DataW.trod_lt m _ _ _ hm
  obtain ⟨a2, rfl⟩ := open_Pt (by kernel_rfl) (hval 2 25 v2 rfl rfl)
  have hc := Fun.calls (ok_laws_FnExactStretchOf a0 a1 a2) (by kernel_rfl) (by kernel_rfl) W
  rw [pure_FnExactStretchOf a0 a1 a2] at hc
  refine hc.mono fun e W' ⟨he, bel⟩ => ?_
  subst he
  exact ⟨_, rfl, _, _, _, [], _, [], hW', trodAll_mk1 (shut_bool Tryz.underlying4 _), (trodAll_cons_mk (Below.trod laidOut (by kernel_rfl) (of_decide_eq_true (by kernel_rfl)) h0 bel lt0) (trodAll_cons_mk (Below.trod laidOut (by kernel_rfl) (of_decide_eq_true (by kernel_rfl)) h1 bel lt1) (trodAll_cons_mk (Below.trod laidOut (by kernel_rfl) (of_decide_eq_true (by kernel_rfl)) h2 bel lt2) trodAll_mk0))), rfl, bel.frame _, fun h => by cases h⟩
theorem j0 : (Rows.fnExactStretchOfRow.wf (OpenSpec.ofChange Rows.fnExactStretchOfSpec)) = true := by kernel_rfl
theorem j1 : (laidOutB Tryz.prog) = true := whole1
theorem j2 : (mapsRowed Tryz.prog) = true := whole2
theorem j3 : (Tryz.f8.params.all (Tryz.prog.readableRec ·)) = true := by kernel_rfl
theorem j4 : (namedTie Tryz.prog Rows.fnExactStretchOfRow.named Rows.fnExactStretchOfSpec.vars) = true := by kernel_rfl
theorem j5 : (Rows.fnExactStretchOfRow.stops == []) = true := by kernel_rfl
theorem j6 : (Tryz.prog.stops == []) = true := whole6
theorem j7 : (Rows.fnExactStretchOfRow.knobs == []) = true := by kernel_rfl
theorem j8 : (Tryz.prog.stopKnobs == []) = true := whole8
theorem j9 : (Rows.fnExactStretchOfRow.inPlace == Tryz.prog.inPlace 8) = true := by kernel_rfl
theorem j10 : (Rows.fnExactStretchOfRow.unfollowed == Tryz.prog.unfollowed 8) = true := by kernel_rfl
theorem j11 : (Rows.fnExactStretchOfRow.recurses == Tryz.prog.recurses 8) = true := by kernel_rfl
theorem j12 : (Rows.fnExactStretchOfRow.named == Tryz.prog.varsNamed 8) = true := by kernel_rfl
theorem j13 : (Rows.fnExactStretchOfRow.maps == (Tryz.f8.params.toList ++ Rows.fnExactStretchOfSpec.plain.varTypes Tryz.prog).any (Tryz.prog.mapsRec ·)) = true := by kernel_rfl
theorem j14 : (Rows.fnExactStretchOfRow.ifaces == (Tryz.f8.params.toList ++ Rows.fnExactStretchOfSpec.plain.varTypes Tryz.prog).any (Tryz.prog.ifacesRec ·)) = true := by kernel_rfl
theorem j15 : (Rows.fnExactStretchOfRow.mapsOut == Tryz.prog.mapsAmong Tryz.f8.resultTypes.toList) = true := by kernel_rfl
theorem j16 : (Rows.fnExactStretchOfRow.loops == (Tryz.f8.params.toList ++ Rows.fnExactStretchOfSpec.plain.varTypes Tryz.prog).any (Tryz.prog.loopsFrom ·)) = true := by kernel_rfl
theorem j17 : (Rows.fnExactStretchOfRow.wideKeys == (Tryz.f8.params.toList ++ Rows.fnExactStretchOfSpec.plain.varTypes Tryz.prog ++ Tryz.f8.resultTypes.toList).any (Tryz.prog.wideKeysFrom ·)) = true := by kernel_rfl
theorem j18 : (Rows.fnExactStretchOfSpec.vars.all (Tryz.prog.varReadable ·)) = true := by kernel_rfl
theorem j19 : (Tryz.f8.resultTypes.all (fun t => Tryz.prog.readableRec t && decide (t < Tryz.prog.types.size))) = true := by kernel_rfl
theorem j20 : (Rows.fnExactStretchOfRow.ifacesOut == Tryz.f8.resultTypes.toList.any (Tryz.prog.ifacesRec ·)) = true := by kernel_rfl
theorem j21 : (Rows.fnExactStretchOfRow.loopsOut == Tryz.f8.resultTypes.toList.any (Tryz.prog.loopsFrom ·)) = true := by kernel_rfl
theorem j22 : (Rows.fnExactStretchOfRow.plainKeys == Tryz.prog.plainKeys) = true := whole22
theorem j23 : (Rows.fnExactStretchOfRow.shortTexts.isNone) = true := by kernel_rfl
theorem j24 : (Tryz.prog.stopsHeard) = true := whole24
theorem j25 : (Tryz.prog.mayEnter) = true := whole25
theorem j26 : (Rows.fnExactStretchOfRow.lifted == Tryz.prog.liftsFinal) = true := whole26
theorem j27 : (Tryz.prog.make == some Rows.fnExactStretchOfRow.make) = true := whole27
theorem j28 : (Rows.fnExactStretchOfRow.kinds == (if Rows.fnExactStretchOfRow.domain.isEmpty then [] else Tryz.f8.params.toList.map fun t => match Tryz.prog.underlying t with | some (.int k) => some k | _ => none)) = true := by kernel_rfl
theorem j29 : (Rows.fnExactStretchOfRow.pinned == Rows.fnExactStretchOfRow.pinnedBy) = true := by kernel_rfl
theorem j30 : (Rows.fnExactStretchOfRow.veiled == (Tryz.f8.params.toList ++ Rows.fnExactStretchOfSpec.plain.varTypes Tryz.prog ++ Tryz.f8.resultTypes.toList).any (Tryz.prog.veiledRec ·)) = true := by kernel_rfl
theorem j31 : (Rows.fnExactStretchOfRow.veiledFits Tryz.prog Tryz.f8.params.toList (Tryz.f8.params.toList ++ Rows.fnExactStretchOfSpec.plain.varTypes Tryz.prog ++ Tryz.f8.resultTypes.toList)) = true := by kernel_rfl
set_option maxRecDepth 100000 in
theorem closed : joinedFacts Tryz.prog 8 Tryz.f8 Rows.fnExactStretchOfSpec Rows.fnExactStretchOfRow = true := and_mk (and_mk (and_mk (and_mk (and_mk (and_mk (and_mk (and_mk (and_mk (and_mk (and_mk (and_mk (and_mk (and_mk (and_mk (and_mk (and_mk (and_mk (and_mk (and_mk (and_mk (and_mk (and_mk (and_mk (and_mk (and_mk (and_mk (and_mk (and_mk (and_mk (and_mk (j0) j1) j2) j3) j4) j5) j6) j7) j8) j9) j10) j11) j12) j13) j14) j15) j16) j17) j18) j19) j20) j21) j22) j23) j24) j25) j26) j27) j28) j29) j30) j31
theorem over : Rows.fnExactStretchOfRow.holds Tryz.pinned (OpenSpec.ofChange Rows.fnExactStretchOfSpec) :=
  OpenClaim.holds_of_wide 8 Tryz.f8 rfl rfl rfl rfl rfl rfl rfl ⟨rfl, rfl, rfl, rfl, rfl⟩ rfl rfl rfl rfl rfl (by kernel_rfl) Tryz.func8 closed
    (of_decide_eq_true (by kernel_rfl)) (by unfold Func.isWrapper; first | (rw [if_pos (by decide +kernel)]; kernel_rfl) | (rw [if_neg (by decide +kernel)]; exact ⟨rfl, rfl⟩))
    (fun os started H enc _ => lifted os started H enc)
theorem proved : Rows.FnExactStretchOfSaid := over
#print axioms proved
end Go.Proofs.YtjckiicaegpghaaGreat.fnExactStretchOf
namespace Go.Proofs.YtjckiicaegpghaaGreat
/-- The row, under a short name, for the claim. -/
theorem fnExactStretchOf_holds : Rows.FnExactStretchOfSaid := fnExactStretchOf.proved
end Go.Proofs.YtjckiicaegpghaaGreat
