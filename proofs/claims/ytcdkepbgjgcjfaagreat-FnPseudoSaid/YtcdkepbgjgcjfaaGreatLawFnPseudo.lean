/- The row of the law FnPseudo: the contract of its function, and the plain law. (written by lawrow.py) -/
import Derived.Test.YtcdkepbgjgcjfaaGreatRows
import Derived.Test.YtcdkepbgjgcjfaaGreatAbsB
import Derived.Test.YtcdkepbgjgcjfaaGreatWhole
import Derived.Test.YtcdkepbgjgcjfaaGreatPsK0
import Derived.Test.YtcdkepbgjgcjfaaGreatPsK1
import Derived.Test.YtcdkepbgjgcjfaaGreatPsK2
import Derived.Test.YtcdkepbgjgcjfaaGreatPsK3
import Derived.Test.YtcdkepbgjgcjfaaGreatPsK4
import Derived.Test.YtcdkepbgjgcjfaaGreatPsK5
import Derived.Test.YtcdkepbgjgcjfaaGreatPsQzjzkzl
namespace Go.Proofs.YtcdkepbgjgcjfaaGreat.fnPseudo
open Go.ChangeShapes Go.WideShapes Go.ChangeAt Go.RowKit
open Go.Proofs.YtcdkepbgjgcjfaaGreat.Abs
set_option linter.unusedVariables false
theorem own : ownKnob Tryz.prog.godebug = none := by kernel_rfl
theorem laidOut : laidOutB Tryz.prog = true := whole1
set_option maxRecDepth 100000 in
theorem lifted (os : Os) (started : os.Started) (H : Type) (enc : TypeId × Value → H) :
    ReturnsInHanded {} Tryz.checked os 4 .any (Rows.fnPseudoSpec.pre6 enc Tryz.prog Tryz.f4 Rows.fnPseudoRow.domain false) (Rows.fnPseudoSpec.post enc Tryz.prog Tryz.f4 false true false false) := by
  refine returnsInHanded_of_change_sized (C := Tryz.checked) own started (by kernel_rfl) Tryz.func4
    (ChangeSpec.witness6 (enc := enc) (C := Tryz.checked) false ⟨#[], #[.slice none 0 0, .slice none 0 0], []⟩ 8 (by kernel_rfl) (by kernel_rfl) (by kernel_rfl) (by kernel_rfl)) ?_
  intro W base args ds gs before hval0 hW hcnd hsz0 _
  have hval : ∀ (j : Nat) t v, Tryz.f4.params[j]? = some t → args[j]? = some v → Value.okWide Tryz.prog W .any base t v := hval0
  have hW' := hW
  obtain ⟨p, q, hA0, hV, rfl, hfz, hnd⟩ := hW
  have hA : DataW.TrodAll enc Tryz.prog W 0 (fun _ => true) true Tryz.f4.params.toList args.toList ds p := hA0
  rw [Tryz.params4] at hA hval
  obtain ⟨v0, vs0, d0, ds0, p0, q0, hargs, rfl, rfl, h0, r0⟩ := trodAll_cons hA
  obtain ⟨v1, vs1, d1, ds1, p1, q1, rfl, rfl, rfl, h1, r1⟩ := trodAll_cons r0
  obtain ⟨rfl, rfl, rfl⟩ := trodAll_nil r1
  obtain rfl : args = #[v0, v1] := by cases args; simp_all
  obtain ⟨rfl, rfl⟩ := trodVars_none hV
  have lt0 : ∀ x ∈ p0, x.block < W.heap.size := by obtain ⟨m, hm⟩ := h0; exact DataW.trod_lt m _ _ _ hm
  have b0 := open_bytes Tryz.underlying22 Tryz.underlying5 (by kernel_rfl) (hval 0 22 v0 rfl rfl) h0
  have lt1 : ∀ x ∈ p1, x.block < W.heap.size := by obtain ⟨m, hm⟩ := h1; exact DataW.trod_lt m _ _ _ hm
  have b1 := open_bytes Tryz.underlying22 Tryz.underlying5 (by kernel_rfl) (hval 1 22 v1 rfl rfl) h1
  have hc := bytes2 (P := Tryz.prog) (f := 4) (r := vB true) rfl b0 b1 (fun C D => by have h := ok_laws_FnPseudo C D; rw [pure_FnPseudo C D] at h; exact h) (fun C => by have h := ok_laws_FnPseudo_ln C; rw [pure_FnPseudo C Cd.nil] at h; exact h) (fun C => by have h := ok_laws_FnPseudo_nl C; rw [pure_FnPseudo Cd.nil C] at h; exact h) (by have h := ok_laws_FnPseudo_nn; rw [pure_FnPseudo Cd.nil Cd.nil] at h; exact h) (fun C V => by have h := ok_laws_FnPseudo_lv C V; rw [pure_FnPseudo C (C.vw V)] at h; exact h)
  refine hc.mono fun e W' ⟨he, bel⟩ => ?_
  subst he
  exact ⟨_, rfl, _, _, _, [], _, [], hW', trodAll_mk1 (shut_bool Tryz.underlying4 _), (trodAll_cons_mk (Below.trod laidOut (by kernel_rfl) (of_decide_eq_true (by kernel_rfl)) h0 bel lt0) (trodAll_cons_mk (Below.trod laidOut (by kernel_rfl) (of_decide_eq_true (by kernel_rfl)) h1 bel lt1) trodAll_mk0)), rfl, bel.frame _, fun h => by cases h⟩
theorem j0 : (Rows.fnPseudoRow.wf (OpenSpec.ofChange Rows.fnPseudoSpec)) = true := by kernel_rfl
theorem j1 : (laidOutB Tryz.prog) = true := whole1
theorem j2 : (mapsRowed Tryz.prog) = true := whole2
theorem j3 : (Tryz.f4.params.all (Tryz.prog.readableRec ·)) = true := by kernel_rfl
theorem j4 : (namedTie Tryz.prog Rows.fnPseudoRow.named Rows.fnPseudoSpec.vars) = true := by kernel_rfl
theorem j5 : (Rows.fnPseudoRow.stops == []) = true := by kernel_rfl
theorem j6 : (Tryz.prog.stops == []) = true := whole6
theorem j7 : (Rows.fnPseudoRow.knobs == []) = true := by kernel_rfl
theorem j8 : (Tryz.prog.stopKnobs == []) = true := whole8
theorem j9 : (Rows.fnPseudoRow.inPlace == Tryz.prog.inPlace 4) = true := by kernel_rfl
theorem j10 : (Rows.fnPseudoRow.unfollowed == Tryz.prog.unfollowed 4) = true := by kernel_rfl
theorem j11 : (Rows.fnPseudoRow.recurses == Tryz.prog.recurses 4) = true := by kernel_rfl
theorem j12 : (Rows.fnPseudoRow.named == Tryz.prog.varsNamed 4) = true := by kernel_rfl
theorem j13 : (Rows.fnPseudoRow.maps == (Tryz.f4.params.toList ++ Rows.fnPseudoSpec.plain.varTypes Tryz.prog).any (Tryz.prog.mapsRec ·)) = true := by kernel_rfl
theorem j14 : (Rows.fnPseudoRow.ifaces == (Tryz.f4.params.toList ++ Rows.fnPseudoSpec.plain.varTypes Tryz.prog).any (Tryz.prog.ifacesRec ·)) = true := by kernel_rfl
theorem j15 : (Rows.fnPseudoRow.mapsOut == Tryz.prog.mapsAmong Tryz.f4.resultTypes.toList) = true := by kernel_rfl
theorem j16 : (Rows.fnPseudoRow.loops == (Tryz.f4.params.toList ++ Rows.fnPseudoSpec.plain.varTypes Tryz.prog).any (Tryz.prog.loopsFrom ·)) = true := by kernel_rfl
theorem j17 : (Rows.fnPseudoRow.wideKeys == (Tryz.f4.params.toList ++ Rows.fnPseudoSpec.plain.varTypes Tryz.prog ++ Tryz.f4.resultTypes.toList).any (Tryz.prog.wideKeysFrom ·)) = true := by kernel_rfl
theorem j18 : (Rows.fnPseudoSpec.vars.all (Tryz.prog.varReadable ·)) = true := by kernel_rfl
theorem j19 : (Tryz.f4.resultTypes.all (fun t => Tryz.prog.readableRec t && decide (t < Tryz.prog.types.size))) = true := by kernel_rfl
theorem j20 : (Rows.fnPseudoRow.ifacesOut == Tryz.f4.resultTypes.toList.any (Tryz.prog.ifacesRec ·)) = true := by kernel_rfl
theorem j21 : (Rows.fnPseudoRow.loopsOut == Tryz.f4.resultTypes.toList.any (Tryz.prog.loopsFrom ·)) = true := by kernel_rfl
theorem j22 : (Rows.fnPseudoRow.plainKeys == Tryz.prog.plainKeys) = true := whole22
theorem j23 : (Rows.fnPseudoRow.shortTexts.isNone) = true := by kernel_rfl
theorem j24 : (Tryz.prog.stopsHeard) = true := whole24
theorem j25 : (Tryz.prog.mayEnter) = true := whole25
theorem j26 : (Rows.fnPseudoRow.lifted == Tryz.prog.liftsFinal) = true := whole26
theorem j27 : (Tryz.prog.make == some Rows.fnPseudoRow.make) = true := whole27
theorem j28 : (Rows.fnPseudoRow.kinds == (if Rows.fnPseudoRow.domain.isEmpty then [] else Tryz.f4.params.toList.map fun t => match Tryz.prog.underlying t with | some (.int k) => some k | _ => none)) = true := by kernel_rfl
theorem j29 : (Rows.fnPseudoRow.pinned == Rows.fnPseudoRow.pinnedBy) = true := by kernel_rfl
theorem j30 : (Rows.fnPseudoRow.veiled == (Tryz.f4.params.toList ++ Rows.fnPseudoSpec.plain.varTypes Tryz.prog ++ Tryz.f4.resultTypes.toList).any (Tryz.prog.veiledRec ·)) = true := by kernel_rfl
theorem j31 : (Rows.fnPseudoRow.veiledFits Tryz.prog Tryz.f4.params.toList (Tryz.f4.params.toList ++ Rows.fnPseudoSpec.plain.varTypes Tryz.prog ++ Tryz.f4.resultTypes.toList)) = true := by kernel_rfl
set_option maxRecDepth 100000 in
theorem closed : joinedFacts Tryz.prog 4 Tryz.f4 Rows.fnPseudoSpec Rows.fnPseudoRow = true := and_mk (and_mk (and_mk (and_mk (and_mk (and_mk (and_mk (and_mk (and_mk (and_mk (and_mk (and_mk (and_mk (and_mk (and_mk (and_mk (and_mk (and_mk (and_mk (and_mk (and_mk (and_mk (and_mk (and_mk (and_mk (and_mk (and_mk (and_mk (and_mk (and_mk (and_mk (j0) j1) j2) j3) j4) j5) j6) j7) j8) j9) j10) j11) j12) j13) j14) j15) j16) j17) j18) j19) j20) j21) j22) j23) j24) j25) j26) j27) j28) j29) j30) j31
theorem over : Rows.fnPseudoRow.holds Tryz.pinned (OpenSpec.ofChange Rows.fnPseudoSpec) :=
  OpenClaim.holds_of_wide 4 Tryz.f4 rfl rfl rfl rfl rfl rfl rfl ⟨rfl, rfl, rfl, rfl, rfl⟩ rfl rfl rfl rfl rfl (by kernel_rfl) Tryz.func4 closed
    (of_decide_eq_true (by kernel_rfl)) (by unfold Func.isWrapper; first | (rw [if_pos (by decide +kernel)]; kernel_rfl) | (rw [if_neg (by decide +kernel)]; exact ⟨rfl, rfl⟩))
    (fun os started H enc _ => lifted os started H enc)
theorem proved : Rows.FnPseudoSaid := over
#print axioms proved
end Go.Proofs.YtcdkepbgjgcjfaaGreat.fnPseudo
namespace Go.Proofs.YtcdkepbgjgcjfaaGreat
/-- The row, under a short name, for the claim. -/
theorem fnPseudo_holds : Rows.FnPseudoSaid := fnPseudo.proved
end Go.Proofs.YtcdkepbgjgcjfaaGreat
