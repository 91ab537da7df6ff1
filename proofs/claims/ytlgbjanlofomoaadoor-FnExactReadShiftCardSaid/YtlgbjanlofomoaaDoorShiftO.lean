/- The reference's l23Ok and l23Numbers: from the own machine into the kit's words. -/
import Derived.Test.YtlgbjanlofomoaaDoorK0
set_option linter.unusedVariables false
set_option linter.unusedSimpArgs false
namespace Go.Proofs.YtlgbjanlofomoaaDoor.Abs
open Go Go.RowKit

/-- A shift's cells. -/
def shC (b0 : Sf) : Array Value := #[.int .i64 b0.tx.val, .int .i64 b0.ty.val, .int .i64 b0.tz.val, .int .i64 b0.rx.val, .int .i64 b0.ry.val, .int .i64 b0.rz.val, .int .i64 b0.sc.val]

theorem shC_flat (b0 : Sf) : (shC b0).toList.all flat1 = true := rfl

theorem ra_refl (m : List Nat) (b0 : Sf) : RA m (shC b0) (shC b0) := ⟨rfl, fun i v v' h1 h2 => by
  rw [h1] at h2
  cases h2
  refine VR.refl_of_flat m ?_
  have hm := List.mem_of_getElem? (by rw [Array.getElem?_toList]; exact h1 : (shC b0).toList[i]? = some v)
  have : (shC b0).toList.all flat = true := rfl
  exact List.all_eq_true.1 this v hm⟩

theorem ra_eq {m : List Nat} {b0 : Sf} {cs : Array Value} (h : RA m (shC b0) cs) : cs = shC b0 := by
  refine Array.ext h.size.symm fun i h1 h2 => ?_
  have hv := h.at_ i _ _ (Array.getElem?_eq_getElem h2) (Array.getElem?_eq_getElem h1)
  refine hv.eq_of_flat ?_
  have : (shC b0).toList.all flat = true := rfl
  exact List.all_eq_true.1 this _ (by simp)

theorem rh_shift {b0 : Sf} {w : World} {gb : Nat} (h : w.heap[gb]? = some (.cells (shC b0) 25 (0, 0))) : RH [gb] [(shC b0, 25)] w :=
  ⟨rfl, by simp, fun i j b hj hb => by
    cases i with
    | zero =>
      cases hj; cases hb
      exact ⟨shC b0, by rw [show ((shC b0, 25) : Blk).2 = 25 from rfl, frOf_lit (show 25 < 1000000 by decide)]; exact h, ra_refl _ _⟩
    | succ i => simp at hj⟩

theorem ra_ptr (gb : Nat) : RA [gb] #[.pointer (some ⟨0, 0, none⟩)] #[.pointer (some ⟨gb, 0, none⟩)] := ⟨rfl, fun i v v' h1 h2 => by
  cases i with
  | zero => cases h1; cases h2; exact .ptr _ _ _ _ rfl
  | succ i => simp at h1⟩

theorem callsH {H : List Blk} {args args' : Array Value} {v : Value} {m : List Nat} {w : World} {P : Program} {f : FuncId} (h : Fun P f H args v H) (hv : flat v = true) (ha : RA m args args') (hH : RH m H w) :
    Calls P f args' w fun e w' => e = .returned v ∧ Below w.heap.size w w' := by
  refine (h.2 m args' w ha hH).mono ?_
  rintro e w' ⟨v', n, rfl, h1, h2, h3, h4⟩
  have hn : n = [] := by
    have e1 := h2.len
    have e2 := hH.len
    rw [List.length_append] at e1
    exact List.length_eq_zero_iff.1 (by omega)
  subst hn
  rw [List.append_nil] at h2
  exact ⟨by rw [h1.eq_of_flat hv], hH.below_of h2 h4⟩

theorem l23Ok_calls (b0 : Sf) (w : World) (gb : Nat) (h : w.heap[gb]? = some (.cells (shC b0) 25 (0, 0))) :
    Calls Tryd.prog 11 #[.pointer (some ⟨gb, 0, none⟩)] w fun e w' => e = .returned (.bool (F_spec_l23Ok__pSf b0)) ∧ Below w.heap.size w w' :=
  callsH (ok_spec_l23Ok__pSf b0) rfl (ra_ptr gb) (rh_shift h)

theorem ok_spec_l23Numbers (b0 : Sf) : FunR Tryd.prog 13 [(shC b0, 25)] #[.pointer (some ⟨0, 0, none⟩)] fun v G => v = .slice (some ⟨1, 0, none⟩) 7 7 ∧ G = [(shC b0, 25), (shC b0, 2)] :=
  FunR.of 400 E_ok mixed Tryd.func13 (by kernel_rfl) (Run.r (v := .slice (some ⟨1, 0, none⟩) 7 7) (by kernel_rfl) ⟨rfl, by kernel_rfl⟩)

theorem l23Numbers_calls (b0 : Sf) (w : World) (gb : Nat) (h : w.heap[gb]? = some (.cells (shC b0) 25 (0, 0))) :
    Calls Tryd.prog 13 #[.pointer (some ⟨gb, 0, none⟩)] w fun e w' => ∃ g, e = .returned (.slice (some ⟨g, 0, none⟩) 7 7) ∧ w.heap.size ≤ g ∧ w'.heap[g]? = some (.cells (shC b0) 2 (0, 0)) ∧ Below w.heap.size w w' := by
  refine ((ok_spec_l23Numbers b0).2 [gb] _ w (ra_ptr gb) (rh_shift h)).mono ?_
  rintro e w' ⟨v, v', n, G, rfl, h1, h2, h3, h4, rfl, rfl⟩
  have hl := h2.len
  simp only [List.length_append, List.length_cons, List.length_nil] at hl
  obtain ⟨g, rfl⟩ : ∃ g, n = [g] := by
    match n, hl with
    | [g], _ => exact ⟨g, rfl⟩
  have hg := h3 g (by simp)
  obtain ⟨c1, e1, r1⟩ := h2.blk 0 gb _ rfl rfl
  obtain ⟨c2, e2, r2⟩ := h2.blk 1 g _ rfl rfl
  have q1 := ra_eq r1
  have q2 := ra_eq r2
  subst q1 q2
  rw [show ((shC b0, 25) : Blk).2 = 25 from rfl, frOf_lit (show 25 < 1000000 by decide)] at e1
  rw [show ((shC b0, 2) : Blk).2 = 2 from rfl, frOf_lit (show 2 < 1000000 by decide)] at e2
  refine ⟨g, ?_, hg, e2, h4.os, h4.tape, h4.output, h4.size, fun k hk => ?_⟩
  · cases h1 with
    | pl _ h' => simp [flat1] at h'
    | slice _ j _ _ _ _ hj =>
      have : j = g := by simpa using hj.symm
      rw [this]
  · by_cases q : k = gb
    · subst q; rw [e1, h]
    · exact h4.block k hk (by simp [q])

end Go.Proofs.YtlgbjanlofomoaaDoor.Abs
