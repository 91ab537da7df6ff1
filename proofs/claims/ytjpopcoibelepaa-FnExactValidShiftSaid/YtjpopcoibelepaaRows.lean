/-
  No cell of these rows narrows 'for every input' (looked for: loops, veiled, ifaces, maps, wideKeys, modest, calm, conditions, laid).
  DERIVED. THE GIVEN ROWS OF THIS SEAT. 9 by the template 'for every input the law returns true; each argument reads behind the call as it read before'; 0 by the template 'total and deterministic' (their statements: YtjpopcoibelepaaTotals.lean).
  GIVEN WITH THE SEED: the statements are not yours to turn. If you find one false, say at which input.
  Laid BY PROGRAM, IN A SANDBOX (cutbox-rows.mjs): the forced cells as the released guide's own fill.sh prints them over the translation afd9fcebe35c5d07… (all of the seat's roots in one cut). By AI agents, Wed Nov 11 2026. No macro, syntax, notation, axiom, sorry.
-/
import Derived.Test.YtjpopcoibelepaaChecked
import GoSem.Claim
import GoSem.ClaimJoined
import GoSem.ClaimMapViews
import Derived.JoinedTies
import Derived.KernelRfl
namespace Go.Proofs.Ytjpopcoibelepaa
/- THE CELL 'sum', in the pinned program and in every row, IS THE sha256 OF THE DUMP (.gsa) THAT YtjpopcoibelepaaProg.lean LOADS. Nothing in Lean hashes anything: it is a label: what it is worth is what the hold of that sum in a sandbox is worth. -/
noncomputable def Try.pinned : Pinned := { name := "ytjpopcoibelepaa", sum := "afd9fcebe35c5d0727f6aedff69414afcc498193167b519bb416d05828b3c3ba", checked := Try.checked }
namespace Rows
def none {H : Type} : Left H := { results := [], args := [] }

/-- 'laws.FnExactZoneMiddle': WHATEVER THE INPUT: true; the input reads as it did. -/
def fnExactZoneMiddleSpec : ChangeSpec := { name := "fnExactZoneMiddle", fn := fun _ => fun
  | [d] => { results := [.lit (.bool true)], args := [d] }
  | _ => none }
def fnExactZoneMiddleRow : OpenClaim := { program := "ytjpopcoibelepaa", sum := "afd9fcebe35c5d0727f6aedff69414afcc498193167b519bb416d05828b3c3ba", func := "loop.example/g00880/laws.FnExactZoneMiddle", spec := "fnExactZoneMiddle", apart := false }
def FnExactZoneMiddleSaid : Prop := fnExactZoneMiddleRow.holds Try.pinned (OpenSpec.ofChange fnExactZoneMiddleSpec)

/-- ITS FALSE NEIGHBOUR: 'it returns false'. Refute it at one input. -/
def fnExactZoneMiddleWrong : ChangeSpec := { name := "fnExactZoneMiddle", fn := fun _ => fun
  | [d] => { results := [.lit (.bool false)], args := [d] }
  | _ => none }
def FnExactZoneMiddleWrongFalsely : Prop := fnExactZoneMiddleRow.holds Try.pinned (OpenSpec.ofChange fnExactZoneMiddleWrong)

/-- 'laws.FnExactIsConformal': WHATEVER THE INPUT: true; the input reads as it did. -/
def fnExactIsConformalSpec : ChangeSpec := { name := "fnExactIsConformal", fn := fun _ => fun
  | [d] => { results := [.lit (.bool true)], args := [d] }
  | _ => none }
def fnExactIsConformalRow : OpenClaim := { program := "ytjpopcoibelepaa", sum := "afd9fcebe35c5d0727f6aedff69414afcc498193167b519bb416d05828b3c3ba", func := "loop.example/g00880/laws.FnExactIsConformal", spec := "fnExactIsConformal", apart := false }
def FnExactIsConformalSaid : Prop := fnExactIsConformalRow.holds Try.pinned (OpenSpec.ofChange fnExactIsConformalSpec)

/-- ITS FALSE NEIGHBOUR: 'it returns false'. Refute it at one input. -/
def fnExactIsConformalWrong : ChangeSpec := { name := "fnExactIsConformal", fn := fun _ => fun
  | [d] => { results := [.lit (.bool false)], args := [d] }
  | _ => none }
def FnExactIsConformalWrongFalsely : Prop := fnExactIsConformalRow.holds Try.pinned (OpenSpec.ofChange fnExactIsConformalWrong)

/-- 'laws.FnExactIsEqualArea': WHATEVER THE INPUT: true; the input reads as it did. -/
def fnExactIsEqualAreaSpec : ChangeSpec := { name := "fnExactIsEqualArea", fn := fun _ => fun
  | [d] => { results := [.lit (.bool true)], args := [d] }
  | _ => none }
def fnExactIsEqualAreaRow : OpenClaim := { program := "ytjpopcoibelepaa", sum := "afd9fcebe35c5d0727f6aedff69414afcc498193167b519bb416d05828b3c3ba", func := "loop.example/g00880/laws.FnExactIsEqualArea", spec := "fnExactIsEqualArea", apart := false }
def FnExactIsEqualAreaSaid : Prop := fnExactIsEqualAreaRow.holds Try.pinned (OpenSpec.ofChange fnExactIsEqualAreaSpec)

/-- ITS FALSE NEIGHBOUR: 'it returns false'. Refute it at one input. -/
def fnExactIsEqualAreaWrong : ChangeSpec := { name := "fnExactIsEqualArea", fn := fun _ => fun
  | [d] => { results := [.lit (.bool false)], args := [d] }
  | _ => none }
def FnExactIsEqualAreaWrongFalsely : Prop := fnExactIsEqualAreaRow.holds Try.pinned (OpenSpec.ofChange fnExactIsEqualAreaWrong)

/-- 'laws.FnExactValidShift': WHATEVER THE INPUT: true; the input reads as it did. -/
def fnExactValidShiftSpec : ChangeSpec := { name := "fnExactValidShift", fn := fun _ => fun
  | [d] => { results := [.lit (.bool true)], args := [d] }
  | _ => none }
def fnExactValidShiftRow : OpenClaim := { program := "ytjpopcoibelepaa", sum := "afd9fcebe35c5d0727f6aedff69414afcc498193167b519bb416d05828b3c3ba", func := "loop.example/g00880/laws.FnExactValidShift", spec := "fnExactValidShift", apart := false }
def FnExactValidShiftSaid : Prop := fnExactValidShiftRow.holds Try.pinned (OpenSpec.ofChange fnExactValidShiftSpec)

/-- ITS FALSE NEIGHBOUR: 'it returns false'. Refute it at one input. -/
def fnExactValidShiftWrong : ChangeSpec := { name := "fnExactValidShift", fn := fun _ => fun
  | [d] => { results := [.lit (.bool false)], args := [d] }
  | _ => none }
def FnExactValidShiftWrongFalsely : Prop := fnExactValidShiftRow.holds Try.pinned (OpenSpec.ofChange fnExactValidShiftWrong)

/-- 'laws.FnExactFamilyOf': WHATEVER THE INPUT: true; the input reads as it did. -/
def fnExactFamilyOfSpec : ChangeSpec := { name := "fnExactFamilyOf", fn := fun _ => fun
  | [d] => { results := [.lit (.bool true)], args := [d] }
  | _ => none }
def fnExactFamilyOfRow : OpenClaim := { program := "ytjpopcoibelepaa", sum := "afd9fcebe35c5d0727f6aedff69414afcc498193167b519bb416d05828b3c3ba", func := "loop.example/g00880/laws.FnExactFamilyOf", spec := "fnExactFamilyOf", apart := false }
def FnExactFamilyOfSaid : Prop := fnExactFamilyOfRow.holds Try.pinned (OpenSpec.ofChange fnExactFamilyOfSpec)

/-- ITS FALSE NEIGHBOUR: 'it returns false'. Refute it at one input. -/
def fnExactFamilyOfWrong : ChangeSpec := { name := "fnExactFamilyOf", fn := fun _ => fun
  | [d] => { results := [.lit (.bool false)], args := [d] }
  | _ => none }
def FnExactFamilyOfWrongFalsely : Prop := fnExactFamilyOfRow.holds Try.pinned (OpenSpec.ofChange fnExactFamilyOfWrong)

/-- 'laws.FnExactZoneOf': WHATEVER THE INPUT: true; the input reads as it did. -/
def fnExactZoneOfSpec : ChangeSpec := { name := "fnExactZoneOf", fn := fun _ => fun
  | [d] => { results := [.lit (.bool true)], args := [d] }
  | _ => none }
def fnExactZoneOfRow : OpenClaim := { program := "ytjpopcoibelepaa", sum := "afd9fcebe35c5d0727f6aedff69414afcc498193167b519bb416d05828b3c3ba", func := "loop.example/g00880/laws.FnExactZoneOf", spec := "fnExactZoneOf", apart := false }
def FnExactZoneOfSaid : Prop := fnExactZoneOfRow.holds Try.pinned (OpenSpec.ofChange fnExactZoneOfSpec)

/-- ITS FALSE NEIGHBOUR: 'it returns false'. Refute it at one input. -/
def fnExactZoneOfWrong : ChangeSpec := { name := "fnExactZoneOf", fn := fun _ => fun
  | [d] => { results := [.lit (.bool false)], args := [d] }
  | _ => none }
def FnExactZoneOfWrongFalsely : Prop := fnExactZoneOfRow.holds Try.pinned (OpenSpec.ofChange fnExactZoneOfWrong)

/-- 'laws.FnExactZoneProjection': WHATEVER THE INPUT: true; the input reads as it did. -/
def fnExactZoneProjectionSpec : ChangeSpec := { name := "fnExactZoneProjection", fn := fun _ => fun
  | [d] => { results := [.lit (.bool true)], args := [d] }
  | _ => none }
def fnExactZoneProjectionRow : OpenClaim := { program := "ytjpopcoibelepaa", sum := "afd9fcebe35c5d0727f6aedff69414afcc498193167b519bb416d05828b3c3ba", func := "loop.example/g00880/laws.FnExactZoneProjection", spec := "fnExactZoneProjection", apart := false }
def FnExactZoneProjectionSaid : Prop := fnExactZoneProjectionRow.holds Try.pinned (OpenSpec.ofChange fnExactZoneProjectionSpec)

/-- ITS FALSE NEIGHBOUR: 'it returns false'. Refute it at one input. -/
def fnExactZoneProjectionWrong : ChangeSpec := { name := "fnExactZoneProjection", fn := fun _ => fun
  | [d] => { results := [.lit (.bool false)], args := [d] }
  | _ => none }
def FnExactZoneProjectionWrongFalsely : Prop := fnExactZoneProjectionRow.holds Try.pinned (OpenSpec.ofChange fnExactZoneProjectionWrong)

/-- 'laws.FnExactOppositeShift': WHATEVER THE INPUT: true; the input reads as it did. -/
def fnExactOppositeShiftSpec : ChangeSpec := { name := "fnExactOppositeShift", fn := fun _ => fun
  | [d] => { results := [.lit (.bool true)], args := [d] }
  | _ => none }
def fnExactOppositeShiftRow : OpenClaim := { program := "ytjpopcoibelepaa", sum := "afd9fcebe35c5d0727f6aedff69414afcc498193167b519bb416d05828b3c3ba", func := "loop.example/g00880/laws.FnExactOppositeShift", spec := "fnExactOppositeShift", apart := false }
def FnExactOppositeShiftSaid : Prop := fnExactOppositeShiftRow.holds Try.pinned (OpenSpec.ofChange fnExactOppositeShiftSpec)

/-- ITS FALSE NEIGHBOUR: 'it returns false'. Refute it at one input. -/
def fnExactOppositeShiftWrong : ChangeSpec := { name := "fnExactOppositeShift", fn := fun _ => fun
  | [d] => { results := [.lit (.bool false)], args := [d] }
  | _ => none }
def FnExactOppositeShiftWrongFalsely : Prop := fnExactOppositeShiftRow.holds Try.pinned (OpenSpec.ofChange fnExactOppositeShiftWrong)

/-- 'laws.FnExactValidRing': WHATEVER THE INPUT: true; the input reads as it did. -/
def fnExactValidRingSpec : ChangeSpec := { name := "fnExactValidRing", fn := fun _ => fun
  | [d] => { results := [.lit (.bool true)], args := [d] }
  | _ => none }
def fnExactValidRingRow : OpenClaim := { program := "ytjpopcoibelepaa", sum := "afd9fcebe35c5d0727f6aedff69414afcc498193167b519bb416d05828b3c3ba", func := "loop.example/g00880/laws.FnExactValidRing", spec := "fnExactValidRing", apart := false }
def FnExactValidRingSaid : Prop := fnExactValidRingRow.holds Try.pinned (OpenSpec.ofChange fnExactValidRingSpec)

/-- ITS FALSE NEIGHBOUR: 'it returns false'. Refute it at one input. -/
def fnExactValidRingWrong : ChangeSpec := { name := "fnExactValidRing", fn := fun _ => fun
  | [d] => { results := [.lit (.bool false)], args := [d] }
  | _ => none }
def FnExactValidRingWrongFalsely : Prop := fnExactValidRingRow.holds Try.pinned (OpenSpec.ofChange fnExactValidRingWrong)

/- THE SECOND FORM. 'bulk': how many values and letters a reading holds, each counted each time it is reached (what is shared counts as often as it is met; a slice's spare places count too). A statement '..UptoSaid' is the law's where the arguments, and the package variables that the reading takes, are together of bulk at most 1048576: NARROWER than '..Said'. Prove '..Said' where nothing that the law and all that it calls make is longer than what came in: it says more and counts as full. Else prove '..UptoSaid'. A law counts once. -/
mutual
def uptoBulk {H : Type} : DataW H → Nat
  | .lit (.string bytes) => bytes.length + 1
  | .lit _ => 1
  | .nil => 1
  | .ptr d => uptoBulk d + 1
  | .slice elems spare => uptoBulkAll elems + uptoBulkAll spare + 1
  | .agg parts => uptoBulkAll parts + 1
  | .iface _ d => uptoBulk d + 1
  | .map entries => uptoBulkEntries entries + 1
  | .held _ => 1
def uptoBulkAll {H : Type} : List (DataW H) → Nat
  | [] => 0
  | d :: r => uptoBulk d + uptoBulkAll r
def uptoBulkEntries {H : Type} : List (Lit × DataW H) → Nat
  | [] => 0
  | x :: r => uptoBulkEntry x + uptoBulkEntries r
def uptoBulkEntry {H : Type} : Lit × DataW H → Nat
  | (.string bytes, d) => bytes.length + uptoBulk d + 1
  | (_, d) => uptoBulk d + 1
 end
def uptoSmall : (H : Type) → List (DataW H) → Bool := fun _ ds => decide (uptoBulkAll ds ≤ 1048576)
def OpenSpec.upto (s : _root_.Go.ChangeSpec) : _root_.Go.OpenSpec := { _root_.Go.OpenSpec.ofChange s with cond := some uptoSmall }

/-- 'laws.FnExactZoneMiddle', WHERE WHAT IT READS IS OF BULK AT MOST 1048576: true; the input reads as it did. -/
def fnExactZoneMiddleUptoRow : OpenClaim := { program := "ytjpopcoibelepaa", sum := "afd9fcebe35c5d0727f6aedff69414afcc498193167b519bb416d05828b3c3ba", func := "loop.example/g00880/laws.FnExactZoneMiddle", spec := "fnExactZoneMiddle", apart := false, narrowed := true }
def FnExactZoneMiddleUptoSaid : Prop := fnExactZoneMiddleUptoRow.holds Try.pinned (OpenSpec.upto fnExactZoneMiddleSpec)

/-- 'laws.FnExactIsConformal', WHERE WHAT IT READS IS OF BULK AT MOST 1048576: true; the input reads as it did. -/
def fnExactIsConformalUptoRow : OpenClaim := { program := "ytjpopcoibelepaa", sum := "afd9fcebe35c5d0727f6aedff69414afcc498193167b519bb416d05828b3c3ba", func := "loop.example/g00880/laws.FnExactIsConformal", spec := "fnExactIsConformal", apart := false, narrowed := true }
def FnExactIsConformalUptoSaid : Prop := fnExactIsConformalUptoRow.holds Try.pinned (OpenSpec.upto fnExactIsConformalSpec)

/-- 'laws.FnExactIsEqualArea', WHERE WHAT IT READS IS OF BULK AT MOST 1048576: true; the input reads as it did. -/
def fnExactIsEqualAreaUptoRow : OpenClaim := { program := "ytjpopcoibelepaa", sum := "afd9fcebe35c5d0727f6aedff69414afcc498193167b519bb416d05828b3c3ba", func := "loop.example/g00880/laws.FnExactIsEqualArea", spec := "fnExactIsEqualArea", apart := false, narrowed := true }
def FnExactIsEqualAreaUptoSaid : Prop := fnExactIsEqualAreaUptoRow.holds Try.pinned (OpenSpec.upto fnExactIsEqualAreaSpec)

/-- 'laws.FnExactValidShift', WHERE WHAT IT READS IS OF BULK AT MOST 1048576: true; the input reads as it did. -/
def fnExactValidShiftUptoRow : OpenClaim := { program := "ytjpopcoibelepaa", sum := "afd9fcebe35c5d0727f6aedff69414afcc498193167b519bb416d05828b3c3ba", func := "loop.example/g00880/laws.FnExactValidShift", spec := "fnExactValidShift", apart := false, narrowed := true }
def FnExactValidShiftUptoSaid : Prop := fnExactValidShiftUptoRow.holds Try.pinned (OpenSpec.upto fnExactValidShiftSpec)

/-- 'laws.FnExactFamilyOf', WHERE WHAT IT READS IS OF BULK AT MOST 1048576: true; the input reads as it did. -/
def fnExactFamilyOfUptoRow : OpenClaim := { program := "ytjpopcoibelepaa", sum := "afd9fcebe35c5d0727f6aedff69414afcc498193167b519bb416d05828b3c3ba", func := "loop.example/g00880/laws.FnExactFamilyOf", spec := "fnExactFamilyOf", apart := false, narrowed := true }
def FnExactFamilyOfUptoSaid : Prop := fnExactFamilyOfUptoRow.holds Try.pinned (OpenSpec.upto fnExactFamilyOfSpec)

/-- 'laws.FnExactZoneOf', WHERE WHAT IT READS IS OF BULK AT MOST 1048576: true; the input reads as it did. -/
def fnExactZoneOfUptoRow : OpenClaim := { program := "ytjpopcoibelepaa", sum := "afd9fcebe35c5d0727f6aedff69414afcc498193167b519bb416d05828b3c3ba", func := "loop.example/g00880/laws.FnExactZoneOf", spec := "fnExactZoneOf", apart := false, narrowed := true }
def FnExactZoneOfUptoSaid : Prop := fnExactZoneOfUptoRow.holds Try.pinned (OpenSpec.upto fnExactZoneOfSpec)

/-- 'laws.FnExactZoneProjection', WHERE WHAT IT READS IS OF BULK AT MOST 1048576: true; the input reads as it did. -/
def fnExactZoneProjectionUptoRow : OpenClaim := { program := "ytjpopcoibelepaa", sum := "afd9fcebe35c5d0727f6aedff69414afcc498193167b519bb416d05828b3c3ba", func := "loop.example/g00880/laws.FnExactZoneProjection", spec := "fnExactZoneProjection", apart := false, narrowed := true }
def FnExactZoneProjectionUptoSaid : Prop := fnExactZoneProjectionUptoRow.holds Try.pinned (OpenSpec.upto fnExactZoneProjectionSpec)

/-- 'laws.FnExactOppositeShift', WHERE WHAT IT READS IS OF BULK AT MOST 1048576: true; the input reads as it did. -/
def fnExactOppositeShiftUptoRow : OpenClaim := { program := "ytjpopcoibelepaa", sum := "afd9fcebe35c5d0727f6aedff69414afcc498193167b519bb416d05828b3c3ba", func := "loop.example/g00880/laws.FnExactOppositeShift", spec := "fnExactOppositeShift", apart := false, narrowed := true }
def FnExactOppositeShiftUptoSaid : Prop := fnExactOppositeShiftUptoRow.holds Try.pinned (OpenSpec.upto fnExactOppositeShiftSpec)

/-- 'laws.FnExactValidRing', WHERE WHAT IT READS IS OF BULK AT MOST 1048576: true; the input reads as it did. -/
def fnExactValidRingUptoRow : OpenClaim := { program := "ytjpopcoibelepaa", sum := "afd9fcebe35c5d0727f6aedff69414afcc498193167b519bb416d05828b3c3ba", func := "loop.example/g00880/laws.FnExactValidRing", spec := "fnExactValidRing", apart := false, narrowed := true }
def FnExactValidRingUptoSaid : Prop := fnExactValidRingUptoRow.holds Try.pinned (OpenSpec.upto fnExactValidRingSpec)

end Rows
end Go.Proofs.Ytjpopcoibelepaa
