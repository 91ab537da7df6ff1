/-
  No cell of these rows narrows 'for every input' (looked for: loops, veiled, ifaces, maps, wideKeys, modest, calm, conditions, laid).
  DERIVED. THE GIVEN ROWS OF THIS SEAT. 6 by the template 'for every input the law returns true; each argument reads behind the call as it read before'; 0 by the template 'total and deterministic' (their statements: YtebaobmmnkebaaaGreatTotals.lean).
  GIVEN WITH THE SEED: the statements are not yours to turn. If you find one false, say at which input.
  Laid BY PROGRAM, IN A SANDBOX (cutbox-rows.mjs): the forced cells as the released guide's own fill.sh prints them over the translation 58dda7e9a6360d5a… (all of the seat's roots in one cut). By AI agents, Wed Nov 11 2026. No macro, syntax, notation, axiom, sorry.
-/
import Derived.Test.YtebaobmmnkebaaaGreatChecked
import GoSem.Claim
import GoSem.ClaimJoined
import GoSem.ClaimMapViews
import Derived.JoinedTies
import Derived.KernelRfl
namespace Go.Proofs.YtebaobmmnkebaaaGreat
/- THE CELL 'sum', in the pinned program and in every row, IS THE sha256 OF THE DUMP (.gsa) THAT YtebaobmmnkebaaaGreatProg.lean LOADS. Nothing in Lean hashes anything: it is a label: what it is worth is what the hold of that sum in a sandbox is worth. -/
noncomputable def Tryz.pinned : Pinned := { name := "ytebaobmmnkebaaagreat", sum := "58dda7e9a6360d5a154db52ba5c08e0a44bca82b19dba8ac60e6452031cf46f4", checked := Tryz.checked }
namespace Rows
def none {H : Type} : Left H := { results := [], args := [] }

/-- 'laws.FnExactTransverseTurn': WHATEVER THE INPUT: true; the input reads as it did. -/
def fnExactTransverseTurnSpec : ChangeSpec := { name := "fnExactTransverseTurn", fn := fun _ => fun
  | [d1, d2] => { results := [.lit (.bool true)], args := [d1, d2] }
  | _ => none }
def fnExactTransverseTurnRow : OpenClaim := { program := "ytebaobmmnkebaaagreat", sum := "58dda7e9a6360d5a154db52ba5c08e0a44bca82b19dba8ac60e6452031cf46f4", func := "loop.example/g00880/laws.FnExactTransverseTurn", spec := "fnExactTransverseTurn", inPlace := ["math/bits.Sub64", "math/bits.Add64"], unfollowed := true, recurses := true, named := ["math/bits.divideError", "math/bits.overflowError"], apart := false }
def FnExactTransverseTurnSaid : Prop := fnExactTransverseTurnRow.holds Tryz.pinned (OpenSpec.ofChange fnExactTransverseTurnSpec)

/-- ITS FALSE NEIGHBOUR: 'it returns false'. Refute it at one input. -/
def fnExactTransverseTurnWrong : ChangeSpec := { name := "fnExactTransverseTurn", fn := fun _ => fun
  | [d1, d2] => { results := [.lit (.bool false)], args := [d1, d2] }
  | _ => none }
def FnExactTransverseTurnWrongFalsely : Prop := fnExactTransverseTurnRow.holds Tryz.pinned (OpenSpec.ofChange fnExactTransverseTurnWrong)

/-- 'laws.FnExactOnMap': WHATEVER THE INPUT: true; the input reads as it did. -/
def fnExactOnMapSpec : ChangeSpec := { name := "fnExactOnMap", fn := fun _ => fun
  | [d1, d2] => { results := [.lit (.bool true)], args := [d1, d2] }
  | _ => none }
def fnExactOnMapRow : OpenClaim := { program := "ytebaobmmnkebaaagreat", sum := "58dda7e9a6360d5a154db52ba5c08e0a44bca82b19dba8ac60e6452031cf46f4", func := "loop.example/g00880/laws.FnExactOnMap", spec := "fnExactOnMap", inPlace := ["math/bits.Sub64", "math/bits.Add64"], unfollowed := true, recurses := true, named := ["math/bits.divideError", "math/bits.overflowError"], apart := false }
def FnExactOnMapSaid : Prop := fnExactOnMapRow.holds Tryz.pinned (OpenSpec.ofChange fnExactOnMapSpec)

/-- ITS FALSE NEIGHBOUR: 'it returns false'. Refute it at one input. -/
def fnExactOnMapWrong : ChangeSpec := { name := "fnExactOnMap", fn := fun _ => fun
  | [d1, d2] => { results := [.lit (.bool false)], args := [d1, d2] }
  | _ => none }
def FnExactOnMapWrongFalsely : Prop := fnExactOnMapRow.holds Tryz.pinned (OpenSpec.ofChange fnExactOnMapWrong)

/-- 'laws.FnExactGlobalOf': WHATEVER THE INPUT: true; the input reads as it did. -/
def fnExactGlobalOfSpec : ChangeSpec := { name := "fnExactGlobalOf", fn := fun _ => fun
  | [d1, d2] => { results := [.lit (.bool true)], args := [d1, d2] }
  | _ => none }
def fnExactGlobalOfRow : OpenClaim := { program := "ytebaobmmnkebaaagreat", sum := "58dda7e9a6360d5a154db52ba5c08e0a44bca82b19dba8ac60e6452031cf46f4", func := "loop.example/g00880/laws.FnExactGlobalOf", spec := "fnExactGlobalOf", inPlace := ["math/bits.Sub64", "math/bits.Add64"], unfollowed := true, recurses := true, named := ["math/bits.divideError", "math/bits.overflowError"], apart := false }
def FnExactGlobalOfSaid : Prop := fnExactGlobalOfRow.holds Tryz.pinned (OpenSpec.ofChange fnExactGlobalOfSpec)

/-- ITS FALSE NEIGHBOUR: 'it returns false'. Refute it at one input. -/
def fnExactGlobalOfWrong : ChangeSpec := { name := "fnExactGlobalOf", fn := fun _ => fun
  | [d1, d2] => { results := [.lit (.bool false)], args := [d1, d2] }
  | _ => none }
def FnExactGlobalOfWrongFalsely : Prop := fnExactGlobalOfRow.holds Tryz.pinned (OpenSpec.ofChange fnExactGlobalOfWrong)

/-- 'laws.FnExactConicCone': WHATEVER THE INPUT: true; the input reads as it did. -/
def fnExactConicConeSpec : ChangeSpec := { name := "fnExactConicCone", fn := fun _ => fun
  | [d] => { results := [.lit (.bool true)], args := [d] }
  | _ => none }
def fnExactConicConeRow : OpenClaim := { program := "ytebaobmmnkebaaagreat", sum := "58dda7e9a6360d5a154db52ba5c08e0a44bca82b19dba8ac60e6452031cf46f4", func := "loop.example/g00880/laws.FnExactConicCone", spec := "fnExactConicCone", inPlace := ["math/bits.Sub64", "math/bits.Add64"], unfollowed := true, recurses := true, named := ["math/bits.divideError", "math/bits.overflowError"], apart := false }
def FnExactConicConeSaid : Prop := fnExactConicConeRow.holds Tryz.pinned (OpenSpec.ofChange fnExactConicConeSpec)

/-- ITS FALSE NEIGHBOUR: 'it returns false'. Refute it at one input. -/
def fnExactConicConeWrong : ChangeSpec := { name := "fnExactConicCone", fn := fun _ => fun
  | [d] => { results := [.lit (.bool false)], args := [d] }
  | _ => none }
def FnExactConicConeWrongFalsely : Prop := fnExactConicConeRow.holds Tryz.pinned (OpenSpec.ofChange fnExactConicConeWrong)

/-- 'laws.FnExactConicConstant': WHATEVER THE INPUT: true; the input reads as it did. -/
def fnExactConicConstantSpec : ChangeSpec := { name := "fnExactConicConstant", fn := fun _ => fun
  | [d] => { results := [.lit (.bool true)], args := [d] }
  | _ => none }
def fnExactConicConstantRow : OpenClaim := { program := "ytebaobmmnkebaaagreat", sum := "58dda7e9a6360d5a154db52ba5c08e0a44bca82b19dba8ac60e6452031cf46f4", func := "loop.example/g00880/laws.FnExactConicConstant", spec := "fnExactConicConstant", inPlace := ["math/bits.Sub64", "math/bits.Add64"], unfollowed := true, recurses := true, named := ["math/bits.divideError", "math/bits.overflowError"], apart := false }
def FnExactConicConstantSaid : Prop := fnExactConicConstantRow.holds Tryz.pinned (OpenSpec.ofChange fnExactConicConstantSpec)

/-- ITS FALSE NEIGHBOUR: 'it returns false'. Refute it at one input. -/
def fnExactConicConstantWrong : ChangeSpec := { name := "fnExactConicConstant", fn := fun _ => fun
  | [d] => { results := [.lit (.bool false)], args := [d] }
  | _ => none }
def FnExactConicConstantWrongFalsely : Prop := fnExactConicConstantRow.holds Tryz.pinned (OpenSpec.ofChange fnExactConicConstantWrong)

/-- 'laws.FnExactPseudoInverse': WHATEVER THE INPUT: true; the input reads as it did. -/
def fnExactPseudoInverseSpec : ChangeSpec := { name := "fnExactPseudoInverse", fn := fun _ => fun
  | [d1, d2] => { results := [.lit (.bool true)], args := [d1, d2] }
  | _ => none }
def fnExactPseudoInverseRow : OpenClaim := { program := "ytebaobmmnkebaaagreat", sum := "58dda7e9a6360d5a154db52ba5c08e0a44bca82b19dba8ac60e6452031cf46f4", func := "loop.example/g00880/laws.FnExactPseudoInverse", spec := "fnExactPseudoInverse", inPlace := ["math/bits.Sub64", "math/bits.Add64"], unfollowed := true, recurses := true, named := ["math/bits.divideError", "math/bits.overflowError"], apart := false }
def FnExactPseudoInverseSaid : Prop := fnExactPseudoInverseRow.holds Tryz.pinned (OpenSpec.ofChange fnExactPseudoInverseSpec)

/-- ITS FALSE NEIGHBOUR: 'it returns false'. Refute it at one input. -/
def fnExactPseudoInverseWrong : ChangeSpec := { name := "fnExactPseudoInverse", fn := fun _ => fun
  | [d1, d2] => { results := [.lit (.bool false)], args := [d1, d2] }
  | _ => none }
def FnExactPseudoInverseWrongFalsely : Prop := fnExactPseudoInverseRow.holds Tryz.pinned (OpenSpec.ofChange fnExactPseudoInverseWrong)

/- THE SECOND FORM. 'bulk': how many values and letters a reading holds, each counted each time it is reached (what is shared counts as often as it is met; a slice's spare places count too). A statement '..UptoSaid' is the law's where the arguments, and the package variables that the reading takes, are together of bulk at most 1048576: NARROWER than '..Said'. Prove '..Said' where nothing that the law and all that it calls make is longer than what came in: it says more and counts as full. Else prove '..UptoSaid'. A law counts once. -/
mutual
def uptoBulk {H : Type} : DataW H → Nat
  | .lit (.string bytes) => bytes.length + 1
  | .lit _ => 1
  | .nil => 1
  | .ptr d => uptoBulk d + 1
  | .slice elems spare => uptoBulkAll elems + uptoBulkAll spare + 1
  | .agg parts => uptoBulkAll parts + 1
  | .iface _ d => uptoBulk d + 1
  | .map entries => uptoBulkEntries entries + 1
  | .held _ => 1
def uptoBulkAll {H : Type} : List (DataW H) → Nat
  | [] => 0
  | d :: r => uptoBulk d + uptoBulkAll r
def uptoBulkEntries {H : Type} : List (Lit × DataW H) → Nat
  | [] => 0
  | x :: r => uptoBulkEntry x + uptoBulkEntries r
def uptoBulkEntry {H : Type} : Lit × DataW H → Nat
  | (.string bytes, d) => bytes.length + uptoBulk d + 1
  | (_, d) => uptoBulk d + 1
 end
def uptoSmall : (H : Type) → List (DataW H) → Bool := fun _ ds => decide (uptoBulkAll ds ≤ 1048576)
def OpenSpec.upto (s : _root_.Go.ChangeSpec) : _root_.Go.OpenSpec := { _root_.Go.OpenSpec.ofChange s with cond := some uptoSmall }

/-- 'laws.FnExactTransverseTurn', WHERE WHAT IT READS IS OF BULK AT MOST 1048576: true; the input reads as it did. -/
def fnExactTransverseTurnUptoRow : OpenClaim := { program := "ytebaobmmnkebaaagreat", sum := "58dda7e9a6360d5a154db52ba5c08e0a44bca82b19dba8ac60e6452031cf46f4", func := "loop.example/g00880/laws.FnExactTransverseTurn", spec := "fnExactTransverseTurn", inPlace := ["math/bits.Sub64", "math/bits.Add64"], unfollowed := true, recurses := true, named := ["math/bits.divideError", "math/bits.overflowError"], apart := false, narrowed := true }
def FnExactTransverseTurnUptoSaid : Prop := fnExactTransverseTurnUptoRow.holds Tryz.pinned (OpenSpec.upto fnExactTransverseTurnSpec)

/-- 'laws.FnExactOnMap', WHERE WHAT IT READS IS OF BULK AT MOST 1048576: true; the input reads as it did. -/
def fnExactOnMapUptoRow : OpenClaim := { program := "ytebaobmmnkebaaagreat", sum := "58dda7e9a6360d5a154db52ba5c08e0a44bca82b19dba8ac60e6452031cf46f4", func := "loop.example/g00880/laws.FnExactOnMap", spec := "fnExactOnMap", inPlace := ["math/bits.Sub64", "math/bits.Add64"], unfollowed := true, recurses := true, named := ["math/bits.divideError", "math/bits.overflowError"], apart := false, narrowed := true }
def FnExactOnMapUptoSaid : Prop := fnExactOnMapUptoRow.holds Tryz.pinned (OpenSpec.upto fnExactOnMapSpec)

/-- 'laws.FnExactGlobalOf', WHERE WHAT IT READS IS OF BULK AT MOST 1048576: true; the input reads as it did. -/
def fnExactGlobalOfUptoRow : OpenClaim := { program := "ytebaobmmnkebaaagreat", sum := "58dda7e9a6360d5a154db52ba5c08e0a44bca82b19dba8ac60e6452031cf46f4", func := "loop.example/g00880/laws.FnExactGlobalOf", spec := "fnExactGlobalOf", inPlace := ["math/bits.Sub64", "math/bits.Add64"], unfollowed := true, recurses := true, named := ["math/bits.divideError", "math/bits.overflowError"], apart := false, narrowed := true }
def FnExactGlobalOfUptoSaid : Prop := fnExactGlobalOfUptoRow.holds Tryz.pinned (OpenSpec.upto fnExactGlobalOfSpec)

/-- 'laws.FnExactConicCone', WHERE WHAT IT READS IS OF BULK AT MOST 1048576: true; the input reads as it did. -/
def fnExactConicConeUptoRow : OpenClaim := { program := "ytebaobmmnkebaaagreat", sum := "58dda7e9a6360d5a154db52ba5c08e0a44bca82b19dba8ac60e6452031cf46f4", func := "loop.example/g00880/laws.FnExactConicCone", spec := "fnExactConicCone", inPlace := ["math/bits.Sub64", "math/bits.Add64"], unfollowed := true, recurses := true, named := ["math/bits.divideError", "math/bits.overflowError"], apart := false, narrowed := true }
def FnExactConicConeUptoSaid : Prop := fnExactConicConeUptoRow.holds Tryz.pinned (OpenSpec.upto fnExactConicConeSpec)

/-- 'laws.FnExactConicConstant', WHERE WHAT IT READS IS OF BULK AT MOST 1048576: true; the input reads as it did. -/
def fnExactConicConstantUptoRow : OpenClaim := { program := "ytebaobmmnkebaaagreat", sum := "58dda7e9a6360d5a154db52ba5c08e0a44bca82b19dba8ac60e6452031cf46f4", func := "loop.example/g00880/laws.FnExactConicConstant", spec := "fnExactConicConstant", inPlace := ["math/bits.Sub64", "math/bits.Add64"], unfollowed := true, recurses := true, named := ["math/bits.divideError", "math/bits.overflowError"], apart := false, narrowed := true }
def FnExactConicConstantUptoSaid : Prop := fnExactConicConstantUptoRow.holds Tryz.pinned (OpenSpec.upto fnExactConicConstantSpec)

/-- 'laws.FnExactPseudoInverse', WHERE WHAT IT READS IS OF BULK AT MOST 1048576: true; the input reads as it did. -/
def fnExactPseudoInverseUptoRow : OpenClaim := { program := "ytebaobmmnkebaaagreat", sum := "58dda7e9a6360d5a154db52ba5c08e0a44bca82b19dba8ac60e6452031cf46f4", func := "loop.example/g00880/laws.FnExactPseudoInverse", spec := "fnExactPseudoInverse", inPlace := ["math/bits.Sub64", "math/bits.Add64"], unfollowed := true, recurses := true, named := ["math/bits.divideError", "math/bits.overflowError"], apart := false, narrowed := true }
def FnExactPseudoInverseUptoSaid : Prop := fnExactPseudoInverseUptoRow.holds Tryz.pinned (OpenSpec.upto fnExactPseudoInverseSpec)

end Rows
end Go.Proofs.YtebaobmmnkebaaaGreat
