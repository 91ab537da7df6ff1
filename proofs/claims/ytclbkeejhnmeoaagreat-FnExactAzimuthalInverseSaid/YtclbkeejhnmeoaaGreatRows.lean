/-
  No cell of these rows narrows 'for every input' (looked for: loops, veiled, ifaces, maps, wideKeys, modest, calm, conditions, laid).
  DERIVED. THE GIVEN ROWS OF THIS SEAT. 6 by the template 'for every input the law returns true; each argument reads behind the call as it read before'; 0 by the template 'total and deterministic' (their statements: YtclbkeejhnmeoaaGreatTotals.lean).
  GIVEN WITH THE SEED: the statements are not yours to turn. If you find one false, say at which input.
  Laid BY PROGRAM, IN A SANDBOX (cutbox-rows.mjs): the forced cells as the released guide's own fill.sh prints them over the translation 2715f7874970ea47… (all of the seat's roots in one cut). By AI agents, Wed Nov 11 2026. No macro, syntax, notation, axiom, sorry.
-/
import Derived.Test.YtclbkeejhnmeoaaGreatChecked
import GoSem.Claim
import GoSem.ClaimJoined
import GoSem.ClaimMapViews
import Derived.JoinedTies
import Derived.KernelRfl
namespace Go.Proofs.YtclbkeejhnmeoaaGreat
/- THE CELL 'sum', in the pinned program and in every row, IS THE sha256 OF THE DUMP (.gsa) THAT YtclbkeejhnmeoaaGreatProg.lean LOADS. Nothing in Lean hashes anything: it is a label: what it is worth is what the hold of that sum in a sandbox is worth. -/
noncomputable def Tryz.pinned : Pinned := { name := "ytclbkeejhnmeoaagreat", sum := "2715f7874970ea47ea183c84b8c0ff796ae466cc7d9a30fd47cc517947ac555f", checked := Tryz.checked }
namespace Rows
def none {H : Type} : Left H := { results := [], args := [] }

/-- 'laws.FnExactZoneForward': WHATEVER THE INPUT: true; the input reads as it did. -/
def fnExactZoneForwardSpec : ChangeSpec := { name := "fnExactZoneForward", fn := fun _ => fun
  | [d] => { results := [.lit (.bool true)], args := [d] }
  | _ => none }
def fnExactZoneForwardRow : OpenClaim := { program := "ytclbkeejhnmeoaagreat", sum := "2715f7874970ea47ea183c84b8c0ff796ae466cc7d9a30fd47cc517947ac555f", func := "loop.example/g00880/laws.FnExactZoneForward", spec := "fnExactZoneForward", inPlace := ["math/bits.Sub64", "math/bits.Add64"], unfollowed := true, recurses := true, named := ["math/bits.divideError", "math/bits.overflowError"], apart := false }
def FnExactZoneForwardSaid : Prop := fnExactZoneForwardRow.holds Tryz.pinned (OpenSpec.ofChange fnExactZoneForwardSpec)

/-- ITS FALSE NEIGHBOUR: 'it returns false'. Refute it at one input. -/
def fnExactZoneForwardWrong : ChangeSpec := { name := "fnExactZoneForward", fn := fun _ => fun
  | [d] => { results := [.lit (.bool false)], args := [d] }
  | _ => none }
def FnExactZoneForwardWrongFalsely : Prop := fnExactZoneForwardRow.holds Tryz.pinned (OpenSpec.ofChange fnExactZoneForwardWrong)

/-- 'laws.FnExactConicForward': WHATEVER THE INPUT: true; the input reads as it did. -/
def fnExactConicForwardSpec : ChangeSpec := { name := "fnExactConicForward", fn := fun _ => fun
  | [d1, d2] => { results := [.lit (.bool true)], args := [d1, d2] }
  | _ => none }
def fnExactConicForwardRow : OpenClaim := { program := "ytclbkeejhnmeoaagreat", sum := "2715f7874970ea47ea183c84b8c0ff796ae466cc7d9a30fd47cc517947ac555f", func := "loop.example/g00880/laws.FnExactConicForward", spec := "fnExactConicForward", inPlace := ["math/bits.Sub64", "math/bits.Add64"], unfollowed := true, recurses := true, named := ["math/bits.divideError", "math/bits.overflowError"], apart := false }
def FnExactConicForwardSaid : Prop := fnExactConicForwardRow.holds Tryz.pinned (OpenSpec.ofChange fnExactConicForwardSpec)

/-- ITS FALSE NEIGHBOUR: 'it returns false'. Refute it at one input. -/
def fnExactConicForwardWrong : ChangeSpec := { name := "fnExactConicForward", fn := fun _ => fun
  | [d1, d2] => { results := [.lit (.bool false)], args := [d1, d2] }
  | _ => none }
def FnExactConicForwardWrongFalsely : Prop := fnExactConicForwardRow.holds Tryz.pinned (OpenSpec.ofChange fnExactConicForwardWrong)

/-- 'laws.FnExactAzimuthalInverse': WHATEVER THE INPUT: true; the input reads as it did. -/
def fnExactAzimuthalInverseSpec : ChangeSpec := { name := "fnExactAzimuthalInverse", fn := fun _ => fun
  | [d1, d2] => { results := [.lit (.bool true)], args := [d1, d2] }
  | _ => none }
def fnExactAzimuthalInverseRow : OpenClaim := { program := "ytclbkeejhnmeoaagreat", sum := "2715f7874970ea47ea183c84b8c0ff796ae466cc7d9a30fd47cc517947ac555f", func := "loop.example/g00880/laws.FnExactAzimuthalInverse", spec := "fnExactAzimuthalInverse", inPlace := ["math/bits.Add64", "math/bits.Sub64"], unfollowed := true, recurses := true, named := ["math/bits.divideError", "math/bits.overflowError"], apart := false }
def FnExactAzimuthalInverseSaid : Prop := fnExactAzimuthalInverseRow.holds Tryz.pinned (OpenSpec.ofChange fnExactAzimuthalInverseSpec)

/-- ITS FALSE NEIGHBOUR: 'it returns false'. Refute it at one input. -/
def fnExactAzimuthalInverseWrong : ChangeSpec := { name := "fnExactAzimuthalInverse", fn := fun _ => fun
  | [d1, d2] => { results := [.lit (.bool false)], args := [d1, d2] }
  | _ => none }
def FnExactAzimuthalInverseWrongFalsely : Prop := fnExactAzimuthalInverseRow.holds Tryz.pinned (OpenSpec.ofChange fnExactAzimuthalInverseWrong)

/-- 'laws.FnExactMovePlace': WHATEVER THE INPUT: true; the input reads as it did. -/
def fnExactMovePlaceSpec : ChangeSpec := { name := "fnExactMovePlace", fn := fun _ => fun
  | [d1, d2, d3, d4] => { results := [.lit (.bool true)], args := [d1, d2, d3, d4] }
  | _ => none }
def fnExactMovePlaceRow : OpenClaim := { program := "ytclbkeejhnmeoaagreat", sum := "2715f7874970ea47ea183c84b8c0ff796ae466cc7d9a30fd47cc517947ac555f", func := "loop.example/g00880/laws.FnExactMovePlace", spec := "fnExactMovePlace", inPlace := ["math/bits.Sub64", "math/bits.Add64"], unfollowed := true, recurses := true, named := ["math/bits.divideError", "math/bits.overflowError"], apart := false }
def FnExactMovePlaceSaid : Prop := fnExactMovePlaceRow.holds Tryz.pinned (OpenSpec.ofChange fnExactMovePlaceSpec)

/-- ITS FALSE NEIGHBOUR: 'it returns false'. Refute it at one input. -/
def fnExactMovePlaceWrong : ChangeSpec := { name := "fnExactMovePlace", fn := fun _ => fun
  | [d1, d2, d3, d4] => { results := [.lit (.bool false)], args := [d1, d2, d3, d4] }
  | _ => none }
def FnExactMovePlaceWrongFalsely : Prop := fnExactMovePlaceRow.holds Tryz.pinned (OpenSpec.ofChange fnExactMovePlaceWrong)

/-- 'laws.FnExactConicInverse': WHATEVER THE INPUT: true; the input reads as it did. -/
def fnExactConicInverseSpec : ChangeSpec := { name := "fnExactConicInverse", fn := fun _ => fun
  | [d1, d2] => { results := [.lit (.bool true)], args := [d1, d2] }
  | _ => none }
def fnExactConicInverseRow : OpenClaim := { program := "ytclbkeejhnmeoaagreat", sum := "2715f7874970ea47ea183c84b8c0ff796ae466cc7d9a30fd47cc517947ac555f", func := "loop.example/g00880/laws.FnExactConicInverse", spec := "fnExactConicInverse", inPlace := ["math/bits.Sub64", "math/bits.Add64"], unfollowed := true, recurses := true, named := ["math/bits.divideError", "math/bits.overflowError"], apart := false }
def FnExactConicInverseSaid : Prop := fnExactConicInverseRow.holds Tryz.pinned (OpenSpec.ofChange fnExactConicInverseSpec)

/-- ITS FALSE NEIGHBOUR: 'it returns false'. Refute it at one input. -/
def fnExactConicInverseWrong : ChangeSpec := { name := "fnExactConicInverse", fn := fun _ => fun
  | [d1, d2] => { results := [.lit (.bool false)], args := [d1, d2] }
  | _ => none }
def FnExactConicInverseWrongFalsely : Prop := fnExactConicInverseRow.holds Tryz.pinned (OpenSpec.ofChange fnExactConicInverseWrong)

/-- 'laws.FnExactScalesOf': WHATEVER THE INPUT: true; the input reads as it did. -/
def fnExactScalesOfSpec : ChangeSpec := { name := "fnExactScalesOf", fn := fun _ => fun
  | [d1, d2] => { results := [.lit (.bool true)], args := [d1, d2] }
  | _ => none }
def fnExactScalesOfRow : OpenClaim := { program := "ytclbkeejhnmeoaagreat", sum := "2715f7874970ea47ea183c84b8c0ff796ae466cc7d9a30fd47cc517947ac555f", func := "loop.example/g00880/laws.FnExactScalesOf", spec := "fnExactScalesOf", inPlace := ["math/bits.Sub64", "math/bits.Add64"], unfollowed := true, recurses := true, named := ["math/bits.divideError", "math/bits.overflowError"], apart := false }
def FnExactScalesOfSaid : Prop := fnExactScalesOfRow.holds Tryz.pinned (OpenSpec.ofChange fnExactScalesOfSpec)

/-- ITS FALSE NEIGHBOUR: 'it returns false'. Refute it at one input. -/
def fnExactScalesOfWrong : ChangeSpec := { name := "fnExactScalesOf", fn := fun _ => fun
  | [d1, d2] => { results := [.lit (.bool false)], args := [d1, d2] }
  | _ => none }
def FnExactScalesOfWrongFalsely : Prop := fnExactScalesOfRow.holds Tryz.pinned (OpenSpec.ofChange fnExactScalesOfWrong)

/- THE SECOND FORM. 'bulk': how many values and letters a reading holds, each counted each time it is reached (what is shared counts as often as it is met; a slice's spare places count too). A statement '..UptoSaid' is the law's where the arguments, and the package variables that the reading takes, are together of bulk at most 1048576: NARROWER than '..Said'. Prove '..Said' where nothing that the law and all that it calls make is longer than what came in: it says more and counts as full. Else prove '..UptoSaid'. A law counts once. -/
mutual
def uptoBulk {H : Type} : DataW H → Nat
  | .lit (.string bytes) => bytes.length + 1
  | .lit _ => 1
  | .nil => 1
  | .ptr d => uptoBulk d + 1
  | .slice elems spare => uptoBulkAll elems + uptoBulkAll spare + 1
  | .agg parts => uptoBulkAll parts + 1
  | .iface _ d => uptoBulk d + 1
  | .map entries => uptoBulkEntries entries + 1
  | .held _ => 1
def uptoBulkAll {H : Type} : List (DataW H) → Nat
  | [] => 0
  | d :: r => uptoBulk d + uptoBulkAll r
def uptoBulkEntries {H : Type} : List (Lit × DataW H) → Nat
  | [] => 0
  | x :: r => uptoBulkEntry x + uptoBulkEntries r
def uptoBulkEntry {H : Type} : Lit × DataW H → Nat
  | (.string bytes, d) => bytes.length + uptoBulk d + 1
  | (_, d) => uptoBulk d + 1
 end
def uptoSmall : (H : Type) → List (DataW H) → Bool := fun _ ds => decide (uptoBulkAll ds ≤ 1048576)
def OpenSpec.upto (s : _root_.Go.ChangeSpec) : _root_.Go.OpenSpec := { _root_.Go.OpenSpec.ofChange s with cond := some uptoSmall }

/-- 'laws.FnExactZoneForward', WHERE WHAT IT READS IS OF BULK AT MOST 1048576: true; the input reads as it did. -/
def fnExactZoneForwardUptoRow : OpenClaim := { program := "ytclbkeejhnmeoaagreat", sum := "2715f7874970ea47ea183c84b8c0ff796ae466cc7d9a30fd47cc517947ac555f", func := "loop.example/g00880/laws.FnExactZoneForward", spec := "fnExactZoneForward", inPlace := ["math/bits.Sub64", "math/bits.Add64"], unfollowed := true, recurses := true, named := ["math/bits.divideError", "math/bits.overflowError"], apart := false, narrowed := true }
def FnExactZoneForwardUptoSaid : Prop := fnExactZoneForwardUptoRow.holds Tryz.pinned (OpenSpec.upto fnExactZoneForwardSpec)

/-- 'laws.FnExactConicForward', WHERE WHAT IT READS IS OF BULK AT MOST 1048576: true; the input reads as it did. -/
def fnExactConicForwardUptoRow : OpenClaim := { program := "ytclbkeejhnmeoaagreat", sum := "2715f7874970ea47ea183c84b8c0ff796ae466cc7d9a30fd47cc517947ac555f", func := "loop.example/g00880/laws.FnExactConicForward", spec := "fnExactConicForward", inPlace := ["math/bits.Sub64", "math/bits.Add64"], unfollowed := true, recurses := true, named := ["math/bits.divideError", "math/bits.overflowError"], apart := false, narrowed := true }
def FnExactConicForwardUptoSaid : Prop := fnExactConicForwardUptoRow.holds Tryz.pinned (OpenSpec.upto fnExactConicForwardSpec)

/-- 'laws.FnExactAzimuthalInverse', WHERE WHAT IT READS IS OF BULK AT MOST 1048576: true; the input reads as it did. -/
def fnExactAzimuthalInverseUptoRow : OpenClaim := { program := "ytclbkeejhnmeoaagreat", sum := "2715f7874970ea47ea183c84b8c0ff796ae466cc7d9a30fd47cc517947ac555f", func := "loop.example/g00880/laws.FnExactAzimuthalInverse", spec := "fnExactAzimuthalInverse", inPlace := ["math/bits.Add64", "math/bits.Sub64"], unfollowed := true, recurses := true, named := ["math/bits.divideError", "math/bits.overflowError"], apart := false, narrowed := true }
def FnExactAzimuthalInverseUptoSaid : Prop := fnExactAzimuthalInverseUptoRow.holds Tryz.pinned (OpenSpec.upto fnExactAzimuthalInverseSpec)

/-- 'laws.FnExactMovePlace', WHERE WHAT IT READS IS OF BULK AT MOST 1048576: true; the input reads as it did. -/
def fnExactMovePlaceUptoRow : OpenClaim := { program := "ytclbkeejhnmeoaagreat", sum := "2715f7874970ea47ea183c84b8c0ff796ae466cc7d9a30fd47cc517947ac555f", func := "loop.example/g00880/laws.FnExactMovePlace", spec := "fnExactMovePlace", inPlace := ["math/bits.Sub64", "math/bits.Add64"], unfollowed := true, recurses := true, named := ["math/bits.divideError", "math/bits.overflowError"], apart := false, narrowed := true }
def FnExactMovePlaceUptoSaid : Prop := fnExactMovePlaceUptoRow.holds Tryz.pinned (OpenSpec.upto fnExactMovePlaceSpec)

/-- 'laws.FnExactConicInverse', WHERE WHAT IT READS IS OF BULK AT MOST 1048576: true; the input reads as it did. -/
def fnExactConicInverseUptoRow : OpenClaim := { program := "ytclbkeejhnmeoaagreat", sum := "2715f7874970ea47ea183c84b8c0ff796ae466cc7d9a30fd47cc517947ac555f", func := "loop.example/g00880/laws.FnExactConicInverse", spec := "fnExactConicInverse", inPlace := ["math/bits.Sub64", "math/bits.Add64"], unfollowed := true, recurses := true, named := ["math/bits.divideError", "math/bits.overflowError"], apart := false, narrowed := true }
def FnExactConicInverseUptoSaid : Prop := fnExactConicInverseUptoRow.holds Tryz.pinned (OpenSpec.upto fnExactConicInverseSpec)

/-- 'laws.FnExactScalesOf', WHERE WHAT IT READS IS OF BULK AT MOST 1048576: true; the input reads as it did. -/
def fnExactScalesOfUptoRow : OpenClaim := { program := "ytclbkeejhnmeoaagreat", sum := "2715f7874970ea47ea183c84b8c0ff796ae466cc7d9a30fd47cc517947ac555f", func := "loop.example/g00880/laws.FnExactScalesOf", spec := "fnExactScalesOf", inPlace := ["math/bits.Sub64", "math/bits.Add64"], unfollowed := true, recurses := true, named := ["math/bits.divideError", "math/bits.overflowError"], apart := false, narrowed := true }
def FnExactScalesOfUptoSaid : Prop := fnExactScalesOfUptoRow.holds Tryz.pinned (OpenSpec.upto fnExactScalesOfSpec)

end Rows
end Go.Proofs.YtclbkeejhnmeoaaGreat
