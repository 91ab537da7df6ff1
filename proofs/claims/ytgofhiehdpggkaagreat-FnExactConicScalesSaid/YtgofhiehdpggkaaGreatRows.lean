/-
  No cell of these rows narrows 'for every input' (looked for: loops, veiled, ifaces, maps, wideKeys, modest, calm, conditions, laid).
  DERIVED. THE GIVEN ROWS OF THIS SEAT. 6 by the template 'for every input the law returns true; each argument reads behind the call as it read before'; 0 by the template 'total and deterministic' (their statements: YtgofhiehdpggkaaGreatTotals.lean).
  GIVEN WITH THE SEED: the statements are not yours to turn. If you find one false, say at which input.
  Laid BY PROGRAM, IN A SANDBOX (cutbox-rows.mjs): the forced cells as the released guide's own fill.sh prints them over the translation dc4e166d06b2d6ed… (all of the seat's roots in one cut). By AI agents, Wed Nov 11 2026. No macro, syntax, notation, axiom, sorry.
-/
import Derived.Test.YtgofhiehdpggkaaGreatChecked
import GoSem.Claim
import GoSem.ClaimJoined
import GoSem.ClaimMapViews
import Derived.JoinedTies
import Derived.KernelRfl
namespace Go.Proofs.YtgofhiehdpggkaaGreat
/- THE CELL 'sum', in the pinned program and in every row, IS THE sha256 OF THE DUMP (.gsa) THAT YtgofhiehdpggkaaGreatProg.lean LOADS. Nothing in Lean hashes anything: it is a label: what it is worth is what the hold of that sum in a sandbox is worth. -/
noncomputable def Tryz.pinned : Pinned := { name := "ytgofhiehdpggkaagreat", sum := "dc4e166d06b2d6ed4a41209b115a37fb103aeb20ed089d58160eb9d590401f7d", checked := Tryz.checked }
namespace Rows
def none {H : Type} : Left H := { results := [], args := [] }

/-- 'laws.FnExactStandardScales': WHATEVER THE INPUT: true; the input reads as it did. -/
def fnExactStandardScalesSpec : ChangeSpec := { name := "fnExactStandardScales", fn := fun _ => fun
  | [d] => { results := [.lit (.bool true)], args := [d] }
  | _ => none }
def fnExactStandardScalesRow : OpenClaim := { program := "ytgofhiehdpggkaagreat", sum := "dc4e166d06b2d6ed4a41209b115a37fb103aeb20ed089d58160eb9d590401f7d", func := "loop.example/g00880/laws.FnExactStandardScales", spec := "fnExactStandardScales", inPlace := ["math/bits.Sub64", "math/bits.Add64"], unfollowed := true, recurses := true, named := ["math/bits.divideError", "math/bits.overflowError"], apart := false }
def FnExactStandardScalesSaid : Prop := fnExactStandardScalesRow.holds Tryz.pinned (OpenSpec.ofChange fnExactStandardScalesSpec)

/-- ITS FALSE NEIGHBOUR: 'it returns false'. Refute it at one input. -/
def fnExactStandardScalesWrong : ChangeSpec := { name := "fnExactStandardScales", fn := fun _ => fun
  | [d] => { results := [.lit (.bool false)], args := [d] }
  | _ => none }
def FnExactStandardScalesWrongFalsely : Prop := fnExactStandardScalesRow.holds Tryz.pinned (OpenSpec.ofChange fnExactStandardScalesWrong)

/-- 'laws.FnExactConicRadius': WHATEVER THE INPUT: true; the input reads as it did. -/
def fnExactConicRadiusSpec : ChangeSpec := { name := "fnExactConicRadius", fn := fun _ => fun
  | [d1, d2] => { results := [.lit (.bool true)], args := [d1, d2] }
  | _ => none }
def fnExactConicRadiusRow : OpenClaim := { program := "ytgofhiehdpggkaagreat", sum := "dc4e166d06b2d6ed4a41209b115a37fb103aeb20ed089d58160eb9d590401f7d", func := "loop.example/g00880/laws.FnExactConicRadius", spec := "fnExactConicRadius", inPlace := ["math/bits.Sub64", "math/bits.Add64"], unfollowed := true, recurses := true, named := ["math/bits.divideError", "math/bits.overflowError"], apart := false }
def FnExactConicRadiusSaid : Prop := fnExactConicRadiusRow.holds Tryz.pinned (OpenSpec.ofChange fnExactConicRadiusSpec)

/-- ITS FALSE NEIGHBOUR: 'it returns false'. Refute it at one input. -/
def fnExactConicRadiusWrong : ChangeSpec := { name := "fnExactConicRadius", fn := fun _ => fun
  | [d1, d2] => { results := [.lit (.bool false)], args := [d1, d2] }
  | _ => none }
def FnExactConicRadiusWrongFalsely : Prop := fnExactConicRadiusRow.holds Tryz.pinned (OpenSpec.ofChange fnExactConicRadiusWrong)

/-- 'laws.FnExactTransverseInverse': WHATEVER THE INPUT: true; the input reads as it did. -/
def fnExactTransverseInverseSpec : ChangeSpec := { name := "fnExactTransverseInverse", fn := fun _ => fun
  | [d1, d2] => { results := [.lit (.bool true)], args := [d1, d2] }
  | _ => none }
def fnExactTransverseInverseRow : OpenClaim := { program := "ytgofhiehdpggkaagreat", sum := "dc4e166d06b2d6ed4a41209b115a37fb103aeb20ed089d58160eb9d590401f7d", func := "loop.example/g00880/laws.FnExactTransverseInverse", spec := "fnExactTransverseInverse", inPlace := ["math/bits.Sub64", "math/bits.Add64"], unfollowed := true, recurses := true, named := ["math/bits.divideError", "math/bits.overflowError"], apart := false }
def FnExactTransverseInverseSaid : Prop := fnExactTransverseInverseRow.holds Tryz.pinned (OpenSpec.ofChange fnExactTransverseInverseSpec)

/-- ITS FALSE NEIGHBOUR: 'it returns false'. Refute it at one input. -/
def fnExactTransverseInverseWrong : ChangeSpec := { name := "fnExactTransverseInverse", fn := fun _ => fun
  | [d1, d2] => { results := [.lit (.bool false)], args := [d1, d2] }
  | _ => none }
def FnExactTransverseInverseWrongFalsely : Prop := fnExactTransverseInverseRow.holds Tryz.pinned (OpenSpec.ofChange fnExactTransverseInverseWrong)

/-- 'laws.FnExactConicScales': WHATEVER THE INPUT: true; the input reads as it did. -/
def fnExactConicScalesSpec : ChangeSpec := { name := "fnExactConicScales", fn := fun _ => fun
  | [d1, d2] => { results := [.lit (.bool true)], args := [d1, d2] }
  | _ => none }
def fnExactConicScalesRow : OpenClaim := { program := "ytgofhiehdpggkaagreat", sum := "dc4e166d06b2d6ed4a41209b115a37fb103aeb20ed089d58160eb9d590401f7d", func := "loop.example/g00880/laws.FnExactConicScales", spec := "fnExactConicScales", inPlace := ["math/bits.Sub64", "math/bits.Add64"], unfollowed := true, recurses := true, named := ["math/bits.divideError", "math/bits.overflowError"], apart := false }
def FnExactConicScalesSaid : Prop := fnExactConicScalesRow.holds Tryz.pinned (OpenSpec.ofChange fnExactConicScalesSpec)

/-- ITS FALSE NEIGHBOUR: 'it returns false'. Refute it at one input. -/
def fnExactConicScalesWrong : ChangeSpec := { name := "fnExactConicScales", fn := fun _ => fun
  | [d1, d2] => { results := [.lit (.bool false)], args := [d1, d2] }
  | _ => none }
def FnExactConicScalesWrongFalsely : Prop := fnExactConicScalesRow.holds Tryz.pinned (OpenSpec.ofChange fnExactConicScalesWrong)

/-- 'laws.FnExactTransverseForward': WHATEVER THE INPUT: true; the input reads as it did. -/
def fnExactTransverseForwardSpec : ChangeSpec := { name := "fnExactTransverseForward", fn := fun _ => fun
  | [d1, d2] => { results := [.lit (.bool true)], args := [d1, d2] }
  | _ => none }
def fnExactTransverseForwardRow : OpenClaim := { program := "ytgofhiehdpggkaagreat", sum := "dc4e166d06b2d6ed4a41209b115a37fb103aeb20ed089d58160eb9d590401f7d", func := "loop.example/g00880/laws.FnExactTransverseForward", spec := "fnExactTransverseForward", inPlace := ["math/bits.Sub64", "math/bits.Add64"], unfollowed := true, recurses := true, named := ["math/bits.divideError", "math/bits.overflowError"], apart := false }
def FnExactTransverseForwardSaid : Prop := fnExactTransverseForwardRow.holds Tryz.pinned (OpenSpec.ofChange fnExactTransverseForwardSpec)

/-- ITS FALSE NEIGHBOUR: 'it returns false'. Refute it at one input. -/
def fnExactTransverseForwardWrong : ChangeSpec := { name := "fnExactTransverseForward", fn := fun _ => fun
  | [d1, d2] => { results := [.lit (.bool false)], args := [d1, d2] }
  | _ => none }
def FnExactTransverseForwardWrongFalsely : Prop := fnExactTransverseForwardRow.holds Tryz.pinned (OpenSpec.ofChange fnExactTransverseForwardWrong)

/-- 'laws.FnExactAzimuthalForward': WHATEVER THE INPUT: true; the input reads as it did. -/
def fnExactAzimuthalForwardSpec : ChangeSpec := { name := "fnExactAzimuthalForward", fn := fun _ => fun
  | [d1, d2] => { results := [.lit (.bool true)], args := [d1, d2] }
  | _ => none }
def fnExactAzimuthalForwardRow : OpenClaim := { program := "ytgofhiehdpggkaagreat", sum := "dc4e166d06b2d6ed4a41209b115a37fb103aeb20ed089d58160eb9d590401f7d", func := "loop.example/g00880/laws.FnExactAzimuthalForward", spec := "fnExactAzimuthalForward", inPlace := ["math/bits.Sub64", "math/bits.Add64"], unfollowed := true, recurses := true, named := ["math/bits.divideError", "math/bits.overflowError"], apart := false }
def FnExactAzimuthalForwardSaid : Prop := fnExactAzimuthalForwardRow.holds Tryz.pinned (OpenSpec.ofChange fnExactAzimuthalForwardSpec)

/-- ITS FALSE NEIGHBOUR: 'it returns false'. Refute it at one input. -/
def fnExactAzimuthalForwardWrong : ChangeSpec := { name := "fnExactAzimuthalForward", fn := fun _ => fun
  | [d1, d2] => { results := [.lit (.bool false)], args := [d1, d2] }
  | _ => none }
def FnExactAzimuthalForwardWrongFalsely : Prop := fnExactAzimuthalForwardRow.holds Tryz.pinned (OpenSpec.ofChange fnExactAzimuthalForwardWrong)

/- THE SECOND FORM. 'bulk': how many values and letters a reading holds, each counted each time it is reached (what is shared counts as often as it is met; a slice's spare places count too). A statement '..UptoSaid' is the law's where the arguments, and the package variables that the reading takes, are together of bulk at most 1048576: NARROWER than '..Said'. Prove '..Said' where nothing that the law and all that it calls make is longer than what came in: it says more and counts as full. Else prove '..UptoSaid'. A law counts once. -/
mutual
def uptoBulk {H : Type} : DataW H → Nat
  | .lit (.string bytes) => bytes.length + 1
  | .lit _ => 1
  | .nil => 1
  | .ptr d => uptoBulk d + 1
  | .slice elems spare => uptoBulkAll elems + uptoBulkAll spare + 1
  | .agg parts => uptoBulkAll parts + 1
  | .iface _ d => uptoBulk d + 1
  | .map entries => uptoBulkEntries entries + 1
  | .held _ => 1
def uptoBulkAll {H : Type} : List (DataW H) → Nat
  | [] => 0
  | d :: r => uptoBulk d + uptoBulkAll r
def uptoBulkEntries {H : Type} : List (Lit × DataW H) → Nat
  | [] => 0
  | x :: r => uptoBulkEntry x + uptoBulkEntries r
def uptoBulkEntry {H : Type} : Lit × DataW H → Nat
  | (.string bytes, d) => bytes.length + uptoBulk d + 1
  | (_, d) => uptoBulk d + 1
 end
def uptoSmall : (H : Type) → List (DataW H) → Bool := fun _ ds => decide (uptoBulkAll ds ≤ 1048576)
def OpenSpec.upto (s : _root_.Go.ChangeSpec) : _root_.Go.OpenSpec := { _root_.Go.OpenSpec.ofChange s with cond := some uptoSmall }

/-- 'laws.FnExactStandardScales', WHERE WHAT IT READS IS OF BULK AT MOST 1048576: true; the input reads as it did. -/
def fnExactStandardScalesUptoRow : OpenClaim := { program := "ytgofhiehdpggkaagreat", sum := "dc4e166d06b2d6ed4a41209b115a37fb103aeb20ed089d58160eb9d590401f7d", func := "loop.example/g00880/laws.FnExactStandardScales", spec := "fnExactStandardScales", inPlace := ["math/bits.Sub64", "math/bits.Add64"], unfollowed := true, recurses := true, named := ["math/bits.divideError", "math/bits.overflowError"], apart := false, narrowed := true }
def FnExactStandardScalesUptoSaid : Prop := fnExactStandardScalesUptoRow.holds Tryz.pinned (OpenSpec.upto fnExactStandardScalesSpec)

/-- 'laws.FnExactConicRadius', WHERE WHAT IT READS IS OF BULK AT MOST 1048576: true; the input reads as it did. -/
def fnExactConicRadiusUptoRow : OpenClaim := { program := "ytgofhiehdpggkaagreat", sum := "dc4e166d06b2d6ed4a41209b115a37fb103aeb20ed089d58160eb9d590401f7d", func := "loop.example/g00880/laws.FnExactConicRadius", spec := "fnExactConicRadius", inPlace := ["math/bits.Sub64", "math/bits.Add64"], unfollowed := true, recurses := true, named := ["math/bits.divideError", "math/bits.overflowError"], apart := false, narrowed := true }
def FnExactConicRadiusUptoSaid : Prop := fnExactConicRadiusUptoRow.holds Tryz.pinned (OpenSpec.upto fnExactConicRadiusSpec)

/-- 'laws.FnExactTransverseInverse', WHERE WHAT IT READS IS OF BULK AT MOST 1048576: true; the input reads as it did. -/
def fnExactTransverseInverseUptoRow : OpenClaim := { program := "ytgofhiehdpggkaagreat", sum := "dc4e166d06b2d6ed4a41209b115a37fb103aeb20ed089d58160eb9d590401f7d", func := "loop.example/g00880/laws.FnExactTransverseInverse", spec := "fnExactTransverseInverse", inPlace := ["math/bits.Sub64", "math/bits.Add64"], unfollowed := true, recurses := true, named := ["math/bits.divideError", "math/bits.overflowError"], apart := false, narrowed := true }
def FnExactTransverseInverseUptoSaid : Prop := fnExactTransverseInverseUptoRow.holds Tryz.pinned (OpenSpec.upto fnExactTransverseInverseSpec)

/-- 'laws.FnExactConicScales', WHERE WHAT IT READS IS OF BULK AT MOST 1048576: true; the input reads as it did. -/
def fnExactConicScalesUptoRow : OpenClaim := { program := "ytgofhiehdpggkaagreat", sum := "dc4e166d06b2d6ed4a41209b115a37fb103aeb20ed089d58160eb9d590401f7d", func := "loop.example/g00880/laws.FnExactConicScales", spec := "fnExactConicScales", inPlace := ["math/bits.Sub64", "math/bits.Add64"], unfollowed := true, recurses := true, named := ["math/bits.divideError", "math/bits.overflowError"], apart := false, narrowed := true }
def FnExactConicScalesUptoSaid : Prop := fnExactConicScalesUptoRow.holds Tryz.pinned (OpenSpec.upto fnExactConicScalesSpec)

/-- 'laws.FnExactTransverseForward', WHERE WHAT IT READS IS OF BULK AT MOST 1048576: true; the input reads as it did. -/
def fnExactTransverseForwardUptoRow : OpenClaim := { program := "ytgofhiehdpggkaagreat", sum := "dc4e166d06b2d6ed4a41209b115a37fb103aeb20ed089d58160eb9d590401f7d", func := "loop.example/g00880/laws.FnExactTransverseForward", spec := "fnExactTransverseForward", inPlace := ["math/bits.Sub64", "math/bits.Add64"], unfollowed := true, recurses := true, named := ["math/bits.divideError", "math/bits.overflowError"], apart := false, narrowed := true }
def FnExactTransverseForwardUptoSaid : Prop := fnExactTransverseForwardUptoRow.holds Tryz.pinned (OpenSpec.upto fnExactTransverseForwardSpec)

/-- 'laws.FnExactAzimuthalForward', WHERE WHAT IT READS IS OF BULK AT MOST 1048576: true; the input reads as it did. -/
def fnExactAzimuthalForwardUptoRow : OpenClaim := { program := "ytgofhiehdpggkaagreat", sum := "dc4e166d06b2d6ed4a41209b115a37fb103aeb20ed089d58160eb9d590401f7d", func := "loop.example/g00880/laws.FnExactAzimuthalForward", spec := "fnExactAzimuthalForward", inPlace := ["math/bits.Sub64", "math/bits.Add64"], unfollowed := true, recurses := true, named := ["math/bits.divideError", "math/bits.overflowError"], apart := false, narrowed := true }
def FnExactAzimuthalForwardUptoSaid : Prop := fnExactAzimuthalForwardUptoRow.holds Tryz.pinned (OpenSpec.upto fnExactAzimuthalForwardSpec)

end Rows
end Go.Proofs.YtgofhiehdpggkaaGreat
