/-
  No cell of these rows narrows 'for every input' (looked for: loops, veiled, ifaces, maps, wideKeys, modest, calm, conditions, laid).
  DERIVED. THE GIVEN ROWS OF THIS SEAT. 6 by the template 'for every input the law returns true; each argument reads behind the call as it read before'; 0 by the template 'total and deterministic' (their statements: YtjckiicaegpghaaGreatTotals.lean).
  GIVEN WITH THE SEED: the statements are not yours to turn. If you find one false, say at which input.
  Laid BY PROGRAM, IN A SANDBOX (cutbox-rows.mjs): the forced cells as the released guide's own fill.sh prints them over the translation 52c985396bf1558c… (all of the seat's roots in one cut). By AI agents, Wed Nov 11 2026. No macro, syntax, notation, axiom, sorry.
-/
import Derived.Test.YtjckiicaegpghaaGreatChecked
import GoSem.Claim
import GoSem.ClaimJoined
import GoSem.ClaimMapViews
import Derived.JoinedTies
import Derived.KernelRfl
namespace Go.Proofs.YtjckiicaegpghaaGreat
/- THE CELL 'sum', in the pinned program and in every row, IS THE sha256 OF THE DUMP (.gsa) THAT YtjckiicaegpghaaGreatProg.lean LOADS. Nothing in Lean hashes anything: it is a label: what it is worth is what the hold of that sum in a sandbox is worth. -/
noncomputable def Tryz.pinned : Pinned := { name := "ytjckiicaegpghaagreat", sum := "52c985396bf1558cf3ee5a84791e4c4102ecb9c296b979faa5b542881d037869", checked := Tryz.checked }
namespace Rows
def none {H : Type} : Left H := { results := [], args := [] }

/-- 'laws.FnExactAreaScale': WHATEVER THE INPUT: true; the input reads as it did. -/
def fnExactAreaScaleSpec : ChangeSpec := { name := "fnExactAreaScale", fn := fun _ => fun
  | [d1, d2] => { results := [.lit (.bool true)], args := [d1, d2] }
  | _ => none }
def fnExactAreaScaleRow : OpenClaim := { program := "ytjckiicaegpghaagreat", sum := "52c985396bf1558cf3ee5a84791e4c4102ecb9c296b979faa5b542881d037869", func := "loop.example/g00880/laws.FnExactAreaScale", spec := "fnExactAreaScale", inPlace := ["math/bits.Sub64", "math/bits.Add64"], unfollowed := true, recurses := true, named := ["math/bits.divideError", "math/bits.overflowError"], apart := false }
def FnExactAreaScaleSaid : Prop := fnExactAreaScaleRow.holds Tryz.pinned (OpenSpec.ofChange fnExactAreaScaleSpec)

/-- ITS FALSE NEIGHBOUR: 'it returns false'. Refute it at one input. -/
def fnExactAreaScaleWrong : ChangeSpec := { name := "fnExactAreaScale", fn := fun _ => fun
  | [d1, d2] => { results := [.lit (.bool false)], args := [d1, d2] }
  | _ => none }
def FnExactAreaScaleWrongFalsely : Prop := fnExactAreaScaleRow.holds Tryz.pinned (OpenSpec.ofChange fnExactAreaScaleWrong)

/-- 'laws.FnExactAngleDistortion': WHATEVER THE INPUT: true; the input reads as it did. -/
def fnExactAngleDistortionSpec : ChangeSpec := { name := "fnExactAngleDistortion", fn := fun _ => fun
  | [d1, d2] => { results := [.lit (.bool true)], args := [d1, d2] }
  | _ => none }
def fnExactAngleDistortionRow : OpenClaim := { program := "ytjckiicaegpghaagreat", sum := "52c985396bf1558cf3ee5a84791e4c4102ecb9c296b979faa5b542881d037869", func := "loop.example/g00880/laws.FnExactAngleDistortion", spec := "fnExactAngleDistortion", inPlace := ["math/bits.Sub64", "math/bits.Add64"], unfollowed := true, recurses := true, named := ["math/bits.divideError", "math/bits.overflowError"], apart := false }
def FnExactAngleDistortionSaid : Prop := fnExactAngleDistortionRow.holds Tryz.pinned (OpenSpec.ofChange fnExactAngleDistortionSpec)

/-- ITS FALSE NEIGHBOUR: 'it returns false'. Refute it at one input. -/
def fnExactAngleDistortionWrong : ChangeSpec := { name := "fnExactAngleDistortion", fn := fun _ => fun
  | [d1, d2] => { results := [.lit (.bool false)], args := [d1, d2] }
  | _ => none }
def FnExactAngleDistortionWrongFalsely : Prop := fnExactAngleDistortionRow.holds Tryz.pinned (OpenSpec.ofChange fnExactAngleDistortionWrong)

/-- 'laws.FnExactProject': WHATEVER THE INPUT: true; the input reads as it did. -/
def fnExactProjectSpec : ChangeSpec := { name := "fnExactProject", fn := fun _ => fun
  | [d1, d2] => { results := [.lit (.bool true)], args := [d1, d2] }
  | _ => none }
def fnExactProjectRow : OpenClaim := { program := "ytjckiicaegpghaagreat", sum := "52c985396bf1558cf3ee5a84791e4c4102ecb9c296b979faa5b542881d037869", func := "loop.example/g00880/laws.FnExactProject", spec := "fnExactProject", inPlace := ["math/bits.Sub64", "math/bits.Add64"], unfollowed := true, recurses := true, named := ["math/bits.divideError", "math/bits.overflowError"], apart := false }
def FnExactProjectSaid : Prop := fnExactProjectRow.holds Tryz.pinned (OpenSpec.ofChange fnExactProjectSpec)

/-- ITS FALSE NEIGHBOUR: 'it returns false'. Refute it at one input. -/
def fnExactProjectWrong : ChangeSpec := { name := "fnExactProject", fn := fun _ => fun
  | [d1, d2] => { results := [.lit (.bool false)], args := [d1, d2] }
  | _ => none }
def FnExactProjectWrongFalsely : Prop := fnExactProjectRow.holds Tryz.pinned (OpenSpec.ofChange fnExactProjectWrong)

/-- 'laws.FnExactMapDistance': WHATEVER THE INPUT: true; the input reads as it did. -/
def fnExactMapDistanceSpec : ChangeSpec := { name := "fnExactMapDistance", fn := fun _ => fun
  | [d1, d2, d3] => { results := [.lit (.bool true)], args := [d1, d2, d3] }
  | _ => none }
def fnExactMapDistanceRow : OpenClaim := { program := "ytjckiicaegpghaagreat", sum := "52c985396bf1558cf3ee5a84791e4c4102ecb9c296b979faa5b542881d037869", func := "loop.example/g00880/laws.FnExactMapDistance", spec := "fnExactMapDistance", inPlace := ["math/bits.Sub64", "math/bits.Add64"], unfollowed := true, recurses := true, named := ["math/bits.divideError", "math/bits.overflowError"], apart := false }
def FnExactMapDistanceSaid : Prop := fnExactMapDistanceRow.holds Tryz.pinned (OpenSpec.ofChange fnExactMapDistanceSpec)

/-- ITS FALSE NEIGHBOUR: 'it returns false'. Refute it at one input. -/
def fnExactMapDistanceWrong : ChangeSpec := { name := "fnExactMapDistance", fn := fun _ => fun
  | [d1, d2, d3] => { results := [.lit (.bool false)], args := [d1, d2, d3] }
  | _ => none }
def FnExactMapDistanceWrongFalsely : Prop := fnExactMapDistanceRow.holds Tryz.pinned (OpenSpec.ofChange fnExactMapDistanceWrong)

/-- 'laws.FnExactUnproject': WHATEVER THE INPUT: true; the input reads as it did. -/
def fnExactUnprojectSpec : ChangeSpec := { name := "fnExactUnproject", fn := fun _ => fun
  | [d1, d2] => { results := [.lit (.bool true)], args := [d1, d2] }
  | _ => none }
def fnExactUnprojectRow : OpenClaim := { program := "ytjckiicaegpghaagreat", sum := "52c985396bf1558cf3ee5a84791e4c4102ecb9c296b979faa5b542881d037869", func := "loop.example/g00880/laws.FnExactUnproject", spec := "fnExactUnproject", inPlace := ["math/bits.Sub64", "math/bits.Add64"], unfollowed := true, recurses := true, named := ["math/bits.divideError", "math/bits.overflowError"], apart := false }
def FnExactUnprojectSaid : Prop := fnExactUnprojectRow.holds Tryz.pinned (OpenSpec.ofChange fnExactUnprojectSpec)

/-- ITS FALSE NEIGHBOUR: 'it returns false'. Refute it at one input. -/
def fnExactUnprojectWrong : ChangeSpec := { name := "fnExactUnproject", fn := fun _ => fun
  | [d1, d2] => { results := [.lit (.bool false)], args := [d1, d2] }
  | _ => none }
def FnExactUnprojectWrongFalsely : Prop := fnExactUnprojectRow.holds Tryz.pinned (OpenSpec.ofChange fnExactUnprojectWrong)

/-- 'laws.FnExactStretchOf': WHATEVER THE INPUT: true; the input reads as it did. -/
def fnExactStretchOfSpec : ChangeSpec := { name := "fnExactStretchOf", fn := fun _ => fun
  | [d1, d2, d3] => { results := [.lit (.bool true)], args := [d1, d2, d3] }
  | _ => none }
def fnExactStretchOfRow : OpenClaim := { program := "ytjckiicaegpghaagreat", sum := "52c985396bf1558cf3ee5a84791e4c4102ecb9c296b979faa5b542881d037869", func := "loop.example/g00880/laws.FnExactStretchOf", spec := "fnExactStretchOf", inPlace := ["math/bits.Sub64", "math/bits.Add64"], unfollowed := true, recurses := true, named := ["math/bits.divideError", "math/bits.overflowError"], apart := false }
def FnExactStretchOfSaid : Prop := fnExactStretchOfRow.holds Tryz.pinned (OpenSpec.ofChange fnExactStretchOfSpec)

/-- ITS FALSE NEIGHBOUR: 'it returns false'. Refute it at one input. -/
def fnExactStretchOfWrong : ChangeSpec := { name := "fnExactStretchOf", fn := fun _ => fun
  | [d1, d2, d3] => { results := [.lit (.bool false)], args := [d1, d2, d3] }
  | _ => none }
def FnExactStretchOfWrongFalsely : Prop := fnExactStretchOfRow.holds Tryz.pinned (OpenSpec.ofChange fnExactStretchOfWrong)

/- THE SECOND FORM. 'bulk': how many values and letters a reading holds, each counted each time it is reached (what is shared counts as often as it is met; a slice's spare places count too). A statement '..UptoSaid' is the law's where the arguments, and the package variables that the reading takes, are together of bulk at most 1048576: NARROWER than '..Said'. Prove '..Said' where nothing that the law and all that it calls make is longer than what came in: it says more and counts as full. Else prove '..UptoSaid'. A law counts once. -/
mutual
def uptoBulk {H : Type} : DataW H → Nat
  | .lit (.string bytes) => bytes.length + 1
  | .lit _ => 1
  | .nil => 1
  | .ptr d => uptoBulk d + 1
  | .slice elems spare => uptoBulkAll elems + uptoBulkAll spare + 1
  | .agg parts => uptoBulkAll parts + 1
  | .iface _ d => uptoBulk d + 1
  | .map entries => uptoBulkEntries entries + 1
  | .held _ => 1
def uptoBulkAll {H : Type} : List (DataW H) → Nat
  | [] => 0
  | d :: r => uptoBulk d + uptoBulkAll r
def uptoBulkEntries {H : Type} : List (Lit × DataW H) → Nat
  | [] => 0
  | x :: r => uptoBulkEntry x + uptoBulkEntries r
def uptoBulkEntry {H : Type} : Lit × DataW H → Nat
  | (.string bytes, d) => bytes.length + uptoBulk d + 1
  | (_, d) => uptoBulk d + 1
 end
def uptoSmall : (H : Type) → List (DataW H) → Bool := fun _ ds => decide (uptoBulkAll ds ≤ 1048576)
def OpenSpec.upto (s : _root_.Go.ChangeSpec) : _root_.Go.OpenSpec := { _root_.Go.OpenSpec.ofChange s with cond := some uptoSmall }

/-- 'laws.FnExactAreaScale', WHERE WHAT IT READS IS OF BULK AT MOST 1048576: true; the input reads as it did. -/
def fnExactAreaScaleUptoRow : OpenClaim := { program := "ytjckiicaegpghaagreat", sum := "52c985396bf1558cf3ee5a84791e4c4102ecb9c296b979faa5b542881d037869", func := "loop.example/g00880/laws.FnExactAreaScale", spec := "fnExactAreaScale", inPlace := ["math/bits.Sub64", "math/bits.Add64"], unfollowed := true, recurses := true, named := ["math/bits.divideError", "math/bits.overflowError"], apart := false, narrowed := true }
def FnExactAreaScaleUptoSaid : Prop := fnExactAreaScaleUptoRow.holds Tryz.pinned (OpenSpec.upto fnExactAreaScaleSpec)

/-- 'laws.FnExactAngleDistortion', WHERE WHAT IT READS IS OF BULK AT MOST 1048576: true; the input reads as it did. -/
def fnExactAngleDistortionUptoRow : OpenClaim := { program := "ytjckiicaegpghaagreat", sum := "52c985396bf1558cf3ee5a84791e4c4102ecb9c296b979faa5b542881d037869", func := "loop.example/g00880/laws.FnExactAngleDistortion", spec := "fnExactAngleDistortion", inPlace := ["math/bits.Sub64", "math/bits.Add64"], unfollowed := true, recurses := true, named := ["math/bits.divideError", "math/bits.overflowError"], apart := false, narrowed := true }
def FnExactAngleDistortionUptoSaid : Prop := fnExactAngleDistortionUptoRow.holds Tryz.pinned (OpenSpec.upto fnExactAngleDistortionSpec)

/-- 'laws.FnExactProject', WHERE WHAT IT READS IS OF BULK AT MOST 1048576: true; the input reads as it did. -/
def fnExactProjectUptoRow : OpenClaim := { program := "ytjckiicaegpghaagreat", sum := "52c985396bf1558cf3ee5a84791e4c4102ecb9c296b979faa5b542881d037869", func := "loop.example/g00880/laws.FnExactProject", spec := "fnExactProject", inPlace := ["math/bits.Sub64", "math/bits.Add64"], unfollowed := true, recurses := true, named := ["math/bits.divideError", "math/bits.overflowError"], apart := false, narrowed := true }
def FnExactProjectUptoSaid : Prop := fnExactProjectUptoRow.holds Tryz.pinned (OpenSpec.upto fnExactProjectSpec)

/-- 'laws.FnExactMapDistance', WHERE WHAT IT READS IS OF BULK AT MOST 1048576: true; the input reads as it did. -/
def fnExactMapDistanceUptoRow : OpenClaim := { program := "ytjckiicaegpghaagreat", sum := "52c985396bf1558cf3ee5a84791e4c4102ecb9c296b979faa5b542881d037869", func := "loop.example/g00880/laws.FnExactMapDistance", spec := "fnExactMapDistance", inPlace := ["math/bits.Sub64", "math/bits.Add64"], unfollowed := true, recurses := true, named := ["math/bits.divideError", "math/bits.overflowError"], apart := false, narrowed := true }
def FnExactMapDistanceUptoSaid : Prop := fnExactMapDistanceUptoRow.holds Tryz.pinned (OpenSpec.upto fnExactMapDistanceSpec)

/-- 'laws.FnExactUnproject', WHERE WHAT IT READS IS OF BULK AT MOST 1048576: true; the input reads as it did. -/
def fnExactUnprojectUptoRow : OpenClaim := { program := "ytjckiicaegpghaagreat", sum := "52c985396bf1558cf3ee5a84791e4c4102ecb9c296b979faa5b542881d037869", func := "loop.example/g00880/laws.FnExactUnproject", spec := "fnExactUnproject", inPlace := ["math/bits.Sub64", "math/bits.Add64"], unfollowed := true, recurses := true, named := ["math/bits.divideError", "math/bits.overflowError"], apart := false, narrowed := true }
def FnExactUnprojectUptoSaid : Prop := fnExactUnprojectUptoRow.holds Tryz.pinned (OpenSpec.upto fnExactUnprojectSpec)

/-- 'laws.FnExactStretchOf', WHERE WHAT IT READS IS OF BULK AT MOST 1048576: true; the input reads as it did. -/
def fnExactStretchOfUptoRow : OpenClaim := { program := "ytjckiicaegpghaagreat", sum := "52c985396bf1558cf3ee5a84791e4c4102ecb9c296b979faa5b542881d037869", func := "loop.example/g00880/laws.FnExactStretchOf", spec := "fnExactStretchOf", inPlace := ["math/bits.Sub64", "math/bits.Add64"], unfollowed := true, recurses := true, named := ["math/bits.divideError", "math/bits.overflowError"], apart := false, narrowed := true }
def FnExactStretchOfUptoSaid : Prop := fnExactStretchOfUptoRow.holds Tryz.pinned (OpenSpec.upto fnExactStretchOfSpec)

end Rows
end Go.Proofs.YtjckiicaegpghaaGreat
