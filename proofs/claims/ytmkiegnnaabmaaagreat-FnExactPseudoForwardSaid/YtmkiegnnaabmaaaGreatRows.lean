/-
  No cell of these rows narrows 'for every input' (looked for: loops, veiled, ifaces, maps, wideKeys, modest, calm, conditions, laid).
  DERIVED. THE GIVEN ROWS OF THIS SEAT. 6 by the template 'for every input the law returns true; each argument reads behind the call as it read before'; 0 by the template 'total and deterministic' (their statements: YtmkiegnnaabmaaaGreatTotals.lean).
  GIVEN WITH THE SEED: the statements are not yours to turn. If you find one false, say at which input.
  Laid BY PROGRAM, IN A SANDBOX (cutbox-rows.mjs): the forced cells as the released guide's own fill.sh prints them over the translation 1a378dd7e9fd851d… (all of the seat's roots in one cut). By AI agents, Wed Nov 11 2026. No macro, syntax, notation, axiom, sorry.
-/
import Derived.Test.YtmkiegnnaabmaaaGreatChecked
import GoSem.Claim
import GoSem.ClaimJoined
import GoSem.ClaimMapViews
import Derived.JoinedTies
import Derived.KernelRfl
namespace Go.Proofs.YtmkiegnnaabmaaaGreat
/- THE CELL 'sum', in the pinned program and in every row, IS THE sha256 OF THE DUMP (.gsa) THAT YtmkiegnnaabmaaaGreatProg.lean LOADS. Nothing in Lean hashes anything: it is a label: what it is worth is what the hold of that sum in a sandbox is worth. -/
noncomputable def Tryz.pinned : Pinned := { name := "ytmkiegnnaabmaaagreat", sum := "1a378dd7e9fd851d1d64a3a55efdcfa77d03c3d059425dd8d1f3deb0bda39364", checked := Tryz.checked }
namespace Rows
def none {H : Type} : Left H := { results := [], args := [] }

/-- 'laws.FnExactEckertAt': WHATEVER THE INPUT: true; the input reads as it did. -/
def fnExactEckertAtSpec : ChangeSpec := { name := "fnExactEckertAt", fn := fun _ => fun
  | [d] => { results := [.lit (.bool true)], args := [d] }
  | _ => none }
def fnExactEckertAtRow : OpenClaim := { program := "ytmkiegnnaabmaaagreat", sum := "1a378dd7e9fd851d1d64a3a55efdcfa77d03c3d059425dd8d1f3deb0bda39364", func := "loop.example/g00880/laws.FnExactEckertAt", spec := "fnExactEckertAt", inPlace := ["math/bits.Sub64", "math/bits.Add64"], unfollowed := true, recurses := true, named := ["math/bits.divideError", "math/bits.overflowError"], apart := false }
def FnExactEckertAtSaid : Prop := fnExactEckertAtRow.holds Tryz.pinned (OpenSpec.ofChange fnExactEckertAtSpec)

/-- ITS FALSE NEIGHBOUR: 'it returns false'. Refute it at one input. -/
def fnExactEckertAtWrong : ChangeSpec := { name := "fnExactEckertAt", fn := fun _ => fun
  | [d] => { results := [.lit (.bool false)], args := [d] }
  | _ => none }
def FnExactEckertAtWrongFalsely : Prop := fnExactEckertAtRow.holds Tryz.pinned (OpenSpec.ofChange fnExactEckertAtWrong)

/-- 'laws.FnExactMollweideAt': WHATEVER THE INPUT: true; the input reads as it did. -/
def fnExactMollweideAtSpec : ChangeSpec := { name := "fnExactMollweideAt", fn := fun _ => fun
  | [d] => { results := [.lit (.bool true)], args := [d] }
  | _ => none }
def fnExactMollweideAtRow : OpenClaim := { program := "ytmkiegnnaabmaaagreat", sum := "1a378dd7e9fd851d1d64a3a55efdcfa77d03c3d059425dd8d1f3deb0bda39364", func := "loop.example/g00880/laws.FnExactMollweideAt", spec := "fnExactMollweideAt", inPlace := ["math/bits.Sub64", "math/bits.Add64"], unfollowed := true, recurses := true, named := ["math/bits.divideError", "math/bits.overflowError"], apart := false }
def FnExactMollweideAtSaid : Prop := fnExactMollweideAtRow.holds Tryz.pinned (OpenSpec.ofChange fnExactMollweideAtSpec)

/-- ITS FALSE NEIGHBOUR: 'it returns false'. Refute it at one input. -/
def fnExactMollweideAtWrong : ChangeSpec := { name := "fnExactMollweideAt", fn := fun _ => fun
  | [d] => { results := [.lit (.bool false)], args := [d] }
  | _ => none }
def FnExactMollweideAtWrongFalsely : Prop := fnExactMollweideAtRow.holds Tryz.pinned (OpenSpec.ofChange fnExactMollweideAtWrong)

/-- 'laws.FnExactThetaOf': WHATEVER THE INPUT: true; the input reads as it did. -/
def fnExactThetaOfSpec : ChangeSpec := { name := "fnExactThetaOf", fn := fun _ => fun
  | [d1, d2] => { results := [.lit (.bool true)], args := [d1, d2] }
  | _ => none }
def fnExactThetaOfRow : OpenClaim := { program := "ytmkiegnnaabmaaagreat", sum := "1a378dd7e9fd851d1d64a3a55efdcfa77d03c3d059425dd8d1f3deb0bda39364", func := "loop.example/g00880/laws.FnExactThetaOf", spec := "fnExactThetaOf", inPlace := ["math/bits.Sub64", "math/bits.Add64"], unfollowed := true, recurses := true, named := ["math/bits.divideError", "math/bits.overflowError"], apart := false }
def FnExactThetaOfSaid : Prop := fnExactThetaOfRow.holds Tryz.pinned (OpenSpec.ofChange fnExactThetaOfSpec)

/-- ITS FALSE NEIGHBOUR: 'it returns false'. Refute it at one input. -/
def fnExactThetaOfWrong : ChangeSpec := { name := "fnExactThetaOf", fn := fun _ => fun
  | [d1, d2] => { results := [.lit (.bool false)], args := [d1, d2] }
  | _ => none }
def FnExactThetaOfWrongFalsely : Prop := fnExactThetaOfRow.holds Tryz.pinned (OpenSpec.ofChange fnExactThetaOfWrong)

/-- 'laws.FnExactTransverseScale': WHATEVER THE INPUT: true; the input reads as it did. -/
def fnExactTransverseScaleSpec : ChangeSpec := { name := "fnExactTransverseScale", fn := fun _ => fun
  | [d1, d2] => { results := [.lit (.bool true)], args := [d1, d2] }
  | _ => none }
def fnExactTransverseScaleRow : OpenClaim := { program := "ytmkiegnnaabmaaagreat", sum := "1a378dd7e9fd851d1d64a3a55efdcfa77d03c3d059425dd8d1f3deb0bda39364", func := "loop.example/g00880/laws.FnExactTransverseScale", spec := "fnExactTransverseScale", inPlace := ["math/bits.Sub64", "math/bits.Add64"], unfollowed := true, recurses := true, named := ["math/bits.divideError", "math/bits.overflowError"], apart := false }
def FnExactTransverseScaleSaid : Prop := fnExactTransverseScaleRow.holds Tryz.pinned (OpenSpec.ofChange fnExactTransverseScaleSpec)

/-- ITS FALSE NEIGHBOUR: 'it returns false'. Refute it at one input. -/
def fnExactTransverseScaleWrong : ChangeSpec := { name := "fnExactTransverseScale", fn := fun _ => fun
  | [d1, d2] => { results := [.lit (.bool false)], args := [d1, d2] }
  | _ => none }
def FnExactTransverseScaleWrongFalsely : Prop := fnExactTransverseScaleRow.holds Tryz.pinned (OpenSpec.ofChange fnExactTransverseScaleWrong)

/-- 'laws.FnExactParallelOf': WHATEVER THE INPUT: true; the input reads as it did. -/
def fnExactParallelOfSpec : ChangeSpec := { name := "fnExactParallelOf", fn := fun _ => fun
  | [d1, d2] => { results := [.lit (.bool true)], args := [d1, d2] }
  | _ => none }
def fnExactParallelOfRow : OpenClaim := { program := "ytmkiegnnaabmaaagreat", sum := "1a378dd7e9fd851d1d64a3a55efdcfa77d03c3d059425dd8d1f3deb0bda39364", func := "loop.example/g00880/laws.FnExactParallelOf", spec := "fnExactParallelOf", inPlace := ["math/bits.Sub64", "math/bits.Add64"], unfollowed := true, recurses := true, named := ["math/bits.divideError", "math/bits.overflowError"], apart := false }
def FnExactParallelOfSaid : Prop := fnExactParallelOfRow.holds Tryz.pinned (OpenSpec.ofChange fnExactParallelOfSpec)

/-- ITS FALSE NEIGHBOUR: 'it returns false'. Refute it at one input. -/
def fnExactParallelOfWrong : ChangeSpec := { name := "fnExactParallelOf", fn := fun _ => fun
  | [d1, d2] => { results := [.lit (.bool false)], args := [d1, d2] }
  | _ => none }
def FnExactParallelOfWrongFalsely : Prop := fnExactParallelOfRow.holds Tryz.pinned (OpenSpec.ofChange fnExactParallelOfWrong)

/-- 'laws.FnExactPseudoForward': WHATEVER THE INPUT: true; the input reads as it did. -/
def fnExactPseudoForwardSpec : ChangeSpec := { name := "fnExactPseudoForward", fn := fun _ => fun
  | [d1, d2] => { results := [.lit (.bool true)], args := [d1, d2] }
  | _ => none }
def fnExactPseudoForwardRow : OpenClaim := { program := "ytmkiegnnaabmaaagreat", sum := "1a378dd7e9fd851d1d64a3a55efdcfa77d03c3d059425dd8d1f3deb0bda39364", func := "loop.example/g00880/laws.FnExactPseudoForward", spec := "fnExactPseudoForward", inPlace := ["math/bits.Sub64", "math/bits.Add64"], unfollowed := true, recurses := true, named := ["math/bits.divideError", "math/bits.overflowError"], apart := false }
def FnExactPseudoForwardSaid : Prop := fnExactPseudoForwardRow.holds Tryz.pinned (OpenSpec.ofChange fnExactPseudoForwardSpec)

/-- ITS FALSE NEIGHBOUR: 'it returns false'. Refute it at one input. -/
def fnExactPseudoForwardWrong : ChangeSpec := { name := "fnExactPseudoForward", fn := fun _ => fun
  | [d1, d2] => { results := [.lit (.bool false)], args := [d1, d2] }
  | _ => none }
def FnExactPseudoForwardWrongFalsely : Prop := fnExactPseudoForwardRow.holds Tryz.pinned (OpenSpec.ofChange fnExactPseudoForwardWrong)

/- THE SECOND FORM. 'bulk': how many values and letters a reading holds, each counted each time it is reached (what is shared counts as often as it is met; a slice's spare places count too). A statement '..UptoSaid' is the law's where the arguments, and the package variables that the reading takes, are together of bulk at most 1048576: NARROWER than '..Said'. Prove '..Said' where nothing that the law and all that it calls make is longer than what came in: it says more and counts as full. Else prove '..UptoSaid'. A law counts once. -/
mutual
def uptoBulk {H : Type} : DataW H → Nat
  | .lit (.string bytes) => bytes.length + 1
  | .lit _ => 1
  | .nil => 1
  | .ptr d => uptoBulk d + 1
  | .slice elems spare => uptoBulkAll elems + uptoBulkAll spare + 1
  | .agg parts => uptoBulkAll parts + 1
  | .iface _ d => uptoBulk d + 1
  | .map entries => uptoBulkEntries entries + 1
  | .held _ => 1
def uptoBulkAll {H : Type} : List (DataW H) → Nat
  | [] => 0
  | d :: r => uptoBulk d + uptoBulkAll r
def uptoBulkEntries {H : Type} : List (Lit × DataW H) → Nat
  | [] => 0
  | x :: r => uptoBulkEntry x + uptoBulkEntries r
def uptoBulkEntry {H : Type} : Lit × DataW H → Nat
  | (.string bytes, d) => bytes.length + uptoBulk d + 1
  | (_, d) => uptoBulk d + 1
 end
def uptoSmall : (H : Type) → List (DataW H) → Bool := fun _ ds => decide (uptoBulkAll ds ≤ 1048576)
def OpenSpec.upto (s : _root_.Go.ChangeSpec) : _root_.Go.OpenSpec := { _root_.Go.OpenSpec.ofChange s with cond := some uptoSmall }

/-- 'laws.FnExactEckertAt', WHERE WHAT IT READS IS OF BULK AT MOST 1048576: true; the input reads as it did. -/
def fnExactEckertAtUptoRow : OpenClaim := { program := "ytmkiegnnaabmaaagreat", sum := "1a378dd7e9fd851d1d64a3a55efdcfa77d03c3d059425dd8d1f3deb0bda39364", func := "loop.example/g00880/laws.FnExactEckertAt", spec := "fnExactEckertAt", inPlace := ["math/bits.Sub64", "math/bits.Add64"], unfollowed := true, recurses := true, named := ["math/bits.divideError", "math/bits.overflowError"], apart := false, narrowed := true }
def FnExactEckertAtUptoSaid : Prop := fnExactEckertAtUptoRow.holds Tryz.pinned (OpenSpec.upto fnExactEckertAtSpec)

/-- 'laws.FnExactMollweideAt', WHERE WHAT IT READS IS OF BULK AT MOST 1048576: true; the input reads as it did. -/
def fnExactMollweideAtUptoRow : OpenClaim := { program := "ytmkiegnnaabmaaagreat", sum := "1a378dd7e9fd851d1d64a3a55efdcfa77d03c3d059425dd8d1f3deb0bda39364", func := "loop.example/g00880/laws.FnExactMollweideAt", spec := "fnExactMollweideAt", inPlace := ["math/bits.Sub64", "math/bits.Add64"], unfollowed := true, recurses := true, named := ["math/bits.divideError", "math/bits.overflowError"], apart := false, narrowed := true }
def FnExactMollweideAtUptoSaid : Prop := fnExactMollweideAtUptoRow.holds Tryz.pinned (OpenSpec.upto fnExactMollweideAtSpec)

/-- 'laws.FnExactThetaOf', WHERE WHAT IT READS IS OF BULK AT MOST 1048576: true; the input reads as it did. -/
def fnExactThetaOfUptoRow : OpenClaim := { program := "ytmkiegnnaabmaaagreat", sum := "1a378dd7e9fd851d1d64a3a55efdcfa77d03c3d059425dd8d1f3deb0bda39364", func := "loop.example/g00880/laws.FnExactThetaOf", spec := "fnExactThetaOf", inPlace := ["math/bits.Sub64", "math/bits.Add64"], unfollowed := true, recurses := true, named := ["math/bits.divideError", "math/bits.overflowError"], apart := false, narrowed := true }
def FnExactThetaOfUptoSaid : Prop := fnExactThetaOfUptoRow.holds Tryz.pinned (OpenSpec.upto fnExactThetaOfSpec)

/-- 'laws.FnExactTransverseScale', WHERE WHAT IT READS IS OF BULK AT MOST 1048576: true; the input reads as it did. -/
def fnExactTransverseScaleUptoRow : OpenClaim := { program := "ytmkiegnnaabmaaagreat", sum := "1a378dd7e9fd851d1d64a3a55efdcfa77d03c3d059425dd8d1f3deb0bda39364", func := "loop.example/g00880/laws.FnExactTransverseScale", spec := "fnExactTransverseScale", inPlace := ["math/bits.Sub64", "math/bits.Add64"], unfollowed := true, recurses := true, named := ["math/bits.divideError", "math/bits.overflowError"], apart := false, narrowed := true }
def FnExactTransverseScaleUptoSaid : Prop := fnExactTransverseScaleUptoRow.holds Tryz.pinned (OpenSpec.upto fnExactTransverseScaleSpec)

/-- 'laws.FnExactParallelOf', WHERE WHAT IT READS IS OF BULK AT MOST 1048576: true; the input reads as it did. -/
def fnExactParallelOfUptoRow : OpenClaim := { program := "ytmkiegnnaabmaaagreat", sum := "1a378dd7e9fd851d1d64a3a55efdcfa77d03c3d059425dd8d1f3deb0bda39364", func := "loop.example/g00880/laws.FnExactParallelOf", spec := "fnExactParallelOf", inPlace := ["math/bits.Sub64", "math/bits.Add64"], unfollowed := true, recurses := true, named := ["math/bits.divideError", "math/bits.overflowError"], apart := false, narrowed := true }
def FnExactParallelOfUptoSaid : Prop := fnExactParallelOfUptoRow.holds Tryz.pinned (OpenSpec.upto fnExactParallelOfSpec)

/-- 'laws.FnExactPseudoForward', WHERE WHAT IT READS IS OF BULK AT MOST 1048576: true; the input reads as it did. -/
def fnExactPseudoForwardUptoRow : OpenClaim := { program := "ytmkiegnnaabmaaagreat", sum := "1a378dd7e9fd851d1d64a3a55efdcfa77d03c3d059425dd8d1f3deb0bda39364", func := "loop.example/g00880/laws.FnExactPseudoForward", spec := "fnExactPseudoForward", inPlace := ["math/bits.Sub64", "math/bits.Add64"], unfollowed := true, recurses := true, named := ["math/bits.divideError", "math/bits.overflowError"], apart := false, narrowed := true }
def FnExactPseudoForwardUptoSaid : Prop := fnExactPseudoForwardUptoRow.holds Tryz.pinned (OpenSpec.upto fnExactPseudoForwardSpec)

end Rows
end Go.Proofs.YtmkiegnnaabmaaaGreat
