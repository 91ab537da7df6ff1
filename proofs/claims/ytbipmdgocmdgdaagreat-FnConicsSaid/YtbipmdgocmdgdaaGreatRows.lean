/-
  No cell of these rows narrows 'for every input' (looked for: loops, veiled, ifaces, maps, wideKeys, modest, calm, conditions, laid).
  DERIVED. THE GIVEN ROWS OF THIS SEAT. 2 by the template 'for every input the law returns true; each argument reads behind the call as it read before'; 0 by the template 'total and deterministic' (their statements: YtbipmdgocmdgdaaGreatTotals.lean).
  GIVEN WITH THE SEED: the statements are not yours to turn. If you find one false, say at which input.
  Laid BY PROGRAM, IN A SANDBOX (cutbox-rows.mjs): the forced cells as the released guide's own fill.sh prints them over the translation 684c215e36d51c4a… (all of the seat's roots in one cut). By AI agents, Wed Nov 11 2026. No macro, syntax, notation, axiom, sorry.
-/
import Derived.Test.YtbipmdgocmdgdaaGreatChecked
import GoSem.Claim
import GoSem.ClaimJoined
import GoSem.ClaimMapViews
import Derived.JoinedTies
import Derived.KernelRfl
namespace Go.Proofs.YtbipmdgocmdgdaaGreat
/- THE CELL 'sum', in the pinned program and in every row, IS THE sha256 OF THE DUMP (.gsa) THAT YtbipmdgocmdgdaaGreatProg.lean LOADS. Nothing in Lean hashes anything: it is a label: what it is worth is what the hold of that sum in a sandbox is worth. -/
noncomputable def Tryz.pinned : Pinned := { name := "ytbipmdgocmdgdaagreat", sum := "684c215e36d51c4a3fdf2496a300e5c409120ae87d51aec159804222e5d45a62", checked := Tryz.checked }
namespace Rows
def none {H : Type} : Left H := { results := [], args := [] }

/-- 'laws.FnConics': WHATEVER THE INPUT: true; the input reads as it did. -/
def fnConicsSpec : ChangeSpec := { name := "fnConics", fn := fun _ => fun
  | [d] => { results := [.lit (.bool true)], args := [d] }
  | _ => none }
def fnConicsRow : OpenClaim := { program := "ytbipmdgocmdgdaagreat", sum := "684c215e36d51c4a3fdf2496a300e5c409120ae87d51aec159804222e5d45a62", func := "loop.example/g00880/laws.FnConics", spec := "fnConics", inPlace := ["math/bits.Sub64", "math/bits.Add64"], unfollowed := true, recurses := true, named := ["math/bits.divideError", "math/bits.overflowError"], apart := false }
def FnConicsSaid : Prop := fnConicsRow.holds Tryz.pinned (OpenSpec.ofChange fnConicsSpec)

/-- ITS FALSE NEIGHBOUR: 'it returns false'. Refute it at one input. -/
def fnConicsWrong : ChangeSpec := { name := "fnConics", fn := fun _ => fun
  | [d] => { results := [.lit (.bool false)], args := [d] }
  | _ => none }
def FnConicsWrongFalsely : Prop := fnConicsRow.holds Tryz.pinned (OpenSpec.ofChange fnConicsWrong)

/-- 'laws.FnAzimuthal': WHATEVER THE INPUT: true; the input reads as it did. -/
def fnAzimuthalSpec : ChangeSpec := { name := "fnAzimuthal", fn := fun _ => fun
  | [d] => { results := [.lit (.bool true)], args := [d] }
  | _ => none }
def fnAzimuthalRow : OpenClaim := { program := "ytbipmdgocmdgdaagreat", sum := "684c215e36d51c4a3fdf2496a300e5c409120ae87d51aec159804222e5d45a62", func := "loop.example/g00880/laws.FnAzimuthal", spec := "fnAzimuthal", inPlace := ["math/bits.Sub64", "math/bits.Add64"], unfollowed := true, recurses := true, named := ["math/bits.divideError", "math/bits.overflowError"], apart := false }
def FnAzimuthalSaid : Prop := fnAzimuthalRow.holds Tryz.pinned (OpenSpec.ofChange fnAzimuthalSpec)

/-- ITS FALSE NEIGHBOUR: 'it returns false'. Refute it at one input. -/
def fnAzimuthalWrong : ChangeSpec := { name := "fnAzimuthal", fn := fun _ => fun
  | [d] => { results := [.lit (.bool false)], args := [d] }
  | _ => none }
def FnAzimuthalWrongFalsely : Prop := fnAzimuthalRow.holds Tryz.pinned (OpenSpec.ofChange fnAzimuthalWrong)

/- THE SECOND FORM. 'bulk': how many values and letters a reading holds, each counted each time it is reached (what is shared counts as often as it is met; a slice's spare places count too). A statement '..UptoSaid' is the law's where the arguments, and the package variables that the reading takes, are together of bulk at most 1048576: NARROWER than '..Said'. Prove '..Said' where nothing that the law and all that it calls make is longer than what came in: it says more and counts as full. Else prove '..UptoSaid'. A law counts once. -/
mutual
def uptoBulk {H : Type} : DataW H → Nat
  | .lit (.string bytes) => bytes.length + 1
  | .lit _ => 1
  | .nil => 1
  | .ptr d => uptoBulk d + 1
  | .slice elems spare => uptoBulkAll elems + uptoBulkAll spare + 1
  | .agg parts => uptoBulkAll parts + 1
  | .iface _ d => uptoBulk d + 1
  | .map entries => uptoBulkEntries entries + 1
  | .held _ => 1
def uptoBulkAll {H : Type} : List (DataW H) → Nat
  | [] => 0
  | d :: r => uptoBulk d + uptoBulkAll r
def uptoBulkEntries {H : Type} : List (Lit × DataW H) → Nat
  | [] => 0
  | x :: r => uptoBulkEntry x + uptoBulkEntries r
def uptoBulkEntry {H : Type} : Lit × DataW H → Nat
  | (.string bytes, d) => bytes.length + uptoBulk d + 1
  | (_, d) => uptoBulk d + 1
 end
def uptoSmall : (H : Type) → List (DataW H) → Bool := fun _ ds => decide (uptoBulkAll ds ≤ 1048576)
def OpenSpec.upto (s : _root_.Go.ChangeSpec) : _root_.Go.OpenSpec := { _root_.Go.OpenSpec.ofChange s with cond := some uptoSmall }

/-- 'laws.FnConics', WHERE WHAT IT READS IS OF BULK AT MOST 1048576: true; the input reads as it did. -/
def fnConicsUptoRow : OpenClaim := { program := "ytbipmdgocmdgdaagreat", sum := "684c215e36d51c4a3fdf2496a300e5c409120ae87d51aec159804222e5d45a62", func := "loop.example/g00880/laws.FnConics", spec := "fnConics", inPlace := ["math/bits.Sub64", "math/bits.Add64"], unfollowed := true, recurses := true, named := ["math/bits.divideError", "math/bits.overflowError"], apart := false, narrowed := true }
def FnConicsUptoSaid : Prop := fnConicsUptoRow.holds Tryz.pinned (OpenSpec.upto fnConicsSpec)

/-- 'laws.FnAzimuthal', WHERE WHAT IT READS IS OF BULK AT MOST 1048576: true; the input reads as it did. -/
def fnAzimuthalUptoRow : OpenClaim := { program := "ytbipmdgocmdgdaagreat", sum := "684c215e36d51c4a3fdf2496a300e5c409120ae87d51aec159804222e5d45a62", func := "loop.example/g00880/laws.FnAzimuthal", spec := "fnAzimuthal", inPlace := ["math/bits.Sub64", "math/bits.Add64"], unfollowed := true, recurses := true, named := ["math/bits.divideError", "math/bits.overflowError"], apart := false, narrowed := true }
def FnAzimuthalUptoSaid : Prop := fnAzimuthalUptoRow.holds Tryz.pinned (OpenSpec.upto fnAzimuthalSpec)

end Rows
end Go.Proofs.YtbipmdgocmdgdaaGreat
