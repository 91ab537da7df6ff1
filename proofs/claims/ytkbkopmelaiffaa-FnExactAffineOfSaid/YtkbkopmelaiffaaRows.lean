/-
  No cell of these rows narrows 'for every input' (looked for: loops, veiled, ifaces, maps, wideKeys, modest, calm, conditions, laid).
  DERIVED. THE GIVEN ROWS OF THIS SEAT. 4 by the template 'for every input the law returns true; each argument reads behind the call as it read before'; 0 by the template 'total and deterministic' (their statements: YtkbkopmelaiffaaTotals.lean).
  GIVEN WITH THE SEED: the statements are not yours to turn. If you find one false, say at which input.
  Laid BY PROGRAM, IN A SANDBOX (cutbox-rows.mjs): the forced cells as the released guide's own fill.sh prints them over the translation bba921571e020246… (all of the seat's roots in one cut). By AI agents, Wed Nov 11 2026. No macro, syntax, notation, axiom, sorry.
-/
import Derived.Test.YtkbkopmelaiffaaChecked
import GoSem.Claim
import GoSem.ClaimJoined
import GoSem.ClaimMapViews
import Derived.JoinedTies
import Derived.KernelRfl
namespace Go.Proofs.Ytkbkopmelaiffaa
/- THE CELL 'sum', in the pinned program and in every row, IS THE sha256 OF THE DUMP (.gsa) THAT YtkbkopmelaiffaaProg.lean LOADS. Nothing in Lean hashes anything: it is a label: what it is worth is what the hold of that sum in a sandbox is worth. -/
noncomputable def Try.pinned : Pinned := { name := "ytkbkopmelaiffaa", sum := "bba921571e020246039deca43f4ecd81859a9a1cbe09ef9343faf6d2d86adc31", checked := Try.checked }
namespace Rows
def none {H : Type} : Left H := { results := [], args := [] }

/-- 'laws.FnExactApplyAffine': WHATEVER THE INPUT: true; the input reads as it did. -/
def fnExactApplyAffineSpec : ChangeSpec := { name := "fnExactApplyAffine", fn := fun _ => fun
  | [d1, d2] => { results := [.lit (.bool true)], args := [d1, d2] }
  | _ => none }
def fnExactApplyAffineRow : OpenClaim := { program := "ytkbkopmelaiffaa", sum := "bba921571e020246039deca43f4ecd81859a9a1cbe09ef9343faf6d2d86adc31", func := "loop.example/g00880/laws.FnExactApplyAffine", spec := "fnExactApplyAffine", unfollowed := true, recurses := true, apart := false }
def FnExactApplyAffineSaid : Prop := fnExactApplyAffineRow.holds Try.pinned (OpenSpec.ofChange fnExactApplyAffineSpec)

/-- ITS FALSE NEIGHBOUR: 'it returns false'. Refute it at one input. -/
def fnExactApplyAffineWrong : ChangeSpec := { name := "fnExactApplyAffine", fn := fun _ => fun
  | [d1, d2] => { results := [.lit (.bool false)], args := [d1, d2] }
  | _ => none }
def FnExactApplyAffineWrongFalsely : Prop := fnExactApplyAffineRow.holds Try.pinned (OpenSpec.ofChange fnExactApplyAffineWrong)

/-- 'laws.FnExactThenAffine': WHATEVER THE INPUT: true; the input reads as it did. -/
def fnExactThenAffineSpec : ChangeSpec := { name := "fnExactThenAffine", fn := fun _ => fun
  | [d1, d2] => { results := [.lit (.bool true)], args := [d1, d2] }
  | _ => none }
def fnExactThenAffineRow : OpenClaim := { program := "ytkbkopmelaiffaa", sum := "bba921571e020246039deca43f4ecd81859a9a1cbe09ef9343faf6d2d86adc31", func := "loop.example/g00880/laws.FnExactThenAffine", spec := "fnExactThenAffine", unfollowed := true, recurses := true, apart := false }
def FnExactThenAffineSaid : Prop := fnExactThenAffineRow.holds Try.pinned (OpenSpec.ofChange fnExactThenAffineSpec)

/-- ITS FALSE NEIGHBOUR: 'it returns false'. Refute it at one input. -/
def fnExactThenAffineWrong : ChangeSpec := { name := "fnExactThenAffine", fn := fun _ => fun
  | [d1, d2] => { results := [.lit (.bool false)], args := [d1, d2] }
  | _ => none }
def FnExactThenAffineWrongFalsely : Prop := fnExactThenAffineRow.holds Try.pinned (OpenSpec.ofChange fnExactThenAffineWrong)

/-- 'laws.FnExactAffineOf': WHATEVER THE INPUT: true; the input reads as it did. -/
def fnExactAffineOfSpec : ChangeSpec := { name := "fnExactAffineOf", fn := fun _ => fun
  | [d] => { results := [.lit (.bool true)], args := [d] }
  | _ => none }
def fnExactAffineOfRow : OpenClaim := { program := "ytkbkopmelaiffaa", sum := "bba921571e020246039deca43f4ecd81859a9a1cbe09ef9343faf6d2d86adc31", func := "loop.example/g00880/laws.FnExactAffineOf", spec := "fnExactAffineOf", inPlace := ["math/bits.Sub64", "math/bits.Add64"], unfollowed := true, recurses := true, named := ["math/bits.divideError", "math/bits.overflowError"], apart := false }
def FnExactAffineOfSaid : Prop := fnExactAffineOfRow.holds Try.pinned (OpenSpec.ofChange fnExactAffineOfSpec)

/-- ITS FALSE NEIGHBOUR: 'it returns false'. Refute it at one input. -/
def fnExactAffineOfWrong : ChangeSpec := { name := "fnExactAffineOf", fn := fun _ => fun
  | [d] => { results := [.lit (.bool false)], args := [d] }
  | _ => none }
def FnExactAffineOfWrongFalsely : Prop := fnExactAffineOfRow.holds Try.pinned (OpenSpec.ofChange fnExactAffineOfWrong)

/-- 'laws.FnExactInvertAffine': WHATEVER THE INPUT: true; the input reads as it did. -/
def fnExactInvertAffineSpec : ChangeSpec := { name := "fnExactInvertAffine", fn := fun _ => fun
  | [d] => { results := [.lit (.bool true)], args := [d] }
  | _ => none }
def fnExactInvertAffineRow : OpenClaim := { program := "ytkbkopmelaiffaa", sum := "bba921571e020246039deca43f4ecd81859a9a1cbe09ef9343faf6d2d86adc31", func := "loop.example/g00880/laws.FnExactInvertAffine", spec := "fnExactInvertAffine", inPlace := ["math/bits.Sub64", "math/bits.Add64"], unfollowed := true, recurses := true, named := ["math/bits.divideError", "math/bits.overflowError"], apart := false }
def FnExactInvertAffineSaid : Prop := fnExactInvertAffineRow.holds Try.pinned (OpenSpec.ofChange fnExactInvertAffineSpec)

/-- ITS FALSE NEIGHBOUR: 'it returns false'. Refute it at one input. -/
def fnExactInvertAffineWrong : ChangeSpec := { name := "fnExactInvertAffine", fn := fun _ => fun
  | [d] => { results := [.lit (.bool false)], args := [d] }
  | _ => none }
def FnExactInvertAffineWrongFalsely : Prop := fnExactInvertAffineRow.holds Try.pinned (OpenSpec.ofChange fnExactInvertAffineWrong)

/- THE SECOND FORM. 'bulk': how many values and letters a reading holds, each counted each time it is reached (what is shared counts as often as it is met; a slice's spare places count too). A statement '..UptoSaid' is the law's where the arguments, and the package variables that the reading takes, are together of bulk at most 1048576: NARROWER than '..Said'. Prove '..Said' where nothing that the law and all that it calls make is longer than what came in: it says more and counts as full. Else prove '..UptoSaid'. A law counts once. -/
mutual
def uptoBulk {H : Type} : DataW H → Nat
  | .lit (.string bytes) => bytes.length + 1
  | .lit _ => 1
  | .nil => 1
  | .ptr d => uptoBulk d + 1
  | .slice elems spare => uptoBulkAll elems + uptoBulkAll spare + 1
  | .agg parts => uptoBulkAll parts + 1
  | .iface _ d => uptoBulk d + 1
  | .map entries => uptoBulkEntries entries + 1
  | .held _ => 1
def uptoBulkAll {H : Type} : List (DataW H) → Nat
  | [] => 0
  | d :: r => uptoBulk d + uptoBulkAll r
def uptoBulkEntries {H : Type} : List (Lit × DataW H) → Nat
  | [] => 0
  | x :: r => uptoBulkEntry x + uptoBulkEntries r
def uptoBulkEntry {H : Type} : Lit × DataW H → Nat
  | (.string bytes, d) => bytes.length + uptoBulk d + 1
  | (_, d) => uptoBulk d + 1
 end
def uptoSmall : (H : Type) → List (DataW H) → Bool := fun _ ds => decide (uptoBulkAll ds ≤ 1048576)
def OpenSpec.upto (s : _root_.Go.ChangeSpec) : _root_.Go.OpenSpec := { _root_.Go.OpenSpec.ofChange s with cond := some uptoSmall }

/-- 'laws.FnExactApplyAffine', WHERE WHAT IT READS IS OF BULK AT MOST 1048576: true; the input reads as it did. -/
def fnExactApplyAffineUptoRow : OpenClaim := { program := "ytkbkopmelaiffaa", sum := "bba921571e020246039deca43f4ecd81859a9a1cbe09ef9343faf6d2d86adc31", func := "loop.example/g00880/laws.FnExactApplyAffine", spec := "fnExactApplyAffine", unfollowed := true, recurses := true, apart := false, narrowed := true }
def FnExactApplyAffineUptoSaid : Prop := fnExactApplyAffineUptoRow.holds Try.pinned (OpenSpec.upto fnExactApplyAffineSpec)

/-- 'laws.FnExactThenAffine', WHERE WHAT IT READS IS OF BULK AT MOST 1048576: true; the input reads as it did. -/
def fnExactThenAffineUptoRow : OpenClaim := { program := "ytkbkopmelaiffaa", sum := "bba921571e020246039deca43f4ecd81859a9a1cbe09ef9343faf6d2d86adc31", func := "loop.example/g00880/laws.FnExactThenAffine", spec := "fnExactThenAffine", unfollowed := true, recurses := true, apart := false, narrowed := true }
def FnExactThenAffineUptoSaid : Prop := fnExactThenAffineUptoRow.holds Try.pinned (OpenSpec.upto fnExactThenAffineSpec)

/-- 'laws.FnExactAffineOf', WHERE WHAT IT READS IS OF BULK AT MOST 1048576: true; the input reads as it did. -/
def fnExactAffineOfUptoRow : OpenClaim := { program := "ytkbkopmelaiffaa", sum := "bba921571e020246039deca43f4ecd81859a9a1cbe09ef9343faf6d2d86adc31", func := "loop.example/g00880/laws.FnExactAffineOf", spec := "fnExactAffineOf", inPlace := ["math/bits.Sub64", "math/bits.Add64"], unfollowed := true, recurses := true, named := ["math/bits.divideError", "math/bits.overflowError"], apart := false, narrowed := true }
def FnExactAffineOfUptoSaid : Prop := fnExactAffineOfUptoRow.holds Try.pinned (OpenSpec.upto fnExactAffineOfSpec)

/-- 'laws.FnExactInvertAffine', WHERE WHAT IT READS IS OF BULK AT MOST 1048576: true; the input reads as it did. -/
def fnExactInvertAffineUptoRow : OpenClaim := { program := "ytkbkopmelaiffaa", sum := "bba921571e020246039deca43f4ecd81859a9a1cbe09ef9343faf6d2d86adc31", func := "loop.example/g00880/laws.FnExactInvertAffine", spec := "fnExactInvertAffine", inPlace := ["math/bits.Sub64", "math/bits.Add64"], unfollowed := true, recurses := true, named := ["math/bits.divideError", "math/bits.overflowError"], apart := false, narrowed := true }
def FnExactInvertAffineUptoSaid : Prop := fnExactInvertAffineUptoRow.holds Try.pinned (OpenSpec.upto fnExactInvertAffineSpec)

end Rows
end Go.Proofs.Ytkbkopmelaiffaa
