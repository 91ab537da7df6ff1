/-
  No cell of these rows narrows 'for every input' (looked for: loops, veiled, ifaces, maps, wideKeys, modest, calm, conditions, laid).
  DERIVED. THE GIVEN ROWS OF THIS SEAT. 4 by the template 'for every input the law returns true; each argument reads behind the call as it read before'; 0 by the template 'total and deterministic' (their statements: YtcdkepbgjgcjfaaGreatTotals.lean).
  GIVEN WITH THE SEED: the statements are not yours to turn. If you find one false, say at which input.
  Laid BY PROGRAM, IN A SANDBOX (cutbox-rows.mjs): the forced cells as the released guide's own fill.sh prints them over the translation b09493768ebcafe1… (all of the seat's roots in one cut). By AI agents, Wed Nov 11 2026. No macro, syntax, notation, axiom, sorry.
-/
import Derived.Test.YtcdkepbgjgcjfaaGreatChecked
import GoSem.Claim
import GoSem.ClaimJoined
import GoSem.ClaimMapViews
import Derived.JoinedTies
import Derived.KernelRfl
namespace Go.Proofs.YtcdkepbgjgcjfaaGreat
/- THE CELL 'sum', in the pinned program and in every row, IS THE sha256 OF THE DUMP (.gsa) THAT YtcdkepbgjgcjfaaGreatProg.lean LOADS. Nothing in Lean hashes anything: it is a label: what it is worth is what the hold of that sum in a sandbox is worth. -/
noncomputable def Tryz.pinned : Pinned := { name := "ytcdkepbgjgcjfaagreat", sum := "b09493768ebcafe1ff14d6ca30ea586871dbd56aa0cafd86ac4d33dc0bd9401f", checked := Tryz.checked }
namespace Rows
def none {H : Type} : Left H := { results := [], args := [] }

/-- 'laws.FnConics': WHATEVER THE INPUT: true; the input reads as it did. -/
def fnConicsSpec : ChangeSpec := { name := "fnConics", fn := fun _ => fun
  | [d] => { results := [.lit (.bool true)], args := [d] }
  | _ => none }
def fnConicsRow : OpenClaim := { program := "ytcdkepbgjgcjfaagreat", sum := "b09493768ebcafe1ff14d6ca30ea586871dbd56aa0cafd86ac4d33dc0bd9401f", func := "loop.example/g00880/laws.FnConics", spec := "fnConics", inPlace := ["math/bits.Sub64", "math/bits.Add64"], unfollowed := true, recurses := true, named := ["math/bits.divideError", "math/bits.overflowError"], apart := false }
def FnConicsSaid : Prop := fnConicsRow.holds Tryz.pinned (OpenSpec.ofChange fnConicsSpec)

/-- ITS FALSE NEIGHBOUR: 'it returns false'. Refute it at one input. -/
def fnConicsWrong : ChangeSpec := { name := "fnConics", fn := fun _ => fun
  | [d] => { results := [.lit (.bool false)], args := [d] }
  | _ => none }
def FnConicsWrongFalsely : Prop := fnConicsRow.holds Tryz.pinned (OpenSpec.ofChange fnConicsWrong)

/-- 'laws.FnPseudo': WHATEVER THE INPUT: true; the input reads as it did. -/
def fnPseudoSpec : ChangeSpec := { name := "fnPseudo", fn := fun _ => fun
  | [d1, d2] => { results := [.lit (.bool true)], args := [d1, d2] }
  | _ => none }
def fnPseudoRow : OpenClaim := { program := "ytcdkepbgjgcjfaagreat", sum := "b09493768ebcafe1ff14d6ca30ea586871dbd56aa0cafd86ac4d33dc0bd9401f", func := "loop.example/g00880/laws.FnPseudo", spec := "fnPseudo", inPlace := ["math/bits.Sub64", "math/bits.Add64"], unfollowed := true, recurses := true, named := ["math/bits.divideError", "math/bits.overflowError"], apart := false }
def FnPseudoSaid : Prop := fnPseudoRow.holds Tryz.pinned (OpenSpec.ofChange fnPseudoSpec)

/-- ITS FALSE NEIGHBOUR: 'it returns false'. Refute it at one input. -/
def fnPseudoWrong : ChangeSpec := { name := "fnPseudo", fn := fun _ => fun
  | [d1, d2] => { results := [.lit (.bool false)], args := [d1, d2] }
  | _ => none }
def FnPseudoWrongFalsely : Prop := fnPseudoRow.holds Tryz.pinned (OpenSpec.ofChange fnPseudoWrong)

/-- 'laws.FnDestinations': WHATEVER THE INPUT: true; the input reads as it did. -/
def fnDestinationsSpec : ChangeSpec := { name := "fnDestinations", fn := fun _ => fun
  | [d] => { results := [.lit (.bool true)], args := [d] }
  | _ => none }
def fnDestinationsRow : OpenClaim := { program := "ytcdkepbgjgcjfaagreat", sum := "b09493768ebcafe1ff14d6ca30ea586871dbd56aa0cafd86ac4d33dc0bd9401f", func := "loop.example/g00880/laws.FnDestinations", spec := "fnDestinations", inPlace := ["math/bits.Sub64", "math/bits.Add64"], unfollowed := true, recurses := true, named := ["math/bits.divideError", "math/bits.overflowError"], apart := false }
def FnDestinationsSaid : Prop := fnDestinationsRow.holds Tryz.pinned (OpenSpec.ofChange fnDestinationsSpec)

/-- ITS FALSE NEIGHBOUR: 'it returns false'. Refute it at one input. -/
def fnDestinationsWrong : ChangeSpec := { name := "fnDestinations", fn := fun _ => fun
  | [d] => { results := [.lit (.bool false)], args := [d] }
  | _ => none }
def FnDestinationsWrongFalsely : Prop := fnDestinationsRow.holds Tryz.pinned (OpenSpec.ofChange fnDestinationsWrong)

/-- 'laws.FnTransverse': WHATEVER THE INPUT: true; the input reads as it did. -/
def fnTransverseSpec : ChangeSpec := { name := "fnTransverse", fn := fun _ => fun
  | [d1, d2] => { results := [.lit (.bool true)], args := [d1, d2] }
  | _ => none }
def fnTransverseRow : OpenClaim := { program := "ytcdkepbgjgcjfaagreat", sum := "b09493768ebcafe1ff14d6ca30ea586871dbd56aa0cafd86ac4d33dc0bd9401f", func := "loop.example/g00880/laws.FnTransverse", spec := "fnTransverse", inPlace := ["math/bits.Sub64", "math/bits.Add64"], unfollowed := true, recurses := true, named := ["math/bits.divideError", "math/bits.overflowError"], apart := false }
def FnTransverseSaid : Prop := fnTransverseRow.holds Tryz.pinned (OpenSpec.ofChange fnTransverseSpec)

/-- ITS FALSE NEIGHBOUR: 'it returns false'. Refute it at one input. -/
def fnTransverseWrong : ChangeSpec := { name := "fnTransverse", fn := fun _ => fun
  | [d1, d2] => { results := [.lit (.bool false)], args := [d1, d2] }
  | _ => none }
def FnTransverseWrongFalsely : Prop := fnTransverseRow.holds Tryz.pinned (OpenSpec.ofChange fnTransverseWrong)

/- THE SECOND FORM. 'bulk': how many values and letters a reading holds, each counted each time it is reached (what is shared counts as often as it is met; a slice's spare places count too). A statement '..UptoSaid' is the law's where the arguments, and the package variables that the reading takes, are together of bulk at most 1048576: NARROWER than '..Said'. Prove '..Said' where nothing that the law and all that it calls make is longer than what came in: it says more and counts as full. Else prove '..UptoSaid'. A law counts once. -/
mutual
def uptoBulk {H : Type} : DataW H → Nat
  | .lit (.string bytes) => bytes.length + 1
  | .lit _ => 1
  | .nil => 1
  | .ptr d => uptoBulk d + 1
  | .slice elems spare => uptoBulkAll elems + uptoBulkAll spare + 1
  | .agg parts => uptoBulkAll parts + 1
  | .iface _ d => uptoBulk d + 1
  | .map entries => uptoBulkEntries entries + 1
  | .held _ => 1
def uptoBulkAll {H : Type} : List (DataW H) → Nat
  | [] => 0
  | d :: r => uptoBulk d + uptoBulkAll r
def uptoBulkEntries {H : Type} : List (Lit × DataW H) → Nat
  | [] => 0
  | x :: r => uptoBulkEntry x + uptoBulkEntries r
def uptoBulkEntry {H : Type} : Lit × DataW H → Nat
  | (.string bytes, d) => bytes.length + uptoBulk d + 1
  | (_, d) => uptoBulk d + 1
 end
def uptoSmall : (H : Type) → List (DataW H) → Bool := fun _ ds => decide (uptoBulkAll ds ≤ 1048576)
def OpenSpec.upto (s : _root_.Go.ChangeSpec) : _root_.Go.OpenSpec := { _root_.Go.OpenSpec.ofChange s with cond := some uptoSmall }

/-- 'laws.FnConics', WHERE WHAT IT READS IS OF BULK AT MOST 1048576: true; the input reads as it did. -/
def fnConicsUptoRow : OpenClaim := { program := "ytcdkepbgjgcjfaagreat", sum := "b09493768ebcafe1ff14d6ca30ea586871dbd56aa0cafd86ac4d33dc0bd9401f", func := "loop.example/g00880/laws.FnConics", spec := "fnConics", inPlace := ["math/bits.Sub64", "math/bits.Add64"], unfollowed := true, recurses := true, named := ["math/bits.divideError", "math/bits.overflowError"], apart := false, narrowed := true }
def FnConicsUptoSaid : Prop := fnConicsUptoRow.holds Tryz.pinned (OpenSpec.upto fnConicsSpec)

/-- 'laws.FnPseudo', WHERE WHAT IT READS IS OF BULK AT MOST 1048576: true; the input reads as it did. -/
def fnPseudoUptoRow : OpenClaim := { program := "ytcdkepbgjgcjfaagreat", sum := "b09493768ebcafe1ff14d6ca30ea586871dbd56aa0cafd86ac4d33dc0bd9401f", func := "loop.example/g00880/laws.FnPseudo", spec := "fnPseudo", inPlace := ["math/bits.Sub64", "math/bits.Add64"], unfollowed := true, recurses := true, named := ["math/bits.divideError", "math/bits.overflowError"], apart := false, narrowed := true }
def FnPseudoUptoSaid : Prop := fnPseudoUptoRow.holds Tryz.pinned (OpenSpec.upto fnPseudoSpec)

/-- 'laws.FnDestinations', WHERE WHAT IT READS IS OF BULK AT MOST 1048576: true; the input reads as it did. -/
def fnDestinationsUptoRow : OpenClaim := { program := "ytcdkepbgjgcjfaagreat", sum := "b09493768ebcafe1ff14d6ca30ea586871dbd56aa0cafd86ac4d33dc0bd9401f", func := "loop.example/g00880/laws.FnDestinations", spec := "fnDestinations", inPlace := ["math/bits.Sub64", "math/bits.Add64"], unfollowed := true, recurses := true, named := ["math/bits.divideError", "math/bits.overflowError"], apart := false, narrowed := true }
def FnDestinationsUptoSaid : Prop := fnDestinationsUptoRow.holds Tryz.pinned (OpenSpec.upto fnDestinationsSpec)

/-- 'laws.FnTransverse', WHERE WHAT IT READS IS OF BULK AT MOST 1048576: true; the input reads as it did. -/
def fnTransverseUptoRow : OpenClaim := { program := "ytcdkepbgjgcjfaagreat", sum := "b09493768ebcafe1ff14d6ca30ea586871dbd56aa0cafd86ac4d33dc0bd9401f", func := "loop.example/g00880/laws.FnTransverse", spec := "fnTransverse", inPlace := ["math/bits.Sub64", "math/bits.Add64"], unfollowed := true, recurses := true, named := ["math/bits.divideError", "math/bits.overflowError"], apart := false, narrowed := true }
def FnTransverseUptoSaid : Prop := fnTransverseUptoRow.holds Tryz.pinned (OpenSpec.upto fnTransverseSpec)

end Rows
end Go.Proofs.YtcdkepbgjgcjfaaGreat
