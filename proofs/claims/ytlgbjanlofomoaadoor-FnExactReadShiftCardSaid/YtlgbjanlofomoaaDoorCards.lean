/-
  DERIVED. GIVEN WITH THE SEED: THE CARDS: each row of YtlgbjanlofomoaaDoorRows.lean that lists a variable, with what it lists TIED to the program's text (the seventh form; the later family's looks); each row that meets fmt, with fmt's text TOLD by the authors' own Lean function (tested against real Go, not proved from fmt's source: count such statements apart). THE CARD IS WHAT COUNTS. Prove the row's statement (the work); the ties are given (YtlgbjanlofomoaaDoorTie.lean); close each card by the builder's one call (the guide's Derived/Test/ToyasCard.lean, 'card_holds'). Laid BY PROGRAM, IN A SANDBOX (cutbox-door.mjs). By AI agents, Wed Nov 11 2026. No macro, syntax, notation, axiom, sorry.
-/
import Derived.Test.YtlgbjanlofomoaaDoorRows
import GoSem.ClaimSeven
namespace Go.Proofs.YtlgbjanlofomoaaDoor
namespace Rows

/-- THE TIED CARD OF 'laws.FnExactShiftText'. -/
def fnExactShiftTextCard : Claim7 := { stood := { row := fnExactShiftTextRow, standIns := [], harness := (true, "801f283d064a533ec2031309f17951294fef9ea9880704ec0892abf053349dde"), looks := true }, kinds := [], alts := [], laidByText := true, laidKinds := [.data, .data, .data], laidTests := true, laidLooks := .later }
def FnExactShiftTextCardSaid : Prop := Claim7.holds Tryd.pinned (.plain (OpenSpec.ofChange fnExactShiftTextSpec)) fnExactShiftTextCard

/-- THE TIED CARD OF 'laws.FnExactReadShift'. -/
def fnExactReadShiftCard : Claim7 := { stood := { row := fnExactReadShiftRow, standIns := [], harness := (true, "801f283d064a533ec2031309f17951294fef9ea9880704ec0892abf053349dde"), looks := true }, kinds := [], alts := [], laidByText := true, laidKinds := [.data, .data, .data, .data, .sentinel, .sentinel, .pinned], laidTests := true, laidLooks := .later }
def FnExactReadShiftCardSaid : Prop := Claim7.holds Tryd.pinned (.plain (OpenSpec.ofChange fnExactReadShiftSpec)) fnExactReadShiftCard

/-- THE SECOND FORM's CARD OF 'laws.FnExactShiftText'. -/
def fnExactShiftTextUptoCard : Claim7 := { stood := { row := fnExactShiftTextUptoRow, standIns := [], harness := (true, "801f283d064a533ec2031309f17951294fef9ea9880704ec0892abf053349dde"), looks := true }, kinds := [], alts := [], laidByText := true, laidKinds := [.data, .data, .data], laidTests := true, laidLooks := .later }
def FnExactShiftTextUptoCardSaid : Prop := Claim7.holds Tryd.pinned (.plain (OpenSpec.upto fnExactShiftTextSpec)) fnExactShiftTextUptoCard

/-- THE SECOND FORM's CARD OF 'laws.FnExactReadShift'. -/
def fnExactReadShiftUptoCard : Claim7 := { stood := { row := fnExactReadShiftUptoRow, standIns := [], harness := (true, "801f283d064a533ec2031309f17951294fef9ea9880704ec0892abf053349dde"), looks := true }, kinds := [], alts := [], laidByText := true, laidKinds := [.data, .data, .data, .data, .sentinel, .sentinel, .pinned], laidTests := true, laidLooks := .later }
def FnExactReadShiftUptoCardSaid : Prop := Claim7.holds Tryd.pinned (.plain (OpenSpec.upto fnExactReadShiftSpec)) fnExactReadShiftUptoCard
end Rows
end Go.Proofs.YtlgbjanlofomoaaDoor
