/- Which structs the program compares; what the model stands in for. -/
import Derived.Test.YtlgbjanlofomoaaDoorAbsP
import Derived.Test.YtlgbjanlofomoaaDoorProg
set_option linter.unusedVariables false
set_option linter.unusedSimpArgs false
namespace Go.Proofs.YtlgbjanlofomoaaDoor.Abs
open Go Go.RowKit

def E : Eqs := ⟨fun T x y => none, fun g args => none⟩
theorem E_eq (T : TypeId) (x y : Value) (b : Bool) (h : E.eq T x y = some b) (ox oy : Operand) (w : World) :
    (do eqGuard .eql T ox oy x y; binOp .eql T x y : Sem Value).run Tryd.prog w = .ok (.bool b) w ∧ (do eqGuard .neq T ox oy x y; binOp .neq T x y : Sem Value).run Tryd.prog w = .ok (.bool (!b)) w := by
  simp only [E] at h
  cases h
theorem E_ext (g : FuncId) (args : Array Value) (c : Bool) (v : Value) (h : E.ext g args = some (c, v)) (hc : c = true) (w : World) : (callFunc g args).run Tryd.prog w = .ok (.value v) w := by
  simp only [E] at h
  cases h
theorem E_ok : EqsOk Tryd.prog E := ⟨E_eq, E_ext⟩
theorem mixed : Tryd.prog.follows .mixedOrders = true := by kernel_rfl

end Go.Proofs.YtlgbjanlofomoaaDoor.Abs
