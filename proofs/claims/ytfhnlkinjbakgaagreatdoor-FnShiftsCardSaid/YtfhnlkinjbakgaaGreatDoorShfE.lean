/- Which structs the program compares; what the model stands in for. -/
import Derived.Test.YtfhnlkinjbakgaaGreatDoorShfMc
import Derived.Test.YtfhnlkinjbakgaaGreatDoorProg
set_option linter.unusedVariables false
set_option linter.unusedSimpArgs false
namespace Go.Proofs.YtfhnlkinjbakgaaGreatDoor.Abs
open Go Go.RowKit
def E : Eqs:=⟨fun T x y=>if T = 25 then eqN 7 x y else if T = 126 then eq2 .i64 .u64 x y else none,fun g args=>if g = 194 then add64A args else if g = 208 then sub64A args else none⟩
theorem E_eq (T : TypeId) (x y : Value) (b : Bool) (h : E.eq T x y = some b) (ox oy : Operand) (w : World) :
    (do eqGuard .eql T ox oy x y; binOp .eql T x y : Sem Value).run Tryz.prog w = .ok (.bool b) w ∧ (do eqGuard .neq T ox oy x y; binOp .neq T x y : Sem Value).run Tryz.prog w = .ok (.bool (!b)) w:=by
  simp only [E] at h
  split at h
  · rename_i e; subst e; exact eqN_ok (by kernel_rfl) h ox oy w
  split at h
  · rename_i e; subst e; exact eq2_ok (by kernel_rfl) h ox oy w
  cases h
theorem E_ext (g : FuncId) (args : Array Value) (c : Bool) (v : Value) (h : E.ext g args = some (c,v)) (hc : c = true) (w : World) : (callFunc g args).run Tryz.prog w = .ok (.value v) w:=by
  simp only [E] at h
  split at h
  · rename_i e; subst e; exact add64A_ok Tryz.func194 (by kernel_rfl) (by kernel_rfl) (by kernel_rfl) (by kernel_rfl) h hc w
  split at h
  · rename_i e; subst e; exact sub64A_ok Tryz.func208 (by kernel_rfl) (by kernel_rfl) (by kernel_rfl) (by kernel_rfl) h hc w
  cases h
theorem E_ok : EqsOk Tryz.prog E:=⟨E_eq,E_ext⟩
theorem mixed : Tryz.prog.follows .mixedOrders = true:=by kernel_rfl
end Go.Proofs.YtfhnlkinjbakgaaGreatDoor.Abs
