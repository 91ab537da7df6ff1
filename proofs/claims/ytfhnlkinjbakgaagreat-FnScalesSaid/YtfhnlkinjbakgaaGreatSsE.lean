/- Which structs the program compares; what the model stands in for. -/
import Derived.Test.YtfhnlkinjbakgaaGreatSsAbsD
import Derived.Test.YtfhnlkinjbakgaaGreatProg
set_option linter.unusedVariables false
set_option linter.unusedSimpArgs false
namespace Go.Proofs.YtfhnlkinjbakgaaGreat.Abs
open Go Go.RowKit
def E : V4:=⟨fun T x y=>if T = 27 then eq2 .i64 .i64 x y else if T = 150 then eq2 .i64 .u64 x y else none,fun g args=>if g = 282 then wY args else if g = 304 then uY args else none⟩
theorem Al3 (T : TypeId) (x y : Value) (b : Bool) (h : E.eq T x y = some b) (ox oy : Operand) (w : World) :
    (do eqGuard .eql T ox oy x y; binOp .eql T x y : Sem Value).run Tryz.prog w = .ok (.bool b) w ∧ (do eqGuard .neq T ox oy x y; binOp .neq T x y : Sem Value).run Tryz.prog w = .ok (.bool (!b)) w:=by
  simp only [E] at h
  split at h
  · rename_i e; subst e; exact Aep (by kernel_rfl) h ox oy w
  split at h
  · rename_i e; subst e; exact Aep (by kernel_rfl) h ox oy w
  cases h
theorem Alh (g : FuncId) (args : Array Value) (c : Bool) (v : Value) (h : E.ext g args = some (c,v)) (hc : c = true) (w : World) : (callFunc g args).run Tryz.prog w = .ok (.value v) w:=by
  simp only [E] at h
  split at h
  · rename_i e; subst e; exact Abn Tryz.func282 (by kernel_rfl) (by kernel_rfl) (by kernel_rfl) (by kernel_rfl) h hc w
  split at h
  · rename_i e; subst e; exact zJ Tryz.func304 (by kernel_rfl) (by kernel_rfl) (by kernel_rfl) (by kernel_rfl) h hc w
  cases h
theorem Az : Nl Tryz.prog E:=⟨Al3,Alh⟩
theorem mixed : Tryz.prog.follows .mixedOrders = true:=by kernel_rfl
end Go.Proofs.YtfhnlkinjbakgaaGreat.Abs
