/- What the rows say of the whole program. (written by lawrow.py) -/
import Derived.Test.YtfhnlkinjbakgaaGreatRows
import Derived.Test.YtfhnlkinjbakgaaGreatMsAbsL
namespace Go.Proofs.YtfhnlkinjbakgaaGreat.Abs
open Go Go.ChangeShapes Go.WideShapes Go.ChangeAt Go.RowKit
theorem and_mk {a b : Bool} (ha : a = true) (hb : b = true) : (a && b) = true:=by rw [ha,hb]; rfl
theorem whole1 : (laidOutB Tryz.prog) = true:=by kernel_rfl
theorem whole2 : (mapsRowed Tryz.prog) = true:=by kernel_rfl
theorem whole6 : (Tryz.prog.stops == []) = true:=by kernel_rfl
theorem whole8 : (Tryz.prog.stopKnobs == []) = true:=by kernel_rfl
theorem whole22 : (Rows.fnMovesRow.plainKeys == Tryz.prog.plainKeys) = true:=by kernel_rfl
theorem whole24 : (Tryz.prog.stopsHeard) = true:=by kernel_rfl
theorem whole25 : (Tryz.prog.mayEnter) = true:=by kernel_rfl
theorem whole26 : (Rows.fnMovesRow.lifted == Tryz.prog.liftsFinal) = true:=by kernel_rfl
theorem whole27 : (Tryz.prog.make == some Rows.fnMovesRow.make) = true:=by kernel_rfl
end Go.Proofs.YtfhnlkinjbakgaaGreat.Abs
