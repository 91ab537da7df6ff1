/- What the rows say of the whole program. (written by lawrow.py) -/
import Derived.Test.YtfhnlkinjbakgaaGreatRows
import Derived.Test.YtfhnlkinjbakgaaGreatSsAbsL
namespace Go.Proofs.YtfhnlkinjbakgaaGreat.Abs
open Go Go.ChangeShapes Go.WideShapes Go.ChangeAt Go.RowKit
theorem G6 {a b : Bool} (ha : a = true) (hb : b = true) : (a && b) = true:=by rw [ha,hb]; rfl
theorem Ab3 : (laidOutB Tryz.prog) = true:=by kernel_rfl
theorem Aiz : (mapsRowed Tryz.prog) = true:=by kernel_rfl
theorem Aiy : (Tryz.prog.stops == []) = true:=by kernel_rfl
theorem Aix : (Tryz.prog.stopKnobs == []) = true:=by kernel_rfl
theorem Af7 : (Rows.fnMovesRow.plainKeys == Tryz.prog.plainKeys) = true:=by kernel_rfl
theorem Af6 : (Tryz.prog.stopsHeard) = true:=by kernel_rfl
theorem Af5 : (Tryz.prog.mayEnter) = true:=by kernel_rfl
theorem Af4 : (Rows.fnMovesRow.lifted == Tryz.prog.liftsFinal) = true:=by kernel_rfl
theorem Af3 : (Tryz.prog.make == some Rows.fnMovesRow.make) = true:=by kernel_rfl
end Go.Proofs.YtfhnlkinjbakgaaGreat.Abs
