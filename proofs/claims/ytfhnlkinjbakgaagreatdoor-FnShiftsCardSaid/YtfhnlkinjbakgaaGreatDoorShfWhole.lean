/- What the rows say of the whole program. (written by lawrow.py) -/
import Derived.Test.YtfhnlkinjbakgaaGreatDoorRows
import Derived.Test.YtfhnlkinjbakgaaGreatDoorShfMc
namespace Go.Proofs.YtfhnlkinjbakgaaGreatDoor.Abs
open Go Go.ChangeShapes Go.WideShapes Go.ChangeAt Go.RowKit
theorem and_mk {a b : Bool} (ha : a = true) (hb : b = true) : (a && b) = true:=by rw [ha,hb]; rfl
theorem whole1 : (laidOutB Tryz.prog) = true:=by kernel_rfl
theorem whole2 : (mapsRowed Tryz.prog) = true:=by kernel_rfl
theorem whole6 : (Tryz.prog.stops == []) = true:=by kernel_rfl
theorem whole8 : (Tryz.prog.stopKnobs == []) = true:=by kernel_rfl
theorem whole22 : (Rows.fnShiftsRow.plainKeys == Tryz.prog.plainKeys) = true:=by kernel_rfl
theorem whole24 : (Tryz.prog.stopsHeard) = true:=by kernel_rfl
theorem whole25 : (Tryz.prog.mayEnter) = true:=by kernel_rfl
theorem whole26 : (Rows.fnShiftsRow.lifted == Tryz.prog.liftsFinal) = true:=by kernel_rfl
theorem whole27 : (Tryz.prog.make == some Rows.fnShiftsRow.make) = true:=by kernel_rfl
end Go.Proofs.YtfhnlkinjbakgaaGreatDoor.Abs
