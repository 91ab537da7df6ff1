/- The functions, on numbers; part 0 (written by w.py). -/
import Derived.Test.YtlgbjanlofomoaaDoorAbsT
import Derived.Lib.BitFns
set_option linter.unusedVariables false
set_option linter.unusedSimpArgs false
namespace Go.Proofs.YtlgbjanlofomoaaDoor.Abs
open Go Go.RowKit


def F_spec_l00In (a0 : I64) (a1 : I64) (a2 : I64) : Bool :=
  (bif (decide (a0.val ≥ a1.val)) then (decide (a0.val ≤ a2.val)) else false)

def F_spec_l23Ok__pSf (b0 : Sf) : Bool :=
  bindP (F_spec_l00In b0.tx (c64 (-10000000)) (c64 10000000)) fun r1 => (bif (!r1) then false else bindP (F_spec_l00In b0.rx (c64 (-100000000)) (c64 100000000)) fun r2 => (bif (!r2) then false else bindP (F_spec_l00In b0.ty (c64 (-10000000)) (c64 10000000)) fun r3 => (bif (!r3) then false else bindP (F_spec_l00In b0.ry (c64 (-100000000)) (c64 100000000)) fun r4 => (bif (!r4) then false else bindP (F_spec_l00In b0.tz (c64 (-10000000)) (c64 10000000)) fun r5 => (bif (!r5) then false else bindP (F_spec_l00In b0.rz (c64 (-100000000)) (c64 100000000)) fun r6 => (bif (!r6) then false else bindP (F_spec_l00In b0.sc (c64 (-1000000)) (c64 1000000)) fun r7 => r7))))))

end Go.Proofs.YtlgbjanlofomoaaDoor.Abs
