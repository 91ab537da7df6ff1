/- The abstract machine: further steps along a Lean function's own text. -/
import Derived.Test.YtebaobmmnkebaaaGreatAbs9
namespace Go.Proofs.YtebaobmmnkebaaaGreat.Abs
open Go Go.RowKit

variable {P : Program} {E : Eqs} {f : FuncId} {fn : Func} {tr : T} {v : Value} {R : Value → List Blk → Prop}

/-- A check that is passed. -/
theorem Run.k {c : Bool} (h : tr.cond = some c) (hc : c = true) (hk : Run P f R tr.yes) : Run P f R tr := Run.t (by rw [h, hc]) hk

/-- A branch that is not taken. -/
theorem Run.kn {c : Bool} (h : tr.cond = some c) (hc : c = false) (hk : Run P f R tr.no) : Run P f R tr := Run.n (by rw [h, hc]) hk

theorem Run.jk {β : Type} {H : List Blk} {c : Bool} {x y : β} {gv : β → Value} (h : tr.cond = some c) (ha : c = true → Run P f (RvH H (gv x)) tr.yes) (hb : c = false → Run P f (RvH H (gv y)) tr.no) : Run P f (RvH H (gv (cond c x y))) tr := by
  cases c
  · exact Run.n h (hb rfl)
  · exact Run.t h (ha rfl)

theorem Run.bk {α β : Type} {H : List Blk} {e : α → Value} {x : α} {φ : α → β} {gv : β → Value} {g : FuncId} {args : Array Value} (h : tr.callOf = some (g, args)) (ho : args.toList.all flat = true) (hF : Fun P g [] args (e x) []) (hu : ∀ r, flat (e r) = true)
    (hk : ∀ r : α, r = x → Run P f (RvH H (gv (φ r))) (tr.after (e r))) : Run P f (RvH H (gv (bindP x φ))) tr := Run.c h ho hF (hu x) (hk x rfl)

theorem Run.sb {α β : Type} {H : List Blk} {e : α → Value} {x : α} {φ : α → β} {gv : β → Value} {g : FuncId} {args : Array Value} {H0 : List Blk} (sel : List Nat) (h : tr.callOf = some (g, (args.toList.map (renum sel)).toArray)) (hs : tr.seen sel = some H0) (hc : H0.all (fun b => b.1.toList.all flat) = true) (hn : sel.Nodup)
    (ho : args.toList.all (argOk sel.length) = true) (hF : Fun P g H0 args (e x) H0) (hu : ∀ r, flat (e r) = true) (hk : ∀ r : α, Run P f (RvH H (gv (φ r))) (tr.after (e r))) : Run P f (RvH H (gv (bindP x φ))) tr :=
  Run.s sel H0 h hs hc hn ho hF (hu x) (hk x)

theorem Run.sk {α β : Type} {H : List Blk} {e : α → Value} {x : α} {φ : α → β} {gv : β → Value} {g : FuncId} {args : Array Value} {H0 : List Blk} (sel : List Nat) (h : tr.callOf = some (g, (args.toList.map (renum sel)).toArray)) (hs : tr.seen sel = some H0) (hc : H0.all (fun b => b.1.toList.all flat) = true) (hn : sel.Nodup)
    (ho : args.toList.all (argOk sel.length) = true) (hF : Fun P g H0 args (e x) H0) (hu : ∀ r, flat (e r) = true) (hk : ∀ r : α, r = x → Run P f (RvH H (gv (φ r))) (tr.after (e r))) : Run P f (RvH H (gv (bindP x φ))) tr :=
  Run.s sel H0 h hs hc hn ho hF (hu x) (hk x rfl)

end Go.Proofs.YtebaobmmnkebaaaGreat.Abs
