/- The abstract machine: further steps along a Lean function's own text. -/
import Derived.Test.YtfhnlkinjbakgaaGreatMsAbs9
namespace Go.Proofs.YtfhnlkinjbakgaaGreat.Abs
open Go Go.RowKit
variable {P : Program} {E : Eqs} {f : FuncId} {fn : Func} {tr : T} {v : Value} {R : Value → List Blk → Prop}
theorem Run.k {c : Bool} (h : tr.cond = some c) (hc : c = true) (hk : Run P f R tr.yes) : Run P f R tr:=Run.t (by rw [h,hc]) hk
theorem Run.kn {c : Bool} (h : tr.cond = some c) (hc : c = false) (hk : Run P f R tr.no) : Run P f R tr:=Run.n (by rw [h,hc]) hk
theorem Run.jk {β : Type} {H : List Blk} {c : Bool} {x y : β} {gv : β → Value} (h : tr.cond = some c) (ha : c = true → Run P f (RvH H (gv x)) tr.yes) (hb : c = false → Run P f (RvH H (gv y)) tr.no) : Run P f (RvH H (gv (cond c x y))) tr:=by
  cases c
  · exact Run.n h (hb rfl)
  · exact Run.t h (ha rfl)
theorem Run.bk {α β : Type} {H : List Blk} {e : α → Value} {x : α} {φ : α → β} {gv : β → Value} {g : FuncId} {args : Array Value} (h : tr.callOf = some (g,args)) (ho : args.toList.all flat = true) (hF : Fun P g [] args (e x) []) (hu : ∀ r,flat (e r) = true)
    (hk : ∀ r : α,r = x → Run P f (RvH H (gv (φ r))) (tr.after (e r))) : Run P f (RvH H (gv (bindP x φ))) tr:=Run.c h ho hF (hu x) (hk x rfl)
theorem Run.sb {α β : Type} {H : List Blk} {e : α → Value} {x : α} {φ : α → β} {gv : β → Value} {g : FuncId} {args : Array Value} {H0 : List Blk} (sel : List Nat) (h : tr.callOf = some (g,(args.toList.map (renum sel)).toArray)) (hs : tr.seen sel = some H0) (hc : H0.all (fun b=>b.1.toList.all flat) = true) (hn : sel.Nodup)
    (ho : args.toList.all (argOk sel.length) = true) (hF : Fun P g H0 args (e x) H0) (hu : ∀ r,flat (e r) = true) (hk : ∀ r : α,Run P f (RvH H (gv (φ r))) (tr.after (e r))) : Run P f (RvH H (gv (bindP x φ))) tr:=
  Run.s sel H0 h hs hc hn ho hF (hu x) (hk x)
theorem Run.sk {α β : Type} {H : List Blk} {e : α → Value} {x : α} {φ : α → β} {gv : β → Value} {g : FuncId} {args : Array Value} {H0 : List Blk} (sel : List Nat) (h : tr.callOf = some (g,(args.toList.map (renum sel)).toArray)) (hs : tr.seen sel = some H0) (hc : H0.all (fun b=>b.1.toList.all flat) = true) (hn : sel.Nodup)
    (ho : args.toList.all (argOk sel.length) = true) (hF : Fun P g H0 args (e x) H0) (hu : ∀ r,flat (e r) = true) (hk : ∀ r : α,r = x → Run P f (RvH H (gv (φ r))) (tr.after (e r))) : Run P f (RvH H (gv (bindP x φ))) tr:=
  Run.s sel H0 h hs hc hn ho hF (hu x) (hk x rfl)
theorem Run.q {α β : Type} {H : List Blk} {e : α → Value} {x : α} {φ : α → β} {gv : β → Value} {g : FuncId} {args : Array Value} (hF : Fun P g [] args (e x) [])
    (hk : ∀ r : α,r = x → Run P f (RvH H (gv (φ r))) (tr.after (e r))) (h : tr.callOf = some (g,args):=by kernel_rfl) (ho : args.toList.all flat = true:=by kernel_rfl) (hu : ∀ r,flat (e r) = true:=by exact fun _=>rfl) : Run P f (RvH H (gv (bindP x φ))) tr:=Run.bk h ho hF hu hk
theorem Run.w {α β : Type} {H : List Blk} {e : α → Value} {x : α} {φ : α → β} {gv : β → Value} {g : FuncId} {args : Array Value} {H0 : List Blk} (sel : List Nat) (hF : Fun P g H0 args (e x) H0) (hk : ∀ r : α,r = x → Run P f (RvH H (gv (φ r))) (tr.after (e r)))
    (h : tr.callOf = some (g,(args.toList.map (renum sel)).toArray):=by kernel_rfl) (hs : tr.seen sel = some H0:=by kernel_rfl) (hc : H0.all (fun b=>b.1.toList.all flat) = true:=by kernel_rfl) (hn : sel.Nodup:=by decide)
    (ho : args.toList.all (argOk sel.length) = true:=by kernel_rfl) (hu : ∀ r,flat (e r) = true:=by exact fun _=>rfl) : Run P f (RvH H (gv (bindP x φ))) tr:=Run.sk sel h hs hc hn ho hF hu hk
theorem Run.y {β : Type} {H : List Blk} {c : Bool} {x y : β} {gv : β → Value} (ha : c = true → Run P f (RvH H (gv x)) tr.yes) (hb : c = false → Run P f (RvH H (gv y)) tr.no) (h : tr.cond = some c:=by kernel_rfl) : Run P f (RvH H (gv (cond c x y))) tr:=Run.jk h ha hb
theorem Run.z (l : List Bool) (hk : Run P f R (tr.path l)) (h : tr.conds l = some l:=by kernel_rfl) : Run P f R tr:=Run.p l h hk
theorem Run.x {H : List Blk} (k : Nat) (h : tr.retOf = some v:=by kernel_rfl) (hk : tr.heapOf.take k = H:=by kernel_rfl) : Run P f (RvH H v) tr:=Run.rh (k:=k) h hk
end Go.Proofs.YtfhnlkinjbakgaaGreat.Abs
