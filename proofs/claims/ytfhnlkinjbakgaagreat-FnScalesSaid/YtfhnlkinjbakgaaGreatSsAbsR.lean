/- The abstract machine: further steps along a Lean function's own text. -/
import Derived.Test.YtfhnlkinjbakgaaGreatSsAbs9
namespace Go.Proofs.YtfhnlkinjbakgaaGreat.Abs
open Go Go.RowKit
variable {P : Program} {E : V4} {f : FuncId} {fn : Func} {tr : T} {v : Value} {R : Value → List C6 → Prop}
theorem Ac.k {c : Bool} (h : tr.cond = some c) (hc : c = true) (hk : Ac P f R tr.yes) : Ac P f R tr:=Ac.t (by rw [h,hc]) hk
theorem Ac.kn {c : Bool} (h : tr.cond = some c) (hc : c = false) (hk : Ac P f R tr.no) : Ac P f R tr:=Ac.n (by rw [h,hc]) hk
theorem Ac.jk {β : Type} {H : List C6} {c : Bool} {x y : β} {gv : β → Value} (h : tr.cond = some c) (ha : c = true → Ac P f (Ou H (gv x)) tr.yes) (hb : c = false → Ac P f (Ou H (gv y)) tr.no) : Ac P f (Ou H (gv (cond c x y))) tr:=by
  cases c
  · exact Ac.n h (hb rfl)
  · exact Ac.t h (ha rfl)
theorem Ac.bk {α β : Type} {H : List C6} {e : α → Value} {x : α} {φ : α → β} {gv : β → Value} {g : FuncId} {args : Array Value} (h : tr.callOf = some (g,args)) (ho : args.toList.all Eg = true) (hF : Br P g [] args (e x) []) (hu : ∀ r,Eg (e r) = true)
    (hk : ∀ r : α,r = x → Ac P f (Ou H (gv (φ r))) (tr.after (e r))) : Ac P f (Ou H (gv (Aa x φ))) tr:=Ac.c h ho hF (hu x) (hk x rfl)
theorem Ac.sb {α β : Type} {H : List C6} {e : α → Value} {x : α} {φ : α → β} {gv : β → Value} {g : FuncId} {args : Array Value} {H0 : List C6} (sel : List Nat) (h : tr.callOf = some (g,(args.toList.map (T9 sel)).toArray)) (hs : tr.seen sel = some H0) (hc : H0.all (fun b=>b.1.toList.all Eg) = true) (hn : sel.Nodup)
    (ho : args.toList.all (Qh sel.length) = true) (hF : Br P g H0 args (e x) H0) (hu : ∀ r,Eg (e r) = true) (hk : ∀ r : α,Ac P f (Ou H (gv (φ r))) (tr.after (e r))) : Ac P f (Ou H (gv (Aa x φ))) tr:=
  Ac.s sel H0 h hs hc hn ho hF (hu x) (hk x)
theorem Ac.sk {α β : Type} {H : List C6} {e : α → Value} {x : α} {φ : α → β} {gv : β → Value} {g : FuncId} {args : Array Value} {H0 : List C6} (sel : List Nat) (h : tr.callOf = some (g,(args.toList.map (T9 sel)).toArray)) (hs : tr.seen sel = some H0) (hc : H0.all (fun b=>b.1.toList.all Eg) = true) (hn : sel.Nodup)
    (ho : args.toList.all (Qh sel.length) = true) (hF : Br P g H0 args (e x) H0) (hu : ∀ r,Eg (e r) = true) (hk : ∀ r : α,r = x → Ac P f (Ou H (gv (φ r))) (tr.after (e r))) : Ac P f (Ou H (gv (Aa x φ))) tr:=
  Ac.s sel H0 h hs hc hn ho hF (hu x) (hk x rfl)
theorem Ac.q {α β : Type} {H : List C6} {e : α → Value} {x : α} {φ : α → β} {gv : β → Value} {g : FuncId} {args : Array Value} (hF : Br P g [] args (e x) [])
    (hk : ∀ r : α,r = x → Ac P f (Ou H (gv (φ r))) (tr.after (e r))) (h : tr.callOf = some (g,args):=by kernel_rfl) (ho : args.toList.all Eg = true:=by kernel_rfl) (hu : ∀ r,Eg (e r) = true:=by exact fun _=>rfl) : Ac P f (Ou H (gv (Aa x φ))) tr:=Ac.bk h ho hF hu hk
theorem Ac.w {α β : Type} {H : List C6} {e : α → Value} {x : α} {φ : α → β} {gv : β → Value} {g : FuncId} {args : Array Value} {H0 : List C6} (sel : List Nat) (hF : Br P g H0 args (e x) H0) (hk : ∀ r : α,r = x → Ac P f (Ou H (gv (φ r))) (tr.after (e r)))
    (h : tr.callOf = some (g,(args.toList.map (T9 sel)).toArray):=by kernel_rfl) (hs : tr.seen sel = some H0:=by kernel_rfl) (hc : H0.all (fun b=>b.1.toList.all Eg) = true:=by kernel_rfl) (hn : sel.Nodup:=by decide)
    (ho : args.toList.all (Qh sel.length) = true:=by kernel_rfl) (hu : ∀ r,Eg (e r) = true:=by exact fun _=>rfl) : Ac P f (Ou H (gv (Aa x φ))) tr:=Ac.sk sel h hs hc hn ho hF hu hk
theorem Ac.y {β : Type} {H : List C6} {c : Bool} {x y : β} {gv : β → Value} (ha : c = true → Ac P f (Ou H (gv x)) tr.yes) (hb : c = false → Ac P f (Ou H (gv y)) tr.no) (h : tr.cond = some c:=by kernel_rfl) : Ac P f (Ou H (gv (cond c x y))) tr:=Ac.jk h ha hb
theorem Ac.z (l : List Bool) (hk : Ac P f R (tr.path l)) (h : tr.conds l = some l:=by kernel_rfl) : Ac P f R tr:=Ac.p l h hk
theorem Ac.x {H : List C6} (k : Nat) (h : tr.retOf = some v:=by kernel_rfl) (hk : tr.heapOf.take k = H:=by kernel_rfl) : Ac P f (Ou H v) tr:=Ac.rh (k:=k) h hk
end Go.Proofs.YtfhnlkinjbakgaaGreat.Abs
