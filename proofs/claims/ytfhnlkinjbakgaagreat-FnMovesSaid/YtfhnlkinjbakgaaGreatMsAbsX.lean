/- The abstract machine: functions that the model stands in for; one of the library's, by the shelf's contract. -/
import Derived.Test.YtfhnlkinjbakgaaGreatMsAbsH
import Derived.Laws.Externs
import Derived.Shelf.Small.Bits
namespace Go.Proofs.YtfhnlkinjbakgaaGreat.Abs
open Go Go.RowKit
variable {P : Program}
def add64A (args : Array Value) : Option (Bool × Value):=
  match args with
  | ⟨[.int .u64 x,.int .u64 y,.int .u64 c]⟩=>some (decide (0 ≤ x) && (decide (0 ≤ y) && (decide (0 ≤ c) && decide (c ≤ 1))),.tuple #[.int .u64 ((x + y + c) % 18446744073709551616),.int .u64 ((x + y + c) / 18446744073709551616)])
  | _=>none
def sub64A (args : Array Value) : Option (Bool × Value):=
  match args with
  | ⟨[.int .u64 x,.int .u64 y,.int .u64 c]⟩=>some (decide (0 ≤ x) && (decide (0 ≤ y) && (decide (y ≤ 18446744073709551615) && (decide (0 ≤ c) && decide (c ≤ 1)))),.tuple #[.int .u64 ((x - y - c) % 18446744073709551616),.int .u64 (if x < y + c then 1 else 0)])
  | _=>none
theorem add64A_ok {f : FuncId} {fn : Func} (hf : P.funcs[f]? = some fn) (hname : (fn.name == "runtime.NumGoroutine") = false) (hb : fn.body.isNone = true) (hn : Extern.findNext fn = none) (he : Extern.find fn = some add64Entry)
    {args : Array Value} {c : Bool} {v : Value} (h : add64A args = some (c,v)) (hc : c = true) (w : World) : (callFunc f args).run P w = .ok (.value v) w:=by
  unfold add64A at h
  split at h
  · rename_i x y k
    simp only [Option.some.injEq,Prod.mk.injEq] at h
    obtain ⟨h1,h2⟩:=h
    subst h2
    rw [hc] at h1
    simp only [Bool.and_eq_true,decide_eq_true_eq] at h1
    rw [run_callFunc_extern hf hname hb hn he]
    show Result.andThen ((add64Entry #[.int .u64 x,.int .u64 y,.int .u64 k]).run P w) _ = _
    rw [run_add64 x y k h1.1 h1.2.1 h1.2.2.1 h1.2.2.2]
    rfl
  · cases h
def subEntry : Array Value → Sem Value:=fun args=>do
  let (x, y, b) ← Extern.MathBitsCarry.three "Sub64" args
  pure (Extern.MathBitsCarry.pair ((x + Extern.MathBitsCarry.m64 - y - b) % Extern.MathBitsCarry.m64) (if x < y + b then 1 else 0))
theorem run_subEntry (x y b : Nat) (hb : b ≤ 1) (w : World) : (subEntry #[.int .u64 x,.int .u64 y,.int .u64 b]).run P w =
    .ok (.tuple #[.int .u64 (((x + 18446744073709551616 - y - b) % 18446744073709551616 : Nat) : Int),.int .u64 ((if x < y + b then 1 else 0 : Nat) : Int)]) w:=by
  have : b = 0 ∨ b = 1:=by omega
  rcases this with rfl | rfl <;> rfl
theorem sub64A_ok {f : FuncId} {fn : Func} (hf : P.funcs[f]? = some fn) (hname : (fn.name == "runtime.NumGoroutine") = false) (hb : fn.body.isNone = true) (hn : Extern.findNext fn = none) (he : Extern.find fn = some subEntry)
    {args : Array Value} {c : Bool} {v : Value} (h : sub64A args = some (c,v)) (hc : c = true) (w : World) : (callFunc f args).run P w = .ok (.value v) w:=by
  unfold sub64A at h
  split at h
  · rename_i x y k
    simp only [Option.some.injEq,Prod.mk.injEq] at h
    obtain ⟨h1,h2⟩:=h
    subst h2
    rw [hc] at h1
    simp only [Bool.and_eq_true,decide_eq_true_eq] at h1
    obtain ⟨hx,hy,hy2,hk,hk1⟩:=h1
    rw [run_callFunc_extern hf hname hb hn he]
    obtain ⟨x,rfl⟩:=Int.eq_ofNat_of_zero_le hx
    obtain ⟨y,rfl⟩:=Int.eq_ofNat_of_zero_le hy
    obtain ⟨k,rfl⟩:=Int.eq_ofNat_of_zero_le hk
    have h:=run_subEntry (P:=P) x y k (by omega) w
    show Result.andThen ((subEntry #[.int .u64 (x : Int),.int .u64 (y : Int),.int .u64 (k : Int)]).run P w) _ = _
    rw [h]
    have e1 : (((x + 18446744073709551616 - y - k) % 18446744073709551616 : Nat) : Int) = ((x : Int) - y - k) % 18446744073709551616:=by omega
    have e2 : ((if x < y + k then 1 else 0 : Nat) : Int) = if (x : Int) < y + k then 1 else 0:=by split <;> split <;> omega
    rw [e1,e2]
    rfl
  · cases h
theorem Fun.ofCalls {f : FuncId} {fn : Func} {args : Array Value} {v : Value} (hf : P.funcs[f]? = some fn) (hn : (fn.name == "runtime.NumGoroutine") = false) (hb : fn.body.isNone = false) (ha : args.toList.all flat = true) (hv : flat v = true)
    (h : ∀ w,Calls P f args w fun e w'=>e = .returned v ∧ w' = w) : Fun P f [] args v []:=by
  refine ⟨⟨fn,hf,hn,hb⟩,fun m args' w hra hH=>?_⟩
  rw [hra.eq_of_flat ha]
  refine (h w).mono ?_
  rintro e w' ⟨rfl,rfl⟩
  exact ⟨v,[],rfl,VR.refl_of_flat _ hv,by simpa using hH,by simp,Kept.refl _ _⟩
end Go.Proofs.YtfhnlkinjbakgaaGreat.Abs
