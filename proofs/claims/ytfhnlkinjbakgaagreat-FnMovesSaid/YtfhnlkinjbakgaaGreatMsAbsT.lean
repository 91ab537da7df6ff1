/- The program's own kinds of values as Lean's, and its arithmetic. -/
import Derived.RowKit
import Derived.Laws.BitsLemmas
import Derived.Laws.Bits64
namespace Go.Proofs.YtfhnlkinjbakgaaGreat.Abs
open Go
structure IK (k : IntKind) where
  val : Int
  ok : k.min ≤ val ∧ val ≤ k.max
theorem IK.eq {k : IntKind} {x y : IK k} (h : x.val = y.val) : x = y:=by
  cases x; cases y; cases h; rfl
theorem wrap_in (k : IntKind) (n : Int) : k.min ≤ k.wrap n ∧ k.wrap n ≤ k.max:=by
  cases k <;> simp only [IntKind.wrap,IntKind.min,IntKind.max,IntKind.bits,IntKind.signed] <;> simp <;> (try split) <;> omega
abbrev I64:=IK .i64
abbrev U64:=IK .u64
abbrev U8:=IK .u8
theorem I64.lo (x : I64) : -9223372036854775808 ≤ x.val:=x.ok.1
theorem I64.hi (x : I64) : x.val ≤ 9223372036854775807:=x.ok.2
theorem U64.lo (x : U64) : 0 ≤ x.val:=x.ok.1
theorem U64.hi (x : U64) : x.val ≤ 18446744073709551615:=x.ok.2
def w64 (n : Int) : I64:=⟨IntKind.i64.wrap n,wrap_in _ _⟩
def wu64 (n : Int) : U64:=⟨IntKind.u64.wrap n,wrap_in _ _⟩
def wu8 (n : Int) : U8:=⟨IntKind.u8.wrap n,wrap_in _ _⟩
theorem w64_val (n : Int) : (w64 n).val = (n + 9223372036854775808) % 18446744073709551616 - 9223372036854775808:=IntKind.wrap_i64 n
theorem wu64_val (n : Int) : (wu64 n).val = n % 18446744073709551616:=IntKind.wrap_u64 n
def c64 (n : Int) (h : IntKind.i64.min ≤ n ∧ n ≤ IntKind.i64.max:=by decide) : I64:=⟨n,h⟩
def cu64 (n : Int) (h : IntKind.u64.min ≤ n ∧ n ≤ IntKind.u64.max:=by decide) : U64:=⟨n,h⟩
def cu8 (n : Int) (h : IntKind.u8.min ≤ n ∧ n ≤ IntKind.u8.max:=by decide) : U8:=⟨n,h⟩
theorem c64_val (n : Int) (h : IntKind.i64.min ≤ n ∧ n ≤ IntKind.i64.max) : (c64 n h).val = n:=rfl
theorem cu64_val (n : Int) (h : IntKind.u64.min ≤ n ∧ n ≤ IntKind.u64.max) : (cu64 n h).val = n:=rfl
def listAt (L : List I64) (i : I64) : I64:=L.getD i.val.toNat (c64 0)
def mx {k : IntKind} (x y : IK k) : IK k:=⟨if y.val > x.val then y.val else x.val,by split; exact y.ok; exact x.ok⟩
def mn {k : IntKind} (x y : IK k) : IK k:=⟨if y.val < x.val then y.val else x.val,by split; exact y.ok; exact x.ok⟩
theorem mx_val {k : IntKind} (x y : IK k) : (mx x y).val = if y.val > x.val then y.val else x.val:=rfl
theorem mn_val {k : IntKind} (x y : IK k) : (mn x y).val = if y.val < x.val then y.val else x.val:=rfl
def iand (k : IntKind) (x y : Int) : IK k:=⟨k.wrap (BitVec.ofInt k.bits x &&& BitVec.ofInt k.bits y).toNat,wrap_in _ _⟩
def ior (k : IntKind) (x y : Int) : IK k:=⟨k.wrap (BitVec.ofInt k.bits x ||| BitVec.ofInt k.bits y).toNat,wrap_in _ _⟩
def ixor (k : IntKind) (x y : Int) : IK k:=⟨k.wrap (BitVec.ofInt k.bits x ^^^ BitVec.ofInt k.bits y).toNat,wrap_in _ _⟩
def inot (k : IntKind) (x : Int) : IK k:=ixor k (if k.signed then -1 else k.max) x
def ishl (k : IntKind) (x y : Int) : IK k:=⟨k.wrap (x * 2 ^ (min y.toNat k.bits)),wrap_in _ _⟩
theorem fdiv_in {k : IntKind} (x : IK k) (n : Nat) : k.min ≤ x.val.fdiv (2 ^ n) ∧ x.val.fdiv (2 ^ n) ≤ k.max:=by
  have h:=x.ok
  generalize x.val = v at h
  have hp : (0 : Int) < 2 ^ n:=Int.pow_pos (by omega)
  rw [Int.fdiv_eq_ediv_of_nonneg _ (Int.le_of_lt hp)]
  have hmin : k.min ≤ 0:=by cases k <;> decide
  have hmax : 0 ≤ k.max:=by cases k <;> decide
  by_cases hv : 0 ≤ v
  · have h1 : v / 2 ^ n ≤ v:=Int.ediv_le_self _ hv
    have h2 : 0 ≤ v / 2 ^ n:=Int.ediv_nonneg hv (Int.le_of_lt hp)
    omega
  · have h1 : v ≤ v / 2 ^ n:=by
      rw [Int.le_ediv_iff_mul_le hp]
      have : v * 2 ^ n ≤ v * 1:=Int.mul_le_mul_of_nonpos_left (by omega) (by omega)
      omega
    have h2 : v / 2 ^ n < 0:=by
      rw [Int.ediv_lt_iff_lt_mul hp]
      omega
    omega
def ishr {k : IntKind} (x : IK k) (y : Int) : IK k:=⟨x.val.fdiv (2 ^ (min y.toNat k.bits)),fdiv_in x _⟩
theorem ishr_val {k : IntKind} (x : IK k) (y : Int) : (ishr x y).val = x.val.fdiv (2 ^ (min y.toNat k.bits)):=rfl
theorem tmod_in {k : IntKind} (x : IK k) (y : Int) : k.min ≤ x.val.tmod y ∧ x.val.tmod y ≤ k.max:=by
  have h:=x.ok
  generalize x.val = v at h
  have hmin : k.min ≤ 0:=by cases k <;> decide
  have hmax : 0 ≤ k.max:=by cases k <;> decide
  have h1 : (v.tmod y).natAbs ≤ v.natAbs:=by rw [Int.natAbs_tmod]; exact Nat.mod_le _ _
  by_cases hv : 0 ≤ v
  · have:=Int.tmod_nonneg y hv
    omega
  · have : v.tmod y ≤ 0:=by
      have:=Int.tmod_nonneg (a:=-v) y (by omega)
      rw [Int.neg_tmod] at this
      omega
    omega
def imod {k : IntKind} (x : IK k) (y : Int) : IK k:=⟨x.val.tmod y,tmod_in x y⟩
theorem imod_val {k : IntKind} (x : IK k) (y : Int) : (imod x y).val = x.val.tmod y:=rfl
theorem mod64_in (x : Int) : IntKind.u64.min ≤ x % 18446744073709551616 ∧ x % 18446744073709551616 ≤ IntKind.u64.max:=by
  rw [← IntKind.wrap_u64]
  exact wrap_in _ _
def adc_lo (x y c : U64) : U64:=⟨(x.val + y.val + c.val) % 18446744073709551616,mod64_in _⟩
def adc_hi (x y c : U64) : U64:=⟨(x.val + y.val + c.val) / 18446744073709551616,by have:=x.lo; have:=x.hi; have:=y.lo; have:=y.hi; have:=c.lo; have:=c.hi; refine ⟨?_,?_⟩ <;> simp only [IntKind.min,IntKind.max,IntKind.signed,IntKind.bits] <;> simp <;> omega⟩
def sbb_lo (x y c : U64) : U64:=⟨(x.val - y.val - c.val) % 18446744073709551616,mod64_in _⟩
def sbb_hi (x y c : U64) : U64:=⟨if x.val < y.val + c.val then 1 else 0,by split <;> decide⟩
theorem adc_hi_le (x y c : U64) (h : c.val ≤ 1) : (adc_hi x y c).val ≤ 1:=by
  have:=x.lo; have:=x.hi; have:=y.lo; have:=y.hi; have:=c.lo
  show (x.val + y.val + c.val) / 18446744073709551616 ≤ 1
  omega
theorem sbb_hi_le (x y c : U64) : (sbb_hi x y c).val ≤ 1:=by
  show (if x.val < y.val + c.val then 1 else 0 : Int) ≤ 1
  split <;> decide
theorem adc_lo_val (x y c : U64) : (adc_lo x y c).val = (x.val + y.val + c.val) % 18446744073709551616:=rfl
theorem adc_hi_val (x y c : U64) : (adc_hi x y c).val = (x.val + y.val + c.val) / 18446744073709551616:=rfl
theorem sbb_lo_val (x y c : U64) : (sbb_lo x y c).val = (x.val - y.val - c.val) % 18446744073709551616:=rfl
theorem sbb_hi_val (x y c : U64) : (sbb_hi x y c).val = if x.val < y.val + c.val then 1 else 0:=rfl
structure Iv where
  lo : I64
  hi : I64
structure Wd where
  hi : I64
  lo : U64
structure Vc where
  x : Iv
  y : Iv
  z : Iv
structure Mt where
  a : Vc
  b : Vc
  c : Vc
structure Pt where
  lat : I64
  lon : I64
structure El where
  a : I64
  num : I64
  den : I64
structure Pl where
  point : Pt
  height : I64
structure Sf where
  tx : I64
  ty : I64
  tz : I64
  rx : I64
  ry : I64
  rz : I64
  sc : I64
structure Af where
  m : Mt
  t : Vc
def vI (n : I64) : Value:=.int .i64 n.val
def vU (n : U64) : Value:=.int .u64 n.val
def vB (b : Bool) : Value:=.bool b
def vIv (a : Iv) : Value:=.agg #[.int .i64 a.lo.val,.int .i64 a.hi.val]
def vWd (a : Wd) : Value:=.agg #[.int .i64 a.hi.val,.int .u64 a.lo.val]
def vVc (a : Vc) : Value:=.agg #[.int .i64 a.x.lo.val,.int .i64 a.x.hi.val,.int .i64 a.y.lo.val,.int .i64 a.y.hi.val,.int .i64 a.z.lo.val,.int .i64 a.z.hi.val]
def vMt (a : Mt) : Value:=.agg #[.int .i64 a.a.x.lo.val,.int .i64 a.a.x.hi.val,.int .i64 a.a.y.lo.val,.int .i64 a.a.y.hi.val,.int .i64 a.a.z.lo.val,.int .i64 a.a.z.hi.val,.int .i64 a.b.x.lo.val,.int .i64 a.b.x.hi.val,.int .i64 a.b.y.lo.val,.int .i64 a.b.y.hi.val,.int .i64 a.b.z.lo.val,.int .i64 a.b.z.hi.val,.int .i64 a.c.x.lo.val,.int .i64 a.c.x.hi.val,.int .i64 a.c.y.lo.val,.int .i64 a.c.y.hi.val,.int .i64 a.c.z.lo.val,.int .i64 a.c.z.hi.val]
def vPt (a : Pt) : Value:=.agg #[.int .i64 a.lat.val,.int .i64 a.lon.val]
def vEl (a : El) : Value:=.agg #[.int .i64 a.a.val,.int .i64 a.num.val,.int .i64 a.den.val]
def vPl (a : Pl) : Value:=.agg #[.int .i64 a.point.lat.val,.int .i64 a.point.lon.val,.int .i64 a.height.val]
def vSf (a : Sf) : Value:=.agg #[.int .i64 a.tx.val,.int .i64 a.ty.val,.int .i64 a.tz.val,.int .i64 a.rx.val,.int .i64 a.ry.val,.int .i64 a.rz.val,.int .i64 a.sc.val]
def vAf (a : Af) : Value:=.agg #[.int .i64 a.m.a.x.lo.val,.int .i64 a.m.a.x.hi.val,.int .i64 a.m.a.y.lo.val,.int .i64 a.m.a.y.hi.val,.int .i64 a.m.a.z.lo.val,.int .i64 a.m.a.z.hi.val,.int .i64 a.m.b.x.lo.val,.int .i64 a.m.b.x.hi.val,.int .i64 a.m.b.y.lo.val,.int .i64 a.m.b.y.hi.val,.int .i64 a.m.b.z.lo.val,.int .i64 a.m.b.z.hi.val,.int .i64 a.m.c.x.lo.val,.int .i64 a.m.c.x.hi.val,.int .i64 a.m.c.y.lo.val,.int .i64 a.m.c.y.hi.val,.int .i64 a.m.c.z.lo.val,.int .i64 a.m.c.z.hi.val,.int .i64 a.t.x.lo.val,.int .i64 a.t.x.hi.val,.int .i64 a.t.y.lo.val,.int .i64 a.t.y.hi.val,.int .i64 a.t.z.lo.val,.int .i64 a.t.z.hi.val]
def bindP {α β : Type} (x : α) (φ : α → β) : β:=φ x
end Go.Proofs.YtfhnlkinjbakgaaGreat.Abs
