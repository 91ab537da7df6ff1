/- The program's own kinds of values as Lean's, and its arithmetic. -/
import Derived.RowKit
import Derived.Laws.BitsLemmas
import Derived.Laws.Bits64
namespace Go.Proofs.YtfhnlkinjbakgaaGreat.Abs
open Go
structure IK (k : IntKind) where
  val : Int
  ok : k.min ≤ val ∧ val ≤ k.max
theorem IK.eq {k : IntKind} {x y : IK k} (h : x.val = y.val) : x = y:=by
  cases x; cases y; cases h; rfl
theorem T6 (k : IntKind) (n : Int) : k.min ≤ k.wrap n ∧ k.wrap n ≤ k.max:=by
  cases k <;> simp only [IntKind.wrap,IntKind.min,IntKind.max,IntKind.bits,IntKind.signed] <;> simp <;> (try split) <;> omega
abbrev Aq:=IK .i64
abbrev Dp:=IK .u64
abbrev U8:=IK .u8
theorem Aq.lo (x : Aq) : -9223372036854775808 ≤ x.val:=x.ok.1
theorem Aq.hi (x : Aq) : x.val ≤ 9223372036854775807:=x.ok.2
theorem Dp.lo (x : Dp) : 0 ≤ x.val:=x.ok.1
theorem Dp.hi (x : Dp) : x.val ≤ 18446744073709551615:=x.ok.2
def An (n : Int) : Aq:=⟨IntKind.i64.wrap n,T6 _ _⟩
def Ak (n : Int) : Dp:=⟨IntKind.u64.wrap n,T6 _ _⟩
def wu8 (n : Int) : U8:=⟨IntKind.u8.wrap n,T6 _ _⟩
theorem Ad (n : Int) : (An n).val = (n + 9223372036854775808) % 18446744073709551616 - 9223372036854775808:=IntKind.wrap_i64 n
theorem At (n : Int) : (Ak n).val = n % 18446744073709551616:=IntKind.wrap_u64 n
def Ah (n : Int) (h : IntKind.i64.min ≤ n ∧ n ≤ IntKind.i64.max:=by decide) : Aq:=⟨n,h⟩
def Eu (n : Int) (h : IntKind.u64.min ≤ n ∧ n ≤ IntKind.u64.max:=by decide) : Dp:=⟨n,h⟩
def cu8 (n : Int) (h : IntKind.u8.min ≤ n ∧ n ≤ IntKind.u8.max:=by decide) : U8:=⟨n,h⟩
theorem Aj (n : Int) (h : IntKind.i64.min ≤ n ∧ n ≤ IntKind.i64.max) : (Ah n h).val = n:=rfl
theorem Bt (n : Int) (h : IntKind.u64.min ≤ n ∧ n ≤ IntKind.u64.max) : (Eu n h).val = n:=rfl
def Lb (L : List Aq) (i : Aq) : Aq:=L.getD i.val.toNat (Ah 0)
def mx {k : IntKind} (x y : IK k) : IK k:=⟨if y.val > x.val then y.val else x.val,by split; exact y.ok; exact x.ok⟩
def mn {k : IntKind} (x y : IK k) : IK k:=⟨if y.val < x.val then y.val else x.val,by split; exact y.ok; exact x.ok⟩
theorem oY {k : IntKind} (x y : IK k) : (mx x y).val = if y.val > x.val then y.val else x.val:=rfl
theorem p7 {k : IntKind} (x y : IK k) : (mn x y).val = if y.val < x.val then y.val else x.val:=rfl
def Eo (k : IntKind) (x y : Int) : IK k:=⟨k.wrap (BitVec.ofInt k.bits x &&& BitVec.ofInt k.bits y).toNat,T6 _ _⟩
def Qg (k : IntKind) (x y : Int) : IK k:=⟨k.wrap (BitVec.ofInt k.bits x ||| BitVec.ofInt k.bits y).toNat,T6 _ _⟩
def Mu (k : IntKind) (x y : Int) : IK k:=⟨k.wrap (BitVec.ofInt k.bits x ^^^ BitVec.ofInt k.bits y).toNat,T6 _ _⟩
def Aky (k : IntKind) (x : Int) : IK k:=Mu k (if k.signed then -1 else k.max) x
def Ci (k : IntKind) (x y : Int) : IK k:=⟨k.wrap (x * 2 ^ (min y.toNat k.bits)),T6 _ _⟩
theorem Ahc {k : IntKind} (x : IK k) (n : Nat) : k.min ≤ x.val.fdiv (2 ^ n) ∧ x.val.fdiv (2 ^ n) ≤ k.max:=by
  have h:=x.ok
  generalize x.val = v at h
  have hp : (0 : Int) < 2 ^ n:=Int.pow_pos (by omega)
  rw [Int.fdiv_eq_ediv_of_nonneg _ (Int.le_of_lt hp)]
  have hmin : k.min ≤ 0:=by cases k <;> decide
  have hmax : 0 ≤ k.max:=by cases k <;> decide
  by_cases hv : 0 ≤ v
  · have h1 : v / 2 ^ n ≤ v:=Int.ediv_le_self _ hv
    have h2 : 0 ≤ v / 2 ^ n:=Int.ediv_nonneg hv (Int.le_of_lt hp)
    omega
  · have h1 : v ≤ v / 2 ^ n:=by
      rw [Int.le_ediv_iff_mul_le hp]
      have : v * 2 ^ n ≤ v * 1:=Int.mul_le_mul_of_nonpos_left (by omega) (by omega)
      omega
    have h2 : v / 2 ^ n < 0:=by
      rw [Int.ediv_lt_iff_lt_mul hp]
      omega
    omega
def Ck {k : IntKind} (x : IK k) (y : Int) : IK k:=⟨x.val.fdiv (2 ^ (min y.toNat k.bits)),Ahc x _⟩
theorem F2 {k : IntKind} (x : IK k) (y : Int) : (Ck x y).val = x.val.fdiv (2 ^ (min y.toNat k.bits)):=rfl
theorem Agb {k : IntKind} (x : IK k) (y : Int) : k.min ≤ x.val.tmod y ∧ x.val.tmod y ≤ k.max:=by
  have h:=x.ok
  generalize x.val = v at h
  have hmin : k.min ≤ 0:=by cases k <;> decide
  have hmax : 0 ≤ k.max:=by cases k <;> decide
  have h1 : (v.tmod y).natAbs ≤ v.natAbs:=by rw [Int.natAbs_tmod]; exact Nat.mod_le _ _
  by_cases hv : 0 ≤ v
  · have:=Int.tmod_nonneg y hv
    omega
  · have : v.tmod y ≤ 0:=by
      have:=Int.tmod_nonneg (a:=-v) y (by omega)
      rw [Int.neg_tmod] at this
      omega
    omega
def Jl {k : IntKind} (x : IK k) (y : Int) : IK k:=⟨x.val.tmod y,Agb x y⟩
theorem Ll {k : IntKind} (x : IK k) (y : Int) : (Jl x y).val = x.val.tmod y:=rfl
theorem sI (x : Int) : IntKind.u64.min ≤ x % 18446744073709551616 ∧ x % 18446744073709551616 ≤ IntKind.u64.max:=by
  rw [← IntKind.wrap_u64]
  exact T6 _ _
def L2 (x y c : Dp) : Dp:=⟨(x.val + y.val + c.val) % 18446744073709551616,sI _⟩
def Lg (x y c : Dp) : Dp:=⟨(x.val + y.val + c.val) / 18446744073709551616,by have:=x.lo; have:=x.hi; have:=y.lo; have:=y.hi; have:=c.lo; have:=c.hi; refine ⟨?_,?_⟩ <;> simp only [IntKind.min,IntKind.max,IntKind.signed,IntKind.bits] <;> simp <;> omega⟩
def vD (x y c : Dp) : Dp:=⟨(x.val - y.val - c.val) % 18446744073709551616,sI _⟩
def dY (x y c : Dp) : Dp:=⟨if x.val < y.val + c.val then 1 else 0,by split <;> decide⟩
theorem Abo (x y c : Dp) (h : c.val ≤ 1) : (Lg x y c).val ≤ 1:=by
  have:=x.lo; have:=x.hi; have:=y.lo; have:=y.hi; have:=c.lo
  show (x.val + y.val + c.val) / 18446744073709551616 ≤ 1
  omega
theorem zO (x y c : Dp) : (dY x y c).val ≤ 1:=by
  show (if x.val < y.val + c.val then 1 else 0 : Int) ≤ 1
  split <;> decide
theorem bF (x y c : Dp) : (L2 x y c).val = (x.val + y.val + c.val) % 18446744073709551616:=rfl
theorem kY (x y c : Dp) : (Lg x y c).val = (x.val + y.val + c.val) / 18446744073709551616:=rfl
theorem vC (x y c : Dp) : (vD x y c).val = (x.val - y.val - c.val) % 18446744073709551616:=rfl
theorem vE (x y c : Dp) : (dY x y c).val = if x.val < y.val + c.val then 1 else 0:=rfl
structure Iv where
  lo : Aq
  hi : Aq
structure Wd where
  hi : Aq
  lo : Dp
structure Vc where
  x : Iv
  y : Iv
  z : Iv
structure Pt where
  lat : Aq
  lon : Aq
structure Pj where
  kind : Aq
  lat0 : Aq
  lon0 : Aq
  lat1 : Aq
  lat2 : Aq
structure Pn where
  x : Iv
  y : Iv
structure Cn where
  p : Pj
  a : Iv
  b : Iv
  o : Iv
  n : Iv
  g : Iv
def vI (n : Aq) : Value:=.int .i64 n.val
def vU (n : Dp) : Value:=.int .u64 n.val
def vB (b : Bool) : Value:=.bool b
def Af (a : Iv) : Value:=.agg #[.int .i64 a.lo.val,.int .i64 a.hi.val]
def Qa (a : Wd) : Value:=.agg #[.int .i64 a.hi.val,.int .u64 a.lo.val]
def Q7 (a : Vc) : Value:=.agg #[.int .i64 a.x.lo.val,.int .i64 a.x.hi.val,.int .i64 a.y.lo.val,.int .i64 a.y.hi.val,.int .i64 a.z.lo.val,.int .i64 a.z.hi.val]
def E6 (a : Pt) : Value:=.agg #[.int .i64 a.lat.val,.int .i64 a.lon.val]
def L8 (a : Pj) : Value:=.agg #[.int .i64 a.kind.val,.int .i64 a.lat0.val,.int .i64 a.lon0.val,.int .i64 a.lat1.val,.int .i64 a.lat2.val]
def vPn (a : Pn) : Value:=.agg #[.int .i64 a.x.lo.val,.int .i64 a.x.hi.val,.int .i64 a.y.lo.val,.int .i64 a.y.hi.val]
def vCn (a : Cn) : Value:=.agg #[.int .i64 a.p.kind.val,.int .i64 a.p.lat0.val,.int .i64 a.p.lon0.val,.int .i64 a.p.lat1.val,.int .i64 a.p.lat2.val,.int .i64 a.a.lo.val,.int .i64 a.a.hi.val,.int .i64 a.b.lo.val,.int .i64 a.b.hi.val,.int .i64 a.o.lo.val,.int .i64 a.o.hi.val,.int .i64 a.n.lo.val,.int .i64 a.n.hi.val,.int .i64 a.g.lo.val,.int .i64 a.g.hi.val]
def Aa {α β : Type} (x : α) (φ : α → β) : β:=φ x
end Go.Proofs.YtfhnlkinjbakgaaGreat.Abs
