/- The functions, on numbers; part 0 (written by w.py). -/
import Derived.Test.YtcdkepbgjgcjfaaGreatAbsD
import Derived.Lib.BitFns
set_option linter.unusedVariables false
set_option linter.unusedSimpArgs false
namespace Go.Proofs.YtcdkepbgjgcjfaaGreat.Abs
open Go Go.RowKit

def vT_Pt_Pt_Pt (a : Pt × Pt × Pt) : Value := .tuple #[vPt a.1, vPt a.2.1, vPt a.2.2]
def vT_U_U (a : U64 × U64) : Value := .tuple #[vU a.1, vU a.2]
def vT_U_U_U (a : U64 × U64 × U64) : Value := .tuple #[vU a.1, vU a.2.1, vU a.2.2]
def vT_Wd_I_B (a : Wd × I64 × Bool) : Value := .tuple #[vWd a.1, vI a.2.1, vB a.2.2]
def vT_I_B (a : I64 × Bool) : Value := .tuple #[vI a.1, vB a.2]
def vT_Iv_B (a : Iv × Bool) : Value := .tuple #[vIv a.1, vB a.2]
def vT_U_B (a : U64 × Bool) : Value := .tuple #[vU a.1, vB a.2]
def vT_Iv_I (a : Iv × I64) : Value := .tuple #[vIv a.1, vI a.2]
def vT_Wd_B (a : Wd × Bool) : Value := .tuple #[vWd a.1, vB a.2]
def vT_I_I (a : I64 × I64) : Value := .tuple #[vI a.1, vI a.2]
def vT_Wd_I (a : Wd × I64) : Value := .tuple #[vWd a.1, vI a.2]
def vT_Iv_Iv_I (a : Iv × Iv × I64) : Value := .tuple #[vIv a.1, vIv a.2.1, vI a.2.2]



def F_spec_l00Src_next__src (c0 : Cd) (b1 : Src) : I64 × Src :=
  (bif (decide (b1.ix.val < (((c0.L.length : Nat) : Int)))) then (bif (decide ((w64 (b1.ix.val + 1)).val ≤ (((c0.L.length : Nat) : Int)))) then ((w64 (byteAt c0.L b1.ix).val), (⟨(w64 (b1.ix.val + 1)), (wu64 ((wu64 ((wu64 (b1.sd.val * 6364136223846793005)).val + (wu64 (w64 (byteAt c0.L b1.ix).val).val).val)).val + 1442695040888963407))⟩ : Src)) else ((w64 (iand .u64 (ishr (wu64 ((wu64 ((wu64 (b1.sd.val * 6364136223846793005)).val + (wu64 (w64 (byteAt c0.L b1.ix).val).val).val)).val + 1442695040888963407)) 40).val 255).val), (⟨(w64 (b1.ix.val + 1)), (wu64 ((wu64 ((wu64 (b1.sd.val * 6364136223846793005)).val + (wu64 (w64 (byteAt c0.L b1.ix).val).val).val)).val + 1442695040888963407))⟩ : Src))) else (bif (decide ((w64 (b1.ix.val + 1)).val ≤ (((c0.L.length : Nat) : Int)))) then ((c64 0), (⟨(w64 (b1.ix.val + 1)), (wu64 ((wu64 ((wu64 (b1.sd.val * 6364136223846793005)).val + 0)).val + 1442695040888963407))⟩ : Src)) else ((w64 (iand .u64 (ishr (wu64 ((wu64 ((wu64 (b1.sd.val * 6364136223846793005)).val + 0)).val + 1442695040888963407)) 40).val 255).val), (⟨(w64 (b1.ix.val + 1)), (wu64 ((wu64 ((wu64 (b1.sd.val * 6364136223846793005)).val + 0)).val + 1442695040888963407))⟩ : Src))))

def F_spec_l00Src_pick__src (c0 : Cd) (b1 : Src) (a0 : I64) : I64 × Src :=
  (bif (decide (a0.val ≤ 1)) then ((c64 0), b1) else bindP (F_spec_l00Src_next__src c0 b1) fun r2 => (bif (decide (a0.val > 200)) then bindP (F_spec_l00Src_next__src c0 r2.2) fun r4 => ((imod (w64 ((w64 (r2.1.val * 256)).val + r4.1.val)) a0.val), r4.2) else ((imod r2.1 a0.val), r2.2)))

def F_spec_l00Src_one__src (c0 : Cd) (b1 : Src) (a0 : I64) : Bool × Src :=
  bindP (F_spec_l00Src_pick__src c0 b1 a0) fun r1 => ((r1.1.val == 0), r1.2)

def F_spec_l00Src_among__src__s4 (c0 : Cd) (b1_0 : I64) (b1_1 : I64) (b1_2 : I64) (b1_3 : I64) (b2 : Src) : I64 × Src :=
  bindP (F_spec_l00Src_pick__src c0 b2 (c64 4)) fun r1 => ((listAt [b1_0, b1_1, b1_2, b1_3] r1.1), r1.2)

def F_spec_l05Number__src (c0 : Cd) (b1 : Src) (a0 : I64) : I64 × Src :=
  bindP (F_spec_l00Src_next__src c0 b1) fun r1 => bindP (F_spec_l00Src_next__src c0 r1.2) fun r2 => bindP (F_spec_l00Src_next__src c0 r2.2) fun r3 => bindP (F_spec_l00Src_next__src c0 r3.2) fun r4 => bindP (F_spec_l00Src_next__src c0 r4.2) fun r5 => bindP (F_spec_l00Src_next__src c0 r5.2) fun r6 => bindP (F_spec_l00Src_next__src c0 r6.2) fun r7 => bindP (F_spec_l00Src_pick__src c0 r7.2 (c64 5)) fun r8 => (bif (r8.1.val == 0) then bindP (F_spec_l00Src_pick__src c0 r8.2 (c64 40)) fun r10 => bindP (F_spec_l00Src_one__src c0 r10.2 (c64 2)) fun r11 => (bif r11.1 then ((w64 (0 - (ishr (imod (ixor .i64 (ishl .i64 (ixor .i64 (ishl .i64 (ixor .i64 (ishl .i64 (ixor .i64 (ishl .i64 (ixor .i64 (ishl .i64 (ixor .i64 (ishl .i64 (ixor .i64 0 r1.1.val).val 8).val r2.1.val).val 8).val r3.1.val).val 8).val r4.1.val).val 8).val r5.1.val).val 8).val r6.1.val).val 8).val r7.1.val) (w64 (a0.val + 1)).val) (wu64 r10.1.val).val).val)), r11.2) else ((ishr (imod (ixor .i64 (ishl .i64 (ixor .i64 (ishl .i64 (ixor .i64 (ishl .i64 (ixor .i64 (ishl .i64 (ixor .i64 (ishl .i64 (ixor .i64 (ishl .i64 (ixor .i64 0 r1.1.val).val 8).val r2.1.val).val 8).val r3.1.val).val 8).val r4.1.val).val 8).val r5.1.val).val 8).val r6.1.val).val 8).val r7.1.val) (w64 (a0.val + 1)).val) (wu64 r10.1.val).val), r11.2)) else (bif (r8.1.val == 1) then bindP (F_spec_l00Src_among__src__s4 c0 (c64 0) (c64 1) a0 (w64 (Int.tdiv a0.val 2)) r8.2) fun r14 => bindP (F_spec_l00Src_one__src c0 r14.2 (c64 2)) fun r15 => (bif r15.1 then ((w64 (0 - r14.1.val)), r15.2) else (r14.1, r15.2)) else bindP (F_spec_l00Src_one__src c0 r8.2 (c64 2)) fun r17 => (bif r17.1 then ((w64 (0 - (imod (ixor .i64 (ishl .i64 (ixor .i64 (ishl .i64 (ixor .i64 (ishl .i64 (ixor .i64 (ishl .i64 (ixor .i64 (ishl .i64 (ixor .i64 (ishl .i64 (ixor .i64 0 r1.1.val).val 8).val r2.1.val).val 8).val r3.1.val).val 8).val r4.1.val).val 8).val r5.1.val).val 8).val r6.1.val).val 8).val r7.1.val) (w64 (a0.val + 1)).val).val)), r17.2) else ((imod (ixor .i64 (ishl .i64 (ixor .i64 (ishl .i64 (ixor .i64 (ishl .i64 (ixor .i64 (ishl .i64 (ixor .i64 (ishl .i64 (ixor .i64 (ishl .i64 (ixor .i64 0 r1.1.val).val 8).val r2.1.val).val 8).val r3.1.val).val 8).val r4.1.val).val 8).val r5.1.val).val 8).val r6.1.val).val 8).val r7.1.val) (w64 (a0.val + 1)).val), r17.2))))

def F_spec_l11Wrap (a0 : I64) : I64 :=
  (bif (decide ((imod a0 3600000000).val > 1800000000)) then (bif (decide ((w64 ((imod a0 3600000000).val - 3600000000)).val ≤ (-1800000000))) then (w64 ((w64 ((imod a0 3600000000).val - 3600000000)).val + 3600000000)) else (w64 ((imod a0 3600000000).val - 3600000000))) else (bif (decide ((imod a0 3600000000).val ≤ (-1800000000))) then (w64 ((imod a0 3600000000).val + 3600000000)) else (imod a0 3600000000)))

def F_spec_l00Src_among__src__s5 (c0 : Cd) (b1_0 : I64) (b1_1 : I64) (b1_2 : I64) (b1_3 : I64) (b1_4 : I64) (b2 : Src) : I64 × Src :=
  bindP (F_spec_l00Src_pick__src c0 b2 (c64 5)) fun r1 => ((listAt [b1_0, b1_1, b1_2, b1_3, b1_4] r1.1), r1.2)

def F_spec_l11Draw__src (c0 : Cd) (b1 : Src) : Pt × Src :=
  bindP (F_spec_l05Number__src c0 b1 (c64 900000000)) fun r1 => bindP (F_spec_l05Number__src c0 r1.2 (c64 1800000000)) fun r2 => bindP (F_spec_l11Wrap r2.1) fun r3 => bindP (F_spec_l00Src_pick__src c0 r2.2 (c64 10)) fun r4 => (bif (r4.1.val == 0) then bindP (F_spec_l00Src_among__src__s4 c0 (c64 900000000) (c64 (-900000000)) (c64 0) (c64 1) r4.2) fun r6 => ((⟨r6.1, r3⟩ : Pt), r6.2) else (bif (r4.1.val == 1) then bindP (F_spec_l00Src_among__src__s5 c0 (c64 1800000000) (c64 (-1799999999)) (c64 0) (c64 900000000) (c64 (-900000000)) r4.2) fun r8 => ((⟨r1.1, r8.1⟩ : Pt), r8.2) else ((⟨r1.1, r3⟩ : Pt), r4.2)))

def F_spec_E8Points (c0 : Cd) : Pt × Pt × Pt :=
  bindP (F_spec_l11Draw__src c0 (⟨(c64 0), (cu64 0)⟩ : Src)) fun r1 => bindP (F_spec_l11Draw__src c0 r1.2) fun r2 => bindP (F_spec_l11Draw__src c0 r2.2) fun r3 => bindP (F_spec_l00Src_pick__src c0 r3.2 (c64 6)) fun r4 => (bif (r4.1.val == 0) then bindP (F_spec_l00Src_pick__src c0 r4.2 (c64 4000)) fun r6 => bindP (F_spec_l11Wrap (w64 (r1.1.lon.val + r6.1.val))) fun r7 => (r1.1, (⟨r1.1.lat, r7⟩ : Pt), r3.1) else (bif (r4.1.val == 1) then (r1.1, r2.1, r2.1) else (bif (r4.1.val == 2) then (r1.1, (⟨r2.1.lat, r1.1.lon⟩ : Pt), r3.1) else (r1.1, r2.1, r3.1))))

def F_impl_within (a0 : I64) (a1 : I64) (a2 : I64) : Bool :=
  (bif (decide (a0.val ≥ a1.val)) then (decide (a0.val ≤ a2.val)) else false)

def F_impl_ValidPoint (a0 : Pt) : Bool :=
  bindP (F_impl_within a0.lat (c64 (-900000000)) (c64 900000000)) fun r1 => (bif r1 then (bif (decide (a0.lon.val > (-1800000000))) then (decide (a0.lon.val ≤ 1800000000)) else false) else false)

def F_impl_areValid (a0 : Pt) (a1 : Pt) : Bool :=
  bindP (F_impl_ValidPoint a0) fun r1 => (bif r1 then bindP (F_impl_ValidPoint a1) fun r2 => r2 else false)

def F_impl_Whole : Iv :=
  (⟨(c64 (-1152921504606846976)), (c64 1152921504606846976)⟩ : Iv)

def F_impl_ValidInterval (a0 : Iv) : Bool :=
  (bif (decide ((-1152921504606846976) < a0.lo.val)) then (bif (decide (a0.lo.val ≤ a0.hi.val)) then (decide (a0.hi.val < 1152921504606846976)) else false) else false)

def F_impl_IsWhole (a0 : Iv) : Bool :=
  bindP (F_impl_ValidInterval a0) fun r1 => (!r1)

def F_impl_NegI (a0 : Iv) : Iv :=
  bindP (F_impl_IsWhole a0) fun r1 => (bif r1 then bindP (F_impl_Whole) fun r2 => r2 else (⟨(w64 (0 - a0.hi.val)), (w64 (0 - a0.lo.val))⟩ : Iv))

def F_bits_Mul64 (a0 : U64) (a1 : U64) : U64 × U64 :=
  ((wu64 ((wu64 ((wu64 ((ishr a0 32).val * (ishr a1 32).val)).val + (ishr (wu64 ((wu64 ((ishr a0 32).val * (iand .u64 a1.val 4294967295).val)).val + (ishr (wu64 ((iand .u64 a0.val 4294967295).val * (iand .u64 a1.val 4294967295).val)) 32).val)) 32).val)).val + (ishr (wu64 ((iand .u64 (wu64 ((wu64 ((ishr a0 32).val * (iand .u64 a1.val 4294967295).val)).val + (ishr (wu64 ((iand .u64 a0.val 4294967295).val * (iand .u64 a1.val 4294967295).val)) 32).val)).val 4294967295).val + (wu64 ((iand .u64 a0.val 4294967295).val * (ishr a1 32).val)).val)) 32).val)), (wu64 (a0.val * a1.val)))

def F_impl_WideMul (a0 : I64) (a1 : I64) : Wd :=
  bindP (F_bits_Mul64 (wu64 a0.val) (wu64 a1.val)) fun r1 => (bif (decide (a0.val < 0)) then (bif (decide (a1.val < 0)) then (⟨(w64 (wu64 ((wu64 (r1.1.val - (wu64 a1.val).val)).val - (wu64 a0.val).val)).val), r1.2⟩ : Wd) else (⟨(w64 (wu64 (r1.1.val - (wu64 a1.val).val)).val), r1.2⟩ : Wd)) else (bif (decide (a1.val < 0)) then (⟨(w64 (wu64 (r1.1.val - (wu64 a0.val).val)).val), r1.2⟩ : Wd) else (⟨(w64 r1.1.val), r1.2⟩ : Wd)))

def F_bits_LeadingZeros64 (a0 : U64) : I64 := w64 (64 - (Lib.bitLen a0.val.toNat : Int))

def F_bits_Div64_L1 : Nat → U64 → U64 → U64 → U64 → U64 → U64 → U64 → U64 → U64 → U64 × U64
  | 0, _, _, _, _, _, _, _, _, _ => ((cu64 0), (cu64 0))
  | fu + 1, x_y, x_s, x_yn1, x_yn0, x_un0, x_q1, x_un21, x_rhat, x_q0 => (bif (decide (x_q0.val ≥ 4294967296)) then (bif (decide ((wu64 (x_rhat.val + x_yn1.val)).val ≥ 4294967296)) then ((wu64 ((wu64 (x_q1.val * 4294967296)).val + (wu64 (x_q0.val - 1)).val)), (ishr (wu64 ((wu64 ((wu64 (x_un21.val * 4294967296)).val + x_un0.val)).val - (wu64 ((wu64 (x_q0.val - 1)).val * x_y.val)).val)) x_s.val)) else F_bits_Div64_L1 fu x_y x_s x_yn1 x_yn0 x_un0 x_q1 x_un21 (wu64 (x_rhat.val + x_yn1.val)) (wu64 (x_q0.val - 1))) else (bif (decide ((wu64 (x_q0.val * x_yn0.val)).val > (wu64 ((wu64 (4294967296 * x_rhat.val)).val + x_un0.val)).val)) then (bif (decide ((wu64 (x_rhat.val + x_yn1.val)).val ≥ 4294967296)) then ((wu64 ((wu64 (x_q1.val * 4294967296)).val + (wu64 (x_q0.val - 1)).val)), (ishr (wu64 ((wu64 ((wu64 (x_un21.val * 4294967296)).val + x_un0.val)).val - (wu64 ((wu64 (x_q0.val - 1)).val * x_y.val)).val)) x_s.val)) else F_bits_Div64_L1 fu x_y x_s x_yn1 x_yn0 x_un0 x_q1 x_un21 (wu64 (x_rhat.val + x_yn1.val)) (wu64 (x_q0.val - 1))) else ((wu64 ((wu64 (x_q1.val * 4294967296)).val + x_q0.val)), (ishr (wu64 ((wu64 ((wu64 (x_un21.val * 4294967296)).val + x_un0.val)).val - (wu64 (x_q0.val * x_y.val)).val)) x_s.val))))

def F_bits_Div64_L0 : Nat → U64 → U64 → U64 → U64 → U64 → U64 → U64 → U64 → U64 → U64 × U64
  | 0, _, _, _, _, _, _, _, _, _ => ((cu64 0), (cu64 0))
  | fu + 1, x_y, x_s, x_yn1, x_yn0, x_un32, x_un1, x_un0, x_q1, x_rhat => (bif (decide (x_q1.val ≥ 4294967296)) then (bif (decide ((wu64 (x_rhat.val + x_yn1.val)).val ≥ 4294967296)) then F_bits_Div64_L1 ((4294967296 - (wu64 ((wu64 ((wu64 ((wu64 (x_un32.val * 4294967296)).val + x_un1.val)).val - (wu64 ((wu64 (x_q1.val - 1)).val * x_y.val)).val)).val - (wu64 ((wu64 (Int.tdiv (wu64 ((wu64 ((wu64 (x_un32.val * 4294967296)).val + x_un1.val)).val - (wu64 ((wu64 (x_q1.val - 1)).val * x_y.val)).val)).val x_yn1.val)).val * x_yn1.val)).val)).val).toNat + 1) x_y x_s x_yn1 x_yn0 x_un0 (wu64 (x_q1.val - 1)) (wu64 ((wu64 ((wu64 (x_un32.val * 4294967296)).val + x_un1.val)).val - (wu64 ((wu64 (x_q1.val - 1)).val * x_y.val)).val)) (wu64 ((wu64 ((wu64 ((wu64 (x_un32.val * 4294967296)).val + x_un1.val)).val - (wu64 ((wu64 (x_q1.val - 1)).val * x_y.val)).val)).val - (wu64 ((wu64 (Int.tdiv (wu64 ((wu64 ((wu64 (x_un32.val * 4294967296)).val + x_un1.val)).val - (wu64 ((wu64 (x_q1.val - 1)).val * x_y.val)).val)).val x_yn1.val)).val * x_yn1.val)).val)) (wu64 (Int.tdiv (wu64 ((wu64 ((wu64 (x_un32.val * 4294967296)).val + x_un1.val)).val - (wu64 ((wu64 (x_q1.val - 1)).val * x_y.val)).val)).val x_yn1.val)) else F_bits_Div64_L0 fu x_y x_s x_yn1 x_yn0 x_un32 x_un1 x_un0 (wu64 (x_q1.val - 1)) (wu64 (x_rhat.val + x_yn1.val))) else (bif (decide ((wu64 (x_q1.val * x_yn0.val)).val > (wu64 ((wu64 (4294967296 * x_rhat.val)).val + x_un1.val)).val)) then (bif (decide ((wu64 (x_rhat.val + x_yn1.val)).val ≥ 4294967296)) then F_bits_Div64_L1 ((4294967296 - (wu64 ((wu64 ((wu64 ((wu64 (x_un32.val * 4294967296)).val + x_un1.val)).val - (wu64 ((wu64 (x_q1.val - 1)).val * x_y.val)).val)).val - (wu64 ((wu64 (Int.tdiv (wu64 ((wu64 ((wu64 (x_un32.val * 4294967296)).val + x_un1.val)).val - (wu64 ((wu64 (x_q1.val - 1)).val * x_y.val)).val)).val x_yn1.val)).val * x_yn1.val)).val)).val).toNat + 1) x_y x_s x_yn1 x_yn0 x_un0 (wu64 (x_q1.val - 1)) (wu64 ((wu64 ((wu64 (x_un32.val * 4294967296)).val + x_un1.val)).val - (wu64 ((wu64 (x_q1.val - 1)).val * x_y.val)).val)) (wu64 ((wu64 ((wu64 ((wu64 (x_un32.val * 4294967296)).val + x_un1.val)).val - (wu64 ((wu64 (x_q1.val - 1)).val * x_y.val)).val)).val - (wu64 ((wu64 (Int.tdiv (wu64 ((wu64 ((wu64 (x_un32.val * 4294967296)).val + x_un1.val)).val - (wu64 ((wu64 (x_q1.val - 1)).val * x_y.val)).val)).val x_yn1.val)).val * x_yn1.val)).val)) (wu64 (Int.tdiv (wu64 ((wu64 ((wu64 (x_un32.val * 4294967296)).val + x_un1.val)).val - (wu64 ((wu64 (x_q1.val - 1)).val * x_y.val)).val)).val x_yn1.val)) else F_bits_Div64_L0 fu x_y x_s x_yn1 x_yn0 x_un32 x_un1 x_un0 (wu64 (x_q1.val - 1)) (wu64 (x_rhat.val + x_yn1.val))) else F_bits_Div64_L1 ((4294967296 - (wu64 ((wu64 ((wu64 ((wu64 (x_un32.val * 4294967296)).val + x_un1.val)).val - (wu64 (x_q1.val * x_y.val)).val)).val - (wu64 ((wu64 (Int.tdiv (wu64 ((wu64 ((wu64 (x_un32.val * 4294967296)).val + x_un1.val)).val - (wu64 (x_q1.val * x_y.val)).val)).val x_yn1.val)).val * x_yn1.val)).val)).val).toNat + 1) x_y x_s x_yn1 x_yn0 x_un0 x_q1 (wu64 ((wu64 ((wu64 (x_un32.val * 4294967296)).val + x_un1.val)).val - (wu64 (x_q1.val * x_y.val)).val)) (wu64 ((wu64 ((wu64 ((wu64 (x_un32.val * 4294967296)).val + x_un1.val)).val - (wu64 (x_q1.val * x_y.val)).val)).val - (wu64 ((wu64 (Int.tdiv (wu64 ((wu64 ((wu64 (x_un32.val * 4294967296)).val + x_un1.val)).val - (wu64 (x_q1.val * x_y.val)).val)).val x_yn1.val)).val * x_yn1.val)).val)) (wu64 (Int.tdiv (wu64 ((wu64 ((wu64 (x_un32.val * 4294967296)).val + x_un1.val)).val - (wu64 (x_q1.val * x_y.val)).val)).val x_yn1.val))))

def F_bits_Div64 (a0 : U64) (a1 : U64) (a2 : U64) : U64 × U64 :=
  (bif (a0.val == 0) then ((wu64 (Int.tdiv a1.val a2.val)), (imod a1 a2.val)) else bindP (F_bits_LeadingZeros64 a2) fun r2 => F_bits_Div64_L0 ((4294967296 - (wu64 ((ior .u64 (ishl .u64 a0.val (wu64 r2.val).val).val (ishr a1 (wu64 (64 - (wu64 r2.val).val)).val).val).val - (wu64 ((wu64 (Int.tdiv (ior .u64 (ishl .u64 a0.val (wu64 r2.val).val).val (ishr a1 (wu64 (64 - (wu64 r2.val).val)).val).val).val (ishr (ishl .u64 a2.val (wu64 r2.val).val) 32).val)).val * (ishr (ishl .u64 a2.val (wu64 r2.val).val) 32).val)).val)).val).toNat + 1) (ishl .u64 a2.val (wu64 r2.val).val) (wu64 r2.val) (ishr (ishl .u64 a2.val (wu64 r2.val).val) 32) (iand .u64 (ishl .u64 a2.val (wu64 r2.val).val).val 4294967295) (ior .u64 (ishl .u64 a0.val (wu64 r2.val).val).val (ishr a1 (wu64 (64 - (wu64 r2.val).val)).val).val) (ishr (ishl .u64 a1.val (wu64 r2.val).val) 32) (iand .u64 (ishl .u64 a1.val (wu64 r2.val).val).val 4294967295) (wu64 (Int.tdiv (ior .u64 (ishl .u64 a0.val (wu64 r2.val).val).val (ishr a1 (wu64 (64 - (wu64 r2.val).val)).val).val).val (ishr (ishl .u64 a2.val (wu64 r2.val).val) 32).val)) (wu64 ((ior .u64 (ishl .u64 a0.val (wu64 r2.val).val).val (ishr a1 (wu64 (64 - (wu64 r2.val).val)).val).val).val - (wu64 ((wu64 (Int.tdiv (ior .u64 (ishl .u64 a0.val (wu64 r2.val).val).val (ishr a1 (wu64 (64 - (wu64 r2.val).val)).val).val).val (ishr (ishl .u64 a2.val (wu64 r2.val).val) 32).val)).val * (ishr (ishl .u64 a2.val (wu64 r2.val).val) 32).val)).val)))

def F_impl_divided (a0 : U64) (a1 : U64) (a2 : U64) : U64 × U64 × U64 :=
  bindP (F_bits_Div64 (imod a0 a2.val) a1 a2) fun r1 => ((wu64 (Int.tdiv a0.val a2.val)), r1.1, r1.2)

def F_impl_Wide_negative (a0 : Wd) : Wd :=
  (⟨(w64 (sbb_lo (cu64 0) (wu64 a0.hi.val) (sbb_hi (cu64 0) a0.lo (cu64 0))).val), (sbb_lo (cu64 0) a0.lo (cu64 0))⟩ : Wd)

def F_impl_WideDiv (a0 : Wd) (a1 : I64) : Wd × I64 × Bool :=
  (bif (decide (a1.val ≤ 0)) then ((⟨(c64 0), (cu64 0)⟩ : Wd), (c64 0), false) else (bif (decide (a0.hi.val ≥ 0)) then bindP (F_impl_divided (wu64 a0.hi.val) a0.lo (wu64 a1.val)) fun r3 => ((⟨(w64 r3.1.val), r3.2.1⟩ : Wd), (w64 r3.2.2.val), true) else bindP (F_impl_Wide_negative a0) fun r4 => bindP (F_impl_divided (wu64 r4.hi.val) r4.lo (wu64 a1.val)) fun r5 => (bif (r5.2.2.val == 0) then bindP (F_impl_Wide_negative (⟨(w64 r5.1.val), r5.2.1⟩ : Wd)) fun r7 => (r7, (c64 0), true) else bindP (F_impl_Wide_negative (⟨(w64 (wu64 (r5.1.val + (adc_hi r5.2.1 (cu64 1) (cu64 0)).val)).val), (adc_lo r5.2.1 (cu64 1) (cu64 0))⟩ : Wd)) fun r8 => (r8, (w64 (a1.val - (w64 r5.2.2.val).val)), true))))

def F_impl_WideOf (a0 : I64) : Wd :=
  (⟨(ishr a0 63), (wu64 a0.val)⟩ : Wd)

def F_impl_WideInt (a0 : Wd) : I64 × Bool :=
  bindP (F_impl_WideOf (w64 a0.lo.val)) fun r1 => (bif (!((r1.hi.val == a0.hi.val) && (r1.lo.val == a0.lo.val))) then ((c64 0), false) else ((w64 a0.lo.val), true))

def F_impl_MulDivFloor (a0 : I64) (a1 : I64) (a2 : I64) : I64 × Bool :=
  bindP (F_impl_WideMul a0 a1) fun r1 => bindP (F_impl_WideDiv r1 a2) fun r2 => (bif (!r2.2.2) then ((c64 0), false) else bindP (F_impl_WideInt r2.1) fun r3 => (r3.1, r3.2))

def F_impl_RadiansOf_r : Nat → I64 → Iv
  | 0, _ => (⟨(c64 0), (c64 0)⟩ : Iv)
  | fu + 1, a0 => bindP (F_impl_within a0 (c64 (-36000000000)) (c64 36000000000)) fun r1 => (bif (!r1) then bindP (F_impl_Whole) fun r3 => r3 else (bif (decide (a0.val < 0)) then bindP (F_impl_RadiansOf_r fu (w64 (0 - a0.val))) fun r5 => bindP (F_impl_NegI r5) fun r6 => r6 else (bif (a0.val == 0) then (⟨(c64 0), (c64 0)⟩ : Iv) else bindP (F_impl_MulDivFloor a0 (c64 7244019458077122842) (c64 966367641600000000)) fun r8 => bindP (F_impl_MulDivFloor a0 (c64 7244019458077122843) (c64 966367641600000000)) fun r9 => (⟨r8.1, (w64 (r9.1.val + 1))⟩ : Iv))))
def F_impl_RadiansOf (a0 : I64) : Iv := F_impl_RadiansOf_r 2 a0

def F_impl_LatOf (a0 : Pt) : Iv :=
  bindP (F_impl_ValidPoint a0) fun r1 => (bif (!r1) then bindP (F_impl_Whole) fun r2 => r2 else bindP (F_impl_RadiansOf a0.lat) fun r3 => r3)

def F_impl_WrapLon (a0 : I64) : I64 :=
  (bif (decide ((imod a0 3600000000).val > 1800000000)) then (w64 ((imod a0 3600000000).val - 3600000000)) else (bif (decide ((imod a0 3600000000).val ≤ (-1800000000))) then (w64 ((imod a0 3600000000).val + 3600000000)) else (imod a0 3600000000)))

def F_impl_differenceOf (a0 : Pt) (a1 : Pt) : Iv :=
  bindP (F_impl_WrapLon (w64 (a1.lon.val - a0.lon.val))) fun r1 => bindP (F_impl_RadiansOf r1) fun r2 => r2

def F_impl_isAngle (a0 : I64) : Bool :=
  bindP (F_impl_within a0 (c64 (-1099511627776)) (c64 1099511627776)) fun r1 => r1

def F_impl_areAngles (a0 : Iv) : Bool :=
  bindP (F_impl_ValidInterval a0) fun r1 => (bif r1 then bindP (F_impl_isAngle a0.lo) fun r2 => (bif r2 then bindP (F_impl_isAngle a0.hi) fun r3 => r3 else false) else false)

def F_impl_ring : Iv :=
  (⟨(c64 (-4294967296)), (c64 4294967296)⟩ : Iv)

def F_impl_QuarterOf (a0 : I64) : I64 :=
  bindP (F_impl_isAngle a0) fun r1 => (bif (!r1) then (c64 0) else (bif (decide ((w64 ((w64 (Int.tdiv (w64 (a0.val + 3373259426)).val 6746518852)).val * 6746518852)).val > (w64 (a0.val + 3373259426)).val)) then (w64 ((w64 (Int.tdiv (w64 (a0.val + 3373259426)).val 6746518852)).val - 1)) else (w64 (Int.tdiv (w64 (a0.val + 3373259426)).val 6746518852))))

def F_impl_at (a0 : I64) : Iv :=
  (⟨a0, a0⟩ : Iv)

def F_impl_WideShift (a0 : Wd) (a1 : I64) : Wd :=
  bindP (F_impl_within a1 (c64 0) (c64 127)) fun r1 => (bif (!r1) then (⟨(c64 0), (cu64 0)⟩ : Wd) else (bif (decide (a1.val ≥ 64)) then (⟨(ishr a0.hi 63), (wu64 (ishr a0.hi (w64 (a1.val - 64)).val).val)⟩ : Wd) else (⟨(ishr a0.hi a1.val), (ior .u64 (ishr a0.lo a1.val).val (ishl .u64 (wu64 a0.hi.val).val (w64 (64 - a1.val)).val).val)⟩ : Wd)))

def F_impl_MulFloor (a0 : I64) (a1 : I64) (a2 : I64) : I64 × Bool :=
  bindP (F_impl_within a2 (c64 0) (c64 126)) fun r1 => (bif (!r1) then ((c64 0), false) else bindP (F_impl_WideMul a0 a1) fun r2 => bindP (F_impl_WideShift r2 a2) fun r3 => bindP (F_impl_WideInt r3) fun r4 => (r4.1, r4.2))

def F_impl_TurnI_r : Nat → I64 → Iv
  | 0, _ => (⟨(c64 0), (c64 0)⟩ : Iv)
  | fu + 1, a0 => bindP (F_impl_within a0 (c64 (-4096)) (c64 4096)) fun r1 => (bif (!r1) then bindP (F_impl_Whole) fun r3 => r3 else (bif (decide (a0.val < 0)) then bindP (F_impl_TurnI_r fu (w64 (0 - a0.val))) fun r5 => bindP (F_impl_NegI r5) fun r6 => r6 else (bif (a0.val == 0) then (⟨(c64 0), (c64 0)⟩ : Iv) else bindP (F_impl_MulFloor a0 (c64 7244019458077122842) (c64 30)) fun r8 => (⟨r8.1, (w64 (r8.1.val + 1))⟩ : Iv))))
def F_impl_TurnI (a0 : I64) : Iv := F_impl_TurnI_r 2 a0

def F_impl_areBounded (a0 : Iv) (a1 : Iv) : Bool :=
  bindP (F_impl_ValidInterval a0) fun r1 => (bif r1 then bindP (F_impl_ValidInterval a1) fun r2 => r2 else false)

def F_impl_bounded (a0 : I64) (a1 : I64) (a2 : Bool) : Iv :=
  (bif a2 then bindP (F_impl_ValidInterval (⟨a0, a1⟩ : Iv)) fun r1 => (bif r1 then (⟨a0, a1⟩ : Iv) else bindP (F_impl_Whole) fun r2 => r2) else bindP (F_impl_Whole) fun r3 => r3)

def F_impl_AddI (a0 : Iv) (a1 : Iv) : Iv :=
  bindP (F_impl_areBounded a0 a1) fun r1 => (bif (!r1) then bindP (F_impl_Whole) fun r2 => r2 else bindP (F_impl_bounded (w64 (a0.lo.val + a1.lo.val)) (w64 (a0.hi.val + a1.hi.val)) true) fun r3 => r3)

def F_impl_SubI (a0 : Iv) (a1 : Iv) : Iv :=
  bindP (F_impl_NegI a1) fun r1 => bindP (F_impl_AddI a0 r1) fun r2 => r2

def F_impl_InsideI (a0 : Iv) (a1 : Iv) : Bool :=
  bindP (F_impl_IsWhole a0) fun r1 => (bif r1 then bindP (F_impl_IsWhole a1) fun r2 => r2 else bindP (F_impl_IsWhole a1) fun r3 => (bif r3 then bindP (F_impl_IsWhole a1) fun r4 => r4 else (bif (decide (a1.lo.val ≤ a0.lo.val)) then (decide (a0.hi.val ≤ a1.hi.val)) else false)))

def F_impl_abs (a0 : I64) : I64 :=
  (mx a0 (w64 (0 - a0.val)))

def F_impl_HasI (a0 : Iv) (a1 : I64) : Bool :=
  bindP (F_impl_IsWhole a0) fun r1 => (bif r1 then true else bindP (F_impl_within a1 a0.lo a0.hi) fun r2 => r2)

def F_impl_AbsI (a0 : Iv) : Iv :=
  bindP (F_impl_IsWhole a0) fun r1 => (bif r1 then bindP (F_impl_Whole) fun r2 => r2 else bindP (F_impl_abs a0.lo) fun r3 => bindP (F_impl_abs a0.hi) fun r4 => bindP (F_impl_abs a0.lo) fun r5 => bindP (F_impl_abs a0.hi) fun r6 => bindP (F_impl_HasI a0 (c64 0)) fun r7 => (bif r7 then (⟨(c64 0), (mx r5 r6)⟩ : Iv) else (⟨(mn r3 r4), (mx r5 r6)⟩ : Iv)))

def F_impl_ValidFix (a0 : I64) : Bool :=
  bindP (F_impl_within a0 (c64 (-1152921504606846976)) (c64 1152921504606846976)) fun r1 => r1

def F_impl_fixed (a0 : I64) (a1 : Bool) : I64 × Bool :=
  (bif (!a1) then ((c64 0), false) else bindP (F_impl_ValidFix a0) fun r1 => (bif (!r1) then ((c64 0), false) else (a0, true)))

def F_impl_MulDown (a0 : I64) (a1 : I64) : I64 × Bool :=
  bindP (F_impl_ValidFix a0) fun r1 => (bif (!r1) then ((c64 0), false) else bindP (F_impl_ValidFix a1) fun r2 => (bif (!r2) then ((c64 0), false) else bindP (F_impl_MulFloor a0 a1 (c64 32)) fun r3 => bindP (F_impl_fixed r3.1 r3.2) fun r4 => (r4.1, r4.2)))

def F_impl_MulUp (a0 : I64) (a1 : I64) : I64 × Bool :=
  bindP (F_impl_ValidFix a0) fun r1 => (bif (!r1) then ((c64 0), false) else bindP (F_impl_ValidFix a1) fun r2 => (bif (!r2) then ((c64 0), false) else bindP (F_impl_MulDown (w64 (0 - a0.val)) a1) fun r3 => ((w64 (0 - r3.1.val)), r3.2)))

def F_impl_SqrI (a0 : Iv) : Iv :=
  bindP (F_impl_IsWhole a0) fun r1 => (bif r1 then bindP (F_impl_Whole) fun r2 => r2 else bindP (F_impl_AbsI a0) fun r3 => bindP (F_impl_MulDown r3.lo r3.lo) fun r4 => bindP (F_impl_MulUp r3.hi r3.hi) fun r5 => (bif r4.2 then bindP (F_impl_bounded r4.1 r5.1 r5.2) fun r6 => r6 else bindP (F_impl_bounded r4.1 r5.1 false) fun r7 => r7))

def F_impl_Integer (a0 : I64) : Iv :=
  bindP (F_impl_within a0 (c64 (-268435456)) (c64 268435456)) fun r1 => (bif (!r1) then bindP (F_impl_Whole) fun r2 => r2 else bindP (F_impl_bounded (w64 (a0.val * 4294967296)) (w64 (a0.val * 4294967296)) true) fun r3 => r3)

def F_impl_DivDown (a0 : I64) (a1 : I64) : I64 × Bool :=
  bindP (F_impl_ValidFix a0) fun r1 => (bif (!r1) then ((c64 0), false) else bindP (F_impl_ValidFix a1) fun r2 => (bif (!r2) then ((c64 0), false) else (bif (decide (a1.val < 0)) then bindP (F_impl_MulDivFloor (w64 (0 - a0.val)) (c64 4294967296) (w64 (0 - a1.val))) fun r3 => bindP (F_impl_fixed r3.1 r3.2) fun r4 => (r4.1, r4.2) else bindP (F_impl_MulDivFloor a0 (c64 4294967296) a1) fun r5 => bindP (F_impl_fixed r5.1 r5.2) fun r6 => (r6.1, r6.2))))

def F_impl_DivUp (a0 : I64) (a1 : I64) : I64 × Bool :=
  bindP (F_impl_ValidFix a0) fun r1 => (bif (!r1) then ((c64 0), false) else bindP (F_impl_ValidFix a1) fun r2 => (bif (!r2) then ((c64 0), false) else bindP (F_impl_DivDown (w64 (0 - a0.val)) a1) fun r3 => ((w64 (0 - r3.1.val)), r3.2)))

def F_impl_combine__impl_DivDown__impl_DivUp (a0 : Iv) (a1 : Iv) : Iv :=
  bindP (F_impl_DivDown a0.lo a1.lo) fun r1 => bindP (F_impl_DivUp a0.lo a1.lo) fun r2 => (bif (!r1.2) then bindP (F_impl_Whole) fun r3 => r3 else (bif (!r2.2) then bindP (F_impl_Whole) fun r4 => r4 else bindP (F_impl_DivDown a0.lo a1.hi) fun r5 => bindP (F_impl_DivUp a0.lo a1.hi) fun r6 => (bif (!r5.2) then bindP (F_impl_Whole) fun r7 => r7 else (bif (!r6.2) then bindP (F_impl_Whole) fun r8 => r8 else bindP (F_impl_DivDown a0.hi a1.lo) fun r9 => bindP (F_impl_DivUp a0.hi a1.lo) fun r10 => (bif (!r9.2) then bindP (F_impl_Whole) fun r11 => r11 else (bif (!r10.2) then bindP (F_impl_Whole) fun r12 => r12 else bindP (F_impl_DivDown a0.hi a1.hi) fun r13 => bindP (F_impl_DivUp a0.hi a1.hi) fun r14 => (bif (!r13.2) then bindP (F_impl_Whole) fun r15 => r15 else (bif (!r14.2) then bindP (F_impl_Whole) fun r16 => r16 else bindP (F_impl_bounded (mn (mn (mn (mn r1.1 r1.1) r5.1) r9.1) r13.1) (mx (mx (mx (mx r2.1 r2.1) r6.1) r10.1) r14.1) true) fun r17 => r17))))))))

def F_impl_DivI (a0 : Iv) (a1 : Iv) : Iv :=
  bindP (F_impl_areBounded a0 a1) fun r1 => (bif (!r1) then bindP (F_impl_Whole) fun r2 => r2 else bindP (F_impl_HasI a1 (c64 0)) fun r3 => (bif r3 then bindP (F_impl_Whole) fun r4 => r4 else bindP (F_impl_combine__impl_DivDown__impl_DivUp a0 a1) fun r5 => r5))

end Go.Proofs.YtcdkepbgjgcjfaaGreat.Abs
