/- The plain law of ShiftText. -/
import Derived.Test.YtlgbjanlofomoaaDoorShiftA
import Derived.Test.YtlgbjanlofomoaaDoorShiftO
namespace Go.Proofs.YtlgbjanlofomoaaDoor.PFnExactShiftText
open Go.RowKit Go.Proofs.YtlgbjanlofomoaaDoorW.PrintWords Go.Proofs.YtlgbjanlofomoaaDoorW.PrintLast Go.Proofs.YtlgbjanlofomoaaDoorW.PrintMore
set_option linter.unusedVariables false
set_option linter.unusedSimpArgs false

/-- A natural number's digits, as the reference holds them. -/
def dI (m : Nat) : List Int := (Lib.decDigits m).map fun b => (b.toNat : Int)

theorem dI_small {m : Nat} (h : m < 10) : dI m = [48 + (m : Int)] := by
  unfold dI
  rw [Lib.decDigits_one h]
  have : (48 + m) % 256 = 48 + m := by omega
  simp [UInt8.toNat_ofNat', this]

theorem dI_step {m : Nat} (h : ¬ m < 10) : dI m = dI (m / 10) ++ [48 + ((m % 10 : Nat) : Int)] := by
  unfold dI
  rw [Lib.decDigits, dif_neg h, List.map_append]
  have : (48 + m % 10) % 256 = 48 + m % 10 := by omega
  simp [UInt8.toNat_ofNat', this]

theorem str_dI (m : Nat) : strOfNums (dI m) = ⟨(Lib.decDigits m).toArray⟩ := by
  unfold strOfNums dI
  rw [List.map_map]
  congr 2
  conv => rhs; rw [← List.map_id (Lib.decDigits m)]
  refine List.map_congr_left fun b _ => ?_
  show UInt8.ofNat ((b.toNat : Int)).toNat = b
  rw [Int.toNat_natCast, UInt8.ofNat_toNat]

/-- What the digits become. -/
def finD (x0 : Int) (xs : List Int) : Option ByteArray :=
  if (xs.length : Int) = 0 then (some (⟨#[48]⟩ : ByteArray)) else (if x0 < 0 then (if 1 + (strOfNums xs).size ≤ 9223372036854775807 then (some ((⟨#[45]⟩ : ByteArray) ++ (strOfNums xs))) else (none)) else (some (strOfNums xs)))

theorem tmod_abs (x : Int) : (Int.tmod x 10 < 0 → -(Int.tmod x 10) = ((x.natAbs % 10 : Nat) : Int)) ∧ (¬ Int.tmod x 10 < 0 → Int.tmod x 10 = ((x.natAbs % 10 : Nat) : Int)) := by
  have h := Int.tmod_def x 10
  rcases Int.natAbs_eq x with e | e
  · have : Int.tmod x 10 = x % 10 := Int.tmod_eq_emod_of_nonneg (by omega)
    omega
  · have : Int.tmod x 10 = -((-x) % 10) := by
      rw [← Int.tmod_eq_emod_of_nonneg (by omega : 0 ≤ -x), Int.neg_tmod, Int.neg_neg]
    omega

theorem tdiv_abs (x : Int) : (Int.tdiv x 10).natAbs = x.natAbs / 10 := by
  rw [Int.natAbs_tdiv]
  rfl

theorem l01Dec_l0 : ∀ (k : Nat) (x0 : Int) (x3 : List Int) (x4 : Int), x4.natAbs < 10 ^ k → x4.natAbs ≤ 9223372036854775808 → x3.length + k ≤ 100 →
    spec_l01Dec.l0 (k + 1) x0 x3 x4 = if x4 = 0 then finD x0 x3 else finD x0 (dI x4.natAbs ++ x3)
  | 0, x0, x3, x4, h, _, hl => by
    have : x4 = 0 := by simp at h; exact h
    subst this
    unfold spec_l01Dec.l0 finD
    rw [if_pos rfl, if_pos rfl]
  | k + 1, x0, x3, x4, h, hb, hl => by
    unfold spec_l01Dec.l0
    by_cases h0 : x4 = 0
    · rw [if_pos h0, if_pos h0]; rfl
    · rw [if_neg h0, if_neg h0]
      have hq : (Int.tdiv x4 10).natAbs = x4.natAbs / 10 := tdiv_abs x4
      have hw : wrap64 (Int.tdiv x4 10) = Int.tdiv x4 10 := by unfold wrap64; omega
      have hlt : (Int.tdiv x4 10).natAbs < 10 ^ k := by
        rw [hq]
        rw [Nat.pow_succ] at h
        omega
      have next : ∀ d : Int, d = 48 + ((x4.natAbs % 10 : Nat) : Int) → spec_l01Dec.l0 (k + 1) x0 ([d] ++ x3) (wrap64 (Int.tdiv x4 10)) = finD x0 (dI x4.natAbs ++ x3) := fun d hd => by
        rw [hw, l01Dec_l0 k x0 ([d] ++ x3) _ hlt (by omega) (by simp only [List.length_append, List.length_cons, List.length_nil]; omega)]
        by_cases h1 : Int.tdiv x4 10 = 0
        · rw [if_pos h1]
          have h2 : x4.natAbs < 10 := by rw [h1] at hq; simp at hq; omega
          rw [dI_small h2, hd, Nat.mod_eq_of_lt h2]
        · rw [if_neg h1, hq]
          have h2 : ¬ x4.natAbs < 10 := fun h3 => h1 (Int.natAbs_eq_zero.1 (by omega))
          rw [dI_step h2, hd, List.append_assoc]
      have hlen : ∀ d : Int, ([d] : List Int).length + x3.length < 140737488355328 := fun d => by simp only [List.length_cons, List.length_nil]; omega
      obtain ⟨t1, t2⟩ := tmod_abs x4
      by_cases hn : Int.tmod x4 10 < 0
      · rw [if_pos hn]
        simp only [Option.bind_some]
        rw [if_pos (hlen _)]
        refine next _ ?_
        have := t1 hn
        unfold wrap64
        omega
      · rw [if_neg hn]
        simp only [Option.bind_some]
        rw [if_pos (hlen _)]
        refine next _ ?_
        have := t2 hn
        unfold wrap64
        omega

theorem dI_pos (m : Nat) : 0 < (dI m).length := by
  by_cases h : m < 10
  · rw [dI_small h]; exact Nat.one_pos
  · rw [dI_step h, List.length_append]; simp

theorem l01Dec_f (n : Int) (h0 : -9223372036854775808 ≤ n) (h1 : n ≤ 9223372036854775807) {k : Nat} (hk : 20 ≤ k) (hk2 : k ≤ 90) : spec_l01Dec.f (k + 1) n = some (its n) := by
  unfold spec_l01Dec.f
  have hp : n.natAbs < 10 ^ k := Nat.lt_of_lt_of_le (by omega : n.natAbs < 10 ^ 20) (Nat.pow_le_pow_right (by omega) hk)
  rw [l01Dec_l0 k n [] n hp (by omega) (by simp only [List.length_nil]; omega)]
  by_cases hz : n = 0
  · subst hz
    have e : Lib.itoa 0 = [48] := by
      rw [show (0 : Int) = ((0 : Nat) : Int) from rfl, Lib.itoa_nonneg, Lib.decDigits_one (by decide)]
      rfl
    rw [if_pos rfl]
    unfold its finD
    rw [e]
    exact if_pos rfl
  · rw [if_neg hz, List.append_nil]
    unfold finD its
    have hpos := dI_pos n.natAbs
    rw [if_neg (by omega), str_dI]
    by_cases hn : n < 0
    · obtain ⟨u, rfl⟩ : ∃ u : Nat, n = -(u : Int) := ⟨n.natAbs, by omega⟩
      have hl := Lib.itoa_length_le (-(u : Int)) h0 h1
      rw [if_pos hn, Lib.itoa_neg u (by omega)] at *
      rw [if_pos ?_]
      · rw [show (-(u : Int)).natAbs = u by omega]
        congr 1
      · rw [show (-(u : Int)).natAbs = u by omega]
        simp only [List.length_cons] at hl
        show 1 + (Lib.decDigits u).toArray.size ≤ _
        simp
        omega
    · obtain ⟨u, rfl⟩ : ∃ u : Nat, n = (u : Int) := ⟨n.toNat, by omega⟩
      rw [if_neg hn, Lib.itoa_nonneg]
      rfl

theorem its_size (n : Int) (h : -9223372036854775808 ≤ n ∧ n ≤ 9223372036854775807) : (its n).size ≤ 21 := by
  have := Lib.itoa_length_le n h.1 h.2
  show (Lib.itoa n).toArray.size ≤ 21
  simpa using this

theorem l23Join_step (k : Nat) (l : List Int) (x3 : ByteArray) (i : Nat) (x : Int) (hi : i < l.length) (hl : l.length ≤ 100) (hx : rd l (i : Int) = x) (hr : -9223372036854775808 ≤ x ∧ x ≤ 9223372036854775807) (hk : 21 ≤ k) (hk2 : k ≤ 90) (hs : x3.size ≤ 22 * i) :
    spec_l23Join.l0 (k + 1) l x3 (i : Int) = spec_l23Join.l0 k l (if i = 0 then x3 ++ its x else (x3 ++ ⟨#[32]⟩) ++ its x) ((i + 1 : Nat) : Int) := by
  obtain ⟨k', rfl⟩ : ∃ k', k = k' + 1 := ⟨k - 1, by omega⟩
  have hz := its_size x hr
  have hd := l01Dec_f x hr.1 hr.2 (k := k') (by omega) (by omega)
  have hw : wrap64 ((i : Int) + 1) = ((i + 1 : Nat) : Int) := by unfold wrap64; omega
  conv => lhs; unfold spec_l23Join.l0
  rw [if_pos (by omega : (i : Int) < (l.length : Int))]
  by_cases h0 : i = 0
  · rw [if_neg (by omega : ¬ (i : Int) > 0), if_pos (by omega : 0 ≤ (i : Int)), hx, hd, Option.bind_some, if_pos (by omega), hw, if_pos h0]
  · rw [if_pos (by omega : (i : Int) > 0), if_pos (by omega : x3.size + 1 ≤ 9223372036854775807), if_pos (by omega : 0 ≤ (i : Int)), hx, hd, Option.bind_some, if_pos, hw, if_neg h0]
    rw [ByteArray.size_append]
    show x3.size + 1 + (its x).size ≤ _
    omega

theorem l23Join_end (k : Nat) (l : List Int) (x3 : ByteArray) : spec_l23Join.l0 (k + 1) l x3 (l.length : Int) = some x3 := by
  unfold spec_l23Join.l0
  rw [if_neg (by omega)]

theorem l23Join_f (a0 : Int) (a1 : Int) (a2 : Int) (a3 : Int) (a4 : Int) (a5 : Int) (a6 : Int) (ha0 : -9223372036854775808 ≤ a0 ∧ a0 ≤ 9223372036854775807) (ha1 : -9223372036854775808 ≤ a1 ∧ a1 ≤ 9223372036854775807) (ha2 : -9223372036854775808 ≤ a2 ∧ a2 ≤ 9223372036854775807) (ha3 : -9223372036854775808 ≤ a3 ∧ a3 ≤ 9223372036854775807) (ha4 : -9223372036854775808 ≤ a4 ∧ a4 ≤ 9223372036854775807) (ha5 : -9223372036854775808 ≤ a5 ∧ a5 ≤ 9223372036854775807) (ha6 : -9223372036854775808 ≤ a6 ∧ a6 ≤ 9223372036854775807) : spec_l23Join.f 40 [a0, a1, a2, a3, a4, a5, a6] = some ⟨(Lib.join (([a0, a1, a2, a3, a4, a5, a6] : List Int).map Lib.itoa) [32]).toArray⟩ := by
  unfold spec_l23Join.f
  have z : ∀ n m : Int, (-9223372036854775808 ≤ m ∧ m ≤ 9223372036854775807) → (its m).size ≤ 21 := fun _ m h => its_size m h
  have hsp : (⟨#[32]⟩ : ByteArray).size = 1 := rfl
  have z0 := its_size a0 ha0
  have z1 := its_size a1 ha1
  have z2 := its_size a2 ha2
  have z3 := its_size a3 ha3
  have z4 := its_size a4 ha4
  have z5 := its_size a5 ha5
  have z6 := its_size a6 ha6
  have s0 := l23Join_step 39 [a0, a1, a2, a3, a4, a5, a6] (⟨#[]⟩) 0 a0 (by simp) (by simp) rfl ha0 (by decide) (by decide) (by exact Nat.le_refl 0)
  rw [if_pos rfl] at s0
  have s1 := l23Join_step 38 [a0, a1, a2, a3, a4, a5, a6] ((⟨#[]⟩) ++ its a0) 1 a1 (by simp) (by simp) rfl ha1 (by decide) (by decide) (by simp only [ByteArray.size_append, hsp, ByteArray.size_empty, show (⟨#[]⟩ : ByteArray).size = 0 from rfl]; omega)
  rw [if_neg (by decide)] at s1
  have s2 := l23Join_step 37 [a0, a1, a2, a3, a4, a5, a6] ((((⟨#[]⟩) ++ its a0) ++ ⟨#[32]⟩) ++ its a1) 2 a2 (by simp) (by simp) rfl ha2 (by decide) (by decide) (by simp only [ByteArray.size_append, hsp, ByteArray.size_empty, show (⟨#[]⟩ : ByteArray).size = 0 from rfl]; omega)
  rw [if_neg (by decide)] at s2
  have s3 := l23Join_step 36 [a0, a1, a2, a3, a4, a5, a6] ((((((⟨#[]⟩) ++ its a0) ++ ⟨#[32]⟩) ++ its a1) ++ ⟨#[32]⟩) ++ its a2) 3 a3 (by simp) (by simp) rfl ha3 (by decide) (by decide) (by simp only [ByteArray.size_append, hsp, ByteArray.size_empty, show (⟨#[]⟩ : ByteArray).size = 0 from rfl]; omega)
  rw [if_neg (by decide)] at s3
  have s4 := l23Join_step 35 [a0, a1, a2, a3, a4, a5, a6] ((((((((⟨#[]⟩) ++ its a0) ++ ⟨#[32]⟩) ++ its a1) ++ ⟨#[32]⟩) ++ its a2) ++ ⟨#[32]⟩) ++ its a3) 4 a4 (by simp) (by simp) rfl ha4 (by decide) (by decide) (by simp only [ByteArray.size_append, hsp, ByteArray.size_empty, show (⟨#[]⟩ : ByteArray).size = 0 from rfl]; omega)
  rw [if_neg (by decide)] at s4
  have s5 := l23Join_step 34 [a0, a1, a2, a3, a4, a5, a6] ((((((((((⟨#[]⟩) ++ its a0) ++ ⟨#[32]⟩) ++ its a1) ++ ⟨#[32]⟩) ++ its a2) ++ ⟨#[32]⟩) ++ its a3) ++ ⟨#[32]⟩) ++ its a4) 5 a5 (by simp) (by simp) rfl ha5 (by decide) (by decide) (by simp only [ByteArray.size_append, hsp, ByteArray.size_empty, show (⟨#[]⟩ : ByteArray).size = 0 from rfl]; omega)
  rw [if_neg (by decide)] at s5
  have s6 := l23Join_step 33 [a0, a1, a2, a3, a4, a5, a6] ((((((((((((⟨#[]⟩) ++ its a0) ++ ⟨#[32]⟩) ++ its a1) ++ ⟨#[32]⟩) ++ its a2) ++ ⟨#[32]⟩) ++ its a3) ++ ⟨#[32]⟩) ++ its a4) ++ ⟨#[32]⟩) ++ its a5) 6 a6 (by simp) (by simp) rfl ha6 (by decide) (by decide) (by simp only [ByteArray.size_append, hsp, ByteArray.size_empty, show (⟨#[]⟩ : ByteArray).size = 0 from rfl]; omega)
  rw [if_neg (by decide)] at s6
  have e := l23Join_end 32 [a0, a1, a2, a3, a4, a5, a6] ((((((((((((((⟨#[]⟩) ++ its a0) ++ ⟨#[32]⟩) ++ its a1) ++ ⟨#[32]⟩) ++ its a2) ++ ⟨#[32]⟩) ++ its a3) ++ ⟨#[32]⟩) ++ its a4) ++ ⟨#[32]⟩) ++ its a5) ++ ⟨#[32]⟩) ++ its a6)
  refine (s0.trans (s1.trans (s2.trans (s3.trans (s4.trans (s5.trans (s6.trans e))))))).trans ?_
  congr 1
  refine ByteArray.ext ?_
  simp [its, Lib.join, List.intercalate, List.intersperse]



def mkS (a0 : Int) (a1 : Int) (a2 : Int) (a3 : Int) (a4 : Int) (a5 : Int) (a6 : Int) : Abs.Sf := ⟨Abs.w64 a0, Abs.w64 a1, Abs.w64 a2, Abs.w64 a3, Abs.w64 a4, Abs.w64 a5, Abs.w64 a6⟩

theorem w64_in {a : Int} (h : -9223372036854775808 ≤ a ∧ a ≤ 9223372036854775807) : (Abs.w64 a).val = a := by
  rw [Abs.w64_val]
  omega

theorem shC_mk (a0 : Int) (a1 : Int) (a2 : Int) (a3 : Int) (a4 : Int) (a5 : Int) (a6 : Int) (ha0 : -9223372036854775808 ≤ a0 ∧ a0 ≤ 9223372036854775807) (ha1 : -9223372036854775808 ≤ a1 ∧ a1 ≤ 9223372036854775807) (ha2 : -9223372036854775808 ≤ a2 ∧ a2 ≤ 9223372036854775807) (ha3 : -9223372036854775808 ≤ a3 ∧ a3 ≤ 9223372036854775807) (ha4 : -9223372036854775808 ≤ a4 ∧ a4 ≤ 9223372036854775807) (ha5 : -9223372036854775808 ≤ a5 ∧ a5 ≤ 9223372036854775807) (ha6 : -9223372036854775808 ≤ a6 ∧ a6 ≤ 9223372036854775807) : Abs.shC (mkS a0 a1 a2 a3 a4 a5 a6) = #[.int .i64 a0, .int .i64 a1, .int .i64 a2, .int .i64 a3, .int .i64 a4, .int .i64 a5, .int .i64 a6] := by
  unfold Abs.shC mkS
  simp only [w64_in ha0, w64_in ha1, w64_in ha2, w64_in ha3, w64_in ha4, w64_in ha5, w64_in ha6]

/-- Which shifts are valid. -/
def okV (a0 : Int) (a1 : Int) (a2 : Int) (a3 : Int) (a4 : Int) (a5 : Int) (a6 : Int) : Bool := Abs.F_spec_l23Ok__pSf (mkS a0 a1 a2 a3 a4 a5 a6)

def inB (L x : Int) : Bool := decide (-L ≤ x) && decide (x ≤ L)

theorem within_f {L x : Int} (hL : 0 ≤ L ∧ L ≤ 4611686018427387904) : impl_within.f x (wrap64 (-L)) L = some (inB L x) := by
  have hw : wrap64 (-L) = -L := by unfold wrap64; omega
  unfold impl_within.f inB
  rw [hw]
  by_cases h : x ≥ -L
  · rw [if_pos h, decide_eq_true (show -L ≤ x from h), Bool.true_and]
  · rw [if_neg h, decide_eq_false (show ¬ -L ≤ x from h), Bool.false_and]

theorem areWithin_step {L : Int} (hL : 0 ≤ L ∧ L ≤ 4611686018427387904) (k : Nat) (l : List Int) (i : Nat) (hi : i < l.length) (hl : l.length ≤ 100) :
    impl_areWithin.l0 (k + 1) L l (l.length : Int) (i : Int) = if inB L (rd l (i : Int)) = true then impl_areWithin.l0 k L l (l.length : Int) ((i + 1 : Nat) : Int) else some false := by
  have hw : wrap64 ((i : Int) + 1) = ((i + 1 : Nat) : Int) := by unfold wrap64; omega
  conv => lhs; unfold impl_areWithin.l0
  rw [if_pos (by omega : (i : Int) < (l.length : Int)), if_pos (by omega : 0 ≤ (i : Int)), if_pos (by omega : (i : Int) < (l.length : Int)), within_f hL, Option.bind_some, hw]

theorem areWithin_end {L : Int} (k : Nat) (l : List Int) : impl_areWithin.l0 (k + 1) L l (l.length : Int) (l.length : Int) = some true := by
  unfold impl_areWithin.l0
  rw [if_neg (by omega)]

theorem areWithin3 {L : Int} (hL : 0 ≤ L ∧ L ≤ 4611686018427387904) (x y z : Int) : impl_areWithin.f 10 L [x, y, z] = some (inB L x && (inB L y && inB L z)) := by
  have s0 := areWithin_step hL 9 [x, y, z] 0 (by simp) (by simp)
  have s1 := areWithin_step hL 8 [x, y, z] 1 (by simp) (by simp)
  have s2 := areWithin_step hL 7 [x, y, z] 2 (by simp) (by simp)
  have e := areWithin_end (L := L) 6 [x, y, z]
  unfold impl_areWithin.f
  refine s0.trans ?_
  rw [s1, s2, show (((2 + 1 : Nat)) : Int) = (([x, y, z] : List Int).length : Int) from rfl, e]
  show (if inB L x = true then (if inB L y = true then (if inB L z = true then some true else some false) else some false) else some false) = _
  cases inB L x <;> cases inB L y <;> cases inB L z <;> rfl

theorem areWithin1 {L : Int} (hL : 0 ≤ L ∧ L ≤ 4611686018427387904) (x : Int) : impl_areWithin.f 10 L [x] = some (inB L x) := by
  have s0 := areWithin_step hL 9 [x] 0 (by simp) (by simp)
  have e := areWithin_end (L := L) 8 [x]
  unfold impl_areWithin.f
  refine s0.trans ?_
  rw [show (((0 + 1 : Nat)) : Int) = (([x] : List Int).length : Int) from rfl, e]
  show (if inB L x = true then some true else some false) = _
  cases inB L x <;> rfl

theorem l00In_in (x : Abs.I64) (L : Int) (h : -9223372036854775808 ≤ -L ∧ -L ≤ 9223372036854775807) (h2 : -9223372036854775808 ≤ L ∧ L ≤ 9223372036854775807) (a b : Abs.I64) (ha : a.val = -L) (hb : b.val = L) : Abs.F_spec_l00In x a b = inB L x.val := by
  unfold Abs.F_spec_l00In inB
  rw [ha, hb]
  by_cases q : x.val ≥ -L
  · rw [decide_eq_true q]; rfl
  · rw [decide_eq_false q]; rfl

theorem okV_is (a0 : Int) (a1 : Int) (a2 : Int) (a3 : Int) (a4 : Int) (a5 : Int) (a6 : Int) (ha0 : -9223372036854775808 ≤ a0 ∧ a0 ≤ 9223372036854775807) (ha1 : -9223372036854775808 ≤ a1 ∧ a1 ≤ 9223372036854775807) (ha2 : -9223372036854775808 ≤ a2 ∧ a2 ≤ 9223372036854775807) (ha3 : -9223372036854775808 ≤ a3 ∧ a3 ≤ 9223372036854775807) (ha4 : -9223372036854775808 ≤ a4 ∧ a4 ≤ 9223372036854775807) (ha5 : -9223372036854775808 ≤ a5 ∧ a5 ≤ 9223372036854775807) (ha6 : -9223372036854775808 ≤ a6 ∧ a6 ≤ 9223372036854775807) : okV a0 a1 a2 a3 a4 a5 a6 = (inB 10000000 a0 && (inB 100000000 a3 && (inB 10000000 a1 && (inB 100000000 a4 && (inB 10000000 a2 && (inB 100000000 a5 && (inB 1000000 a6))))))) := by
  unfold okV Abs.F_spec_l23Ok__pSf mkS
  have e1 : ∀ x : Abs.I64, Abs.F_spec_l00In x (Abs.c64 (-10000000)) (Abs.c64 10000000) = inB 10000000 x.val := fun x => l00In_in x 10000000 (by omega) (by omega) _ _ rfl rfl
  have e2 : ∀ x : Abs.I64, Abs.F_spec_l00In x (Abs.c64 (-100000000)) (Abs.c64 100000000) = inB 100000000 x.val := fun x => l00In_in x 100000000 (by omega) (by omega) _ _ rfl rfl
  have e3 : ∀ x : Abs.I64, Abs.F_spec_l00In x (Abs.c64 (-1000000)) (Abs.c64 1000000) = inB 1000000 x.val := fun x => l00In_in x 1000000 (by omega) (by omega) _ _ rfl rfl
  simp only [Abs.bindP, e1, e2, e3, w64_in ha0, w64_in ha1, w64_in ha2, w64_in ha3, w64_in ha4, w64_in ha5, w64_in ha6]
  cases inB 10000000 a0 <;> cases inB 100000000 a3 <;> cases inB 10000000 a1 <;> cases inB 100000000 a4 <;> cases inB 10000000 a2 <;> cases inB 100000000 a5 <;> rfl

theorem valid_f (a0 : Int) (a1 : Int) (a2 : Int) (a3 : Int) (a4 : Int) (a5 : Int) (a6 : Int) (ha0 : -9223372036854775808 ≤ a0 ∧ a0 ≤ 9223372036854775807) (ha1 : -9223372036854775808 ≤ a1 ∧ a1 ≤ 9223372036854775807) (ha2 : -9223372036854775808 ≤ a2 ∧ a2 ≤ 9223372036854775807) (ha3 : -9223372036854775808 ≤ a3 ∧ a3 ≤ 9223372036854775807) (ha4 : -9223372036854775808 ≤ a4 ∧ a4 ≤ 9223372036854775807) (ha5 : -9223372036854775808 ≤ a5 ∧ a5 ≤ 9223372036854775807) (ha6 : -9223372036854775808 ≤ a6 ∧ a6 ≤ 9223372036854775807) : impl_ValidShift.f 10 a0 a1 a2 a3 a4 a5 a6 = some (okV a0 a1 a2 a3 a4 a5 a6) := by
  unfold impl_ValidShift.f
  rw [okV_is a0 a1 a2 a3 a4 a5 a6 ha0 ha1 ha2 ha3 ha4 ha5 ha6, areWithin3 (by omega), areWithin3 (by omega), areWithin1 (by omega)]
  simp only [Option.bind_some]
  cases inB 10000000 a0 <;> cases inB 100000000 a3 <;> cases inB 10000000 a1 <;> cases inB 100000000 a4 <;> cases inB 10000000 a2 <;> cases inB 100000000 a5 <;> rfl


end Go.Proofs.YtlgbjanlofomoaaDoor.PFnExactShiftText
