/- The plain law of ReadShift, the reference's side, the law's walk. -/
import Derived.Test.YtlgbjanlofomoaaDoorReadY
import Derived.Test.YtlgbjanlofomoaaDoorShiftO
namespace Go.Proofs.YtlgbjanlofomoaaDoor.PFnExactShiftText
open Go.RowKit Go.Proofs.YtlgbjanlofomoaaDoorW.PrintWords Go.Proofs.YtlgbjanlofomoaaDoorW.PrintLast Go.Proofs.YtlgbjanlofomoaaDoorW.PrintMore
set_option linter.unusedVariables false
set_option linter.unusedSimpArgs false

theorem dig_step (acc c : Nat) (hacc : (acc + 1) * 10 ≤ 1000000000000000000) (h1 : 48 ≤ c ∧ c ≤ 57) : wrap64 ((wrap64 (10 * (acc : Int))) + (((c : Int) - 48) % 256)) = ((acc * 10 + (c - 48) : Nat) : Int) := by
  have w1 : wrap64 (10 * (acc : Int)) = 10 * (acc : Int) := by unfold wrap64; omega
  have w2 : ((c : Int) - 48) % 256 = (c : Int) - 48 := by omega
  rw [w1, w2]
  unfold wrap64
  omega
theorem ix_step (i : Nat) (h : i < 1000) : wrap64 ((i : Int) + 1) = ((i + 1 : Nat) : Int) := by
  unfold wrap64
  omega
theorem acc_step (acc c n : Nat) (h1 : 48 ≤ c ∧ c ≤ 57) (ha : (acc + 1) * 10 ^ (n + 1) ≤ 1000000000000000000) : (acc * 10 + (c - 48) + 1) * 10 ^ n ≤ 1000000000000000000 := by
  refine Nat.le_trans ?_ ha
  rw [Nat.pow_succ, Nat.mul_comm (10 ^ n) 10, ← Nat.mul_assoc]
  exact Nat.mul_le_mul_right _ (by omega)
theorem small_acc (acc n : Nat) (ha : (acc + 1) * 10 ^ (n + 1) ≤ 1000000000000000000) : (acc + 1) * 10 ≤ 1000000000000000000 :=
  Nat.le_trans (Nat.mul_le_mul_left _ (by rw [Nat.pow_succ]; exact Nat.le_mul_of_pos_left 10 (Nat.pow_pos (by decide)))) ha
theorem no_big (acc : Nat) (hacc : (acc + 1) * 10 ≤ 1000000000000000000) : ¬ 1844674407370955162 ≤ acc := fun h => by omega
theorem no_over (acc c : Nat) (hacc : (acc + 1) * 10 ≤ 1000000000000000000) (h1 : 48 ≤ c ∧ c ≤ 57) : ¬ 18446744073709551615 < acc * 10 + (c - 48) := fun h => by omega
theorem digit_yes (c : Nat) (h : 48 ≤ c ∧ c ≤ 57) : spec_l01Digit.f (c : Int) = some true := by
  unfold spec_l01Digit.f
  rw [if_pos (by omega), decide_eq_true (by omega)]
theorem digit_no (c : Nat) (h : ¬ (48 ≤ c ∧ c ≤ 57)) : spec_l01Digit.f (c : Int) = some false := by
  unfold spec_l01Digit.f
  by_cases h2 : (c : Int) ≥ 48
  · rw [if_pos h2, decide_eq_false (by omega)]
  · rw [if_neg h2]

/-- What the reference makes of a word's digits. -/
def finN (x0 x4 : ByteArray) (u : Nat) : Int × Bool :=
  if (its (if (x4.size : Int) < (x0.size : Int) then -(u : Int) else (u : Int))).toList = x0.toList then (if (x4.size : Int) < (x0.size : Int) then -(u : Int) else (u : Int), true) else (0, false)

theorem number_loop (x0 x4 : ByteArray) : ∀ (n k acc i : Nat), i + n = x4.size → x4.size ≤ 1000 → n + 22 ≤ k → k ≤ 80 → (acc + 1) * 10 ^ n ≤ 1000000000000000000 →
    spec_l01Number.l0 (k + 1) x0 x4 (acc : Int) (i : Int) = match Lib.parseUintM 18446744073709551615 acc (x4.data.toList.drop i) with
      | .ok u => some (finN x0 x4 u)
      | _ => some (0, false)
  | 0, k, acc, i, hi, hs, hk, hk2, ha => by
    have hd : x4.data.toList.drop i = [] := List.drop_eq_nil_of_le (by have : x4.data.toList.length = x4.size := rfl; omega)
    rw [hd]
    unfold Lib.parseUintM spec_l01Number.l0 finN
    rw [if_neg (by omega : ¬ (i : Int) < (x4.size : Int))]
    simp only [Nat.pow_zero, Nat.mul_one] at ha
    obtain ⟨k', rfl⟩ : ∃ k', k = k' + 1 := ⟨k - 1, by omega⟩
    by_cases h : (x4.size : Int) < (x0.size : Int)
    · have hw : wrap64 (-(acc : Int)) = -(acc : Int) := by unfold wrap64; omega
      rw [if_pos h, hw, l01Dec_f _ (by omega) (by omega) (by omega) (by omega)]
      simp only [Option.bind_some, if_pos h]
      split <;> rfl
    · rw [if_neg h, l01Dec_f _ (by omega) (by omega) (by omega) (by omega)]
      simp only [Option.bind_some, if_neg h]
      split <;> rfl
  | n + 1, k, acc, i, hi, hs, hk, hk2, ha => by
    have hlt : i < x4.data.toList.length := by have : x4.data.toList.length = x4.size := rfl; omega
    rw [List.drop_eq_getElem_cons hlt]
    have hbt : bt x4 (i : Int) = ((x4.data.toList[i]).toNat : Int) := by
      unfold bt
      rw [dif_pos (by show i < x4.size; omega)]
      rfl
    generalize x4.data.toList[i] = c at *
    have hc := c.toNat_lt
    have hacc := small_acc acc n ha
    have hsz : x4.data.toList.length = x4.size := rfl
    have hi1 : (i : Int) < (x4.size : Int) := by clear ha hacc; omega
    have hi2 : 0 ≤ (i : Int) := Int.natCast_nonneg i
    have hi3 : i < 1000 := by clear ha hacc; omega
    have hi4 : i + 1 + n = x4.size := by clear ha hacc; omega
    obtain ⟨k', rfl⟩ : ∃ k', k = k' + 1 := ⟨k - 1, by clear ha hacc; omega⟩
    have hk3 : n + 22 ≤ k' := by clear ha hacc; omega
    have hk4 : k' ≤ 80 := by clear ha hacc; omega
    conv => lhs; unfold spec_l01Number.l0
    rw [if_pos hi1, if_pos hi2, hbt]
    by_cases h1 : 48 ≤ c.toNat ∧ c.toNat ≤ 57
    · have nx := number_loop x0 x4 n k' (acc * 10 + (c.toNat - 48)) (i + 1) hi4 hs hk3 hk4 (acc_step acc c.toNat n h1 ha)
      rw [digit_yes c.toNat h1, Option.bind_some, if_pos rfl, dig_step acc c.toNat hacc h1, ix_step i hi3, nx, Lib.parseUintM, if_pos h1, if_neg (no_big acc hacc), if_neg (no_over acc c.toNat hacc h1)]
    · rw [digit_no c.toNat h1, Option.bind_some, if_neg (by decide), Lib.parseUintM, if_neg h1]

/-- What the reference makes of a word behind its sign. -/
def midN (x0 x4 : ByteArray) : Int × Bool :=
  if 1 ≤ x4.size ∧ x4.size ≤ 18 then (match Lib.parseUintM 18446744073709551615 0 x4.data.toList with
    | .ok u => finN x0 x4 u
    | _ => (0, false)) else (0, false)

theorem pow_18 {n : Nat} (h : n ≤ 18) : (0 + 1) * 10 ^ n ≤ 1000000000000000000 := by
  rw [Nat.zero_add, Nat.one_mul]
  exact Nat.pow_le_pow_right (by decide) h

theorem number_j1 (x0 x4 : ByteArray) (k : Nat) (hk : 45 ≤ k) (hk2 : k ≤ 70) : spec_l01Number.j1 (k + 3) x0 x4 = some (midN x0 x4) := by
  have j1 : spec_l01Number.j1 (k + 3) x0 x4 = if (x4.size : Int) < 1 then (spec_l01Number.j2 (k + 2) x0 x4 true) else (spec_l01Number.j2 (k + 2) x0 x4 (decide ((x4.size : Int) > 18))) := by
    show spec_l01Number.j1 ((k + 2) + 1) x0 x4 = _
    rw [spec_l01Number.j1]
  have j2 : ∀ b : Bool, spec_l01Number.j2 (k + 2) x0 x4 b = if b = true then (some (0, false)) else (spec_l01Number.l0 (k + 1) x0 x4 0 0) := fun b => by
    show spec_l01Number.j2 ((k + 1) + 1) x0 x4 b = _
    rw [spec_l01Number.j2]
  rw [j1]
  unfold midN
  by_cases h1 : (x4.size : Int) < 1
  · rw [if_pos h1, if_neg (by omega)]
    rw [j2, if_pos rfl]
  · rw [if_neg h1]
    rw [j2]
    by_cases h2 : (x4.size : Int) > 18
    · rw [decide_eq_true h2, if_pos rfl, if_neg (by omega)]
    · have nx := number_loop x0 x4 x4.size k 0 0 (by omega) (by omega) (by omega) (by omega) (pow_18 (by omega))
      rw [List.drop_zero] at nx
      rw [decide_eq_false h2, if_neg (by decide), if_pos (by omega)]
      refine nx.trans ?_
      split <;> rfl

end Go.Proofs.YtlgbjanlofomoaaDoor.PFnExactShiftText

namespace Go.Proofs.YtlgbjanlofomoaaDoor.PFnExactShiftText
open Go.RowKit Go.Proofs.YtlgbjanlofomoaaDoorW.PrintWords Go.Proofs.YtlgbjanlofomoaaDoorW.PrintLast Go.Proofs.YtlgbjanlofomoaaDoorW.PrintMore
set_option linter.unusedVariables false
set_option linter.unusedSimpArgs false

theorem index_at (c : UInt8) : ∀ (p q : List UInt8), (∀ b ∈ p, b ≠ c) → Lib.index (p ++ c :: q) [c] = p.length
  | [], q, _ => by simp [Lib.index, List.isPrefixOf]
  | b :: p, q, h => by
    have ih := index_at c p q (fun x hx => h x (List.mem_cons_of_mem _ hx))
    have hb : ([c] : List UInt8).isPrefixOf (b :: (p ++ c :: q)) = false := by simp [List.isPrefixOf, Ne.symm (h b (List.mem_cons_self))]
    rw [List.cons_append, Lib.index, hb, ih]
    have : ((p.length : Int) == -1) = false := by rw [beq_eq_false_iff_ne]; omega
    simp [this]
theorem index_no (c : UInt8) : ∀ (p : List UInt8), (∀ b ∈ p, b ≠ c) → Lib.index p [c] = -1
  | [], _ => by simp [Lib.index]
  | b :: p, h => by
    have ih := index_no c p (fun x hx => h x (List.mem_cons_of_mem _ hx))
    have hb : ([c] : List UInt8).isPrefixOf (b :: p) = false := by simp [List.isPrefixOf, Ne.symm (h b (List.mem_cons_self))]
    rw [Lib.index, hb, ih]
    rfl
theorem split_at (c : UInt8) (p q : List UInt8) (h : ∀ b ∈ p, b ≠ c) : Lib.split (p ++ c :: q) [c] = p :: Lib.split q [c] := by
  have hi := index_at c p q h
  unfold Lib.split
  rw [Lib.count_hit (by simp) hi, Nat.add_comm, Lib.splitK, hi, if_neg (by rw [beq_iff_eq]; omega)]
  simp only [Int.toNat_natCast, Nat.add_zero, List.take_left, List.length_cons, List.length_nil]
  congr 2
  · rw [List.drop_append, List.drop_of_length_le (by omega)]; simp
  · rw [List.drop_append, List.drop_of_length_le (by omega)]; simp
theorem split_no (c : UInt8) (p : List UInt8) (h : ∀ b ∈ p, b ≠ c) : Lib.split p [c] = [p] := by
  have hi := index_no c p h
  unfold Lib.split
  rw [Lib.count_miss hi, Lib.splitK]
theorem split_join (c : UInt8) : ∀ (r : List (List UInt8)) (x : List UInt8), (∀ y ∈ x :: r, ∀ b ∈ y, b ≠ c) → Lib.split (Lib.join (x :: r) [c]) [c] = x :: r
  | [], x, h => by rw [Lib.join_one, split_no c x (h x (by simp))]
  | y :: r, x, h => by
    have ih := split_join c r y (fun z hz => h z (List.mem_cons_of_mem _ hz))
    rw [Lib.join_cons] at ih ⊢
    have e : Lib.joinTail [c] (y :: r) = c :: (y ++ Lib.joinTail [c] r) := by simp [Lib.joinTail]
    rw [e, split_at c x _ (h x (by simp)), ih]
theorem first_c (c : UInt8) : ∀ l : List UInt8, (∀ b ∈ l, b ≠ c) ∨ ∃ p q, l = p ++ c :: q ∧ ∀ b ∈ p, b ≠ c
  | [] => Or.inl (by simp)
  | b :: l => by
    by_cases h : b = c
    · exact Or.inr ⟨[], l, by simp [h], by simp⟩
    · rcases first_c c l with h1 | ⟨p, q, h1, h2⟩
      · exact Or.inl (by intro x hx; rcases List.mem_cons.1 hx with rfl | hx <;> first | exact h | exact h1 x hx)
      · exact Or.inr ⟨b :: p, q, by rw [h1]; rfl, by intro x hx; rcases List.mem_cons.1 hx with rfl | hx <;> first | exact h | exact h2 x hx⟩
theorem split_cons (c : UInt8) (l : List UInt8) : ∃ x r, Lib.split l [c] = x :: r := by
  rcases first_c c l with h | ⟨p, q, rfl, h⟩
  · exact ⟨l, [], split_no c l h⟩
  · exact ⟨p, _, split_at c p q h⟩
theorem join_split (c : UInt8) : ∀ (n : Nat) (l : List UInt8), l.length ≤ n → Lib.join (Lib.split l [c]) [c] = l := by
  intro n
  induction n with
  | zero =>
    intro l hl
    rw [List.length_eq_zero_iff.1 (Nat.le_zero.1 hl), split_no c [] (by simp), Lib.join_one]
  | succ n ih =>
    intro l hl
    rcases first_c c l with h | ⟨p, q, rfl, h⟩
    · rw [split_no c l h, Lib.join_one]
    · have hq := ih q (by simp at hl; omega)
      obtain ⟨y, r, e⟩ := split_cons c q
      rw [split_at c p q h]
      rw [e] at hq ⊢
      rw [Lib.join_cons] at hq ⊢
      have e2 : Lib.joinTail [c] (y :: r) = c :: (y ++ Lib.joinTail [c] r) := by simp [Lib.joinTail]
      rw [e2, hq]
theorem dec_digits : ∀ u : Nat, ∀ b ∈ Lib.decDigits u, 48 ≤ b.toNat ∧ b.toNat ≤ 57 := by
  intro u
  induction u using Nat.strongRecOn with
  | _ u ih =>
    intro b hb
    rw [Lib.decDigits] at hb
    by_cases h : u < 10
    · rw [dif_pos h, List.mem_singleton] at hb
      rw [hb, UInt8.toNat_ofNat']
      omega
    · rw [dif_neg h] at hb
      rcases List.mem_append.1 hb with hb | hb
      · exact ih (u / 10) (by omega) b hb
      · rw [List.mem_singleton] at hb
        rw [hb, UInt8.toNat_ofNat']
        omega
theorem dec_ne (u : Nat) : ∃ c r, Lib.decDigits u = c :: r := by
  cases h : Lib.decDigits u with
  | nil =>
    rw [Lib.decDigits] at h
    split at h
    · cases h
    · exact absurd h (by simp)
  | cons c r => exact ⟨c, r, rfl⟩
theorem itoa_bytes (v : Int) : ∀ b ∈ Lib.itoa v, b.toNat = 45 ∨ 48 ≤ b.toNat ∧ b.toNat ≤ 57 := by
  intro b hb
  unfold Lib.itoa at hb
  split at hb
  · rcases List.mem_cons.1 hb with rfl | hb
    · exact Or.inl rfl
    · exact Or.inr (dec_digits _ b hb)
  · exact Or.inr (dec_digits _ b hb)
theorem itoa_blank (v : Int) : ∀ b ∈ Lib.itoa v, b ≠ 32 := by
  intro b hb e
  subst e
  have := itoa_bytes v 32 hb
  exact absurd this (by decide)
theorem uint_lt (M : Nat) : ∀ (l : List UInt8) (acc u : Nat), Lib.parseUintM M acc l = .ok u → u < (acc + 1) * 10 ^ l.length
  | [], acc, u, h => by
    simp only [Lib.parseUintM] at h
    injection h with h
    simp; omega
  | c :: r, acc, u, h => by
    simp only [Lib.parseUintM] at h
    split at h
    · split at h
      · cases h
      · split at h
        · cases h
        · next h1 _ _ =>
          have ih := uint_lt M r _ u h
          refine Nat.lt_of_lt_of_le ih ?_
          rw [List.length_cons, Nat.pow_succ, Nat.mul_comm (10 ^ r.length) 10, ← Nat.mul_assoc]
          exact Nat.mul_le_mul_right _ (by omega)
    · cases h

theorem lst (x : ByteArray) : x.toList = x.data.toList := ByteArray.toList_eq x
theorem bytes_eq {x y : ByteArray} (h : x.data.toList = y.data.toList) : x = y := by
  cases x; cases y; congr; exact Array.toList_inj.1 h
theorem len_sz (x : ByteArray) : x.data.toList.length = x.size := rfl
theorem its_d (v : Int) : (its v).data.toList = Lib.itoa v := rfl
theorem extract_d (x : ByteArray) (a b : Nat) : (x.extract a b).data.toList = (x.data.toList.take b).drop a := by
  rw [ByteArray.data_extract]; simp [Array.toList_extract, List.extract, List.drop_take]

/-- A word behind its sign. -/
theorem tr_minus {x : ByteArray} {r : List UInt8} (h : x.data.toList = 45 :: r) : (tr x).data.toList = r ∧ tr x = x.extract 1 x.size := by
  have hs : x.size = r.length + 1 := by rw [← len_sz, h]; rfl
  have hp : ((⟨#[45]⟩ : ByteArray).size : Int) = 1 := rfl
  have hl : (⟨#[45]⟩ : ByteArray).toList = [45] := by rw [lst]
  have e : tr x = x.extract 1 x.size := by
    unfold tr strings_TrimPrefix.f stringslite_TrimPrefix.f stringslite_HasPrefix.f
    rw [hp, if_pos (by omega), if_pos (by omega), if_pos (by omega), hl, lst, extract_d, h]
    simp only [Option.bind_some]
    rw [if_pos (by rfl), if_pos (by omega), if_pos (by omega)]
    rfl
  refine ⟨?_, e⟩
  rw [e, extract_d, h, hs]
  simp
theorem tr_plain {x : ByteArray} {c : UInt8} {r : List UInt8} (h : x.data.toList = c :: r) (hc : c ≠ 45) : tr x = x := by
  have hs : x.size = r.length + 1 := by rw [← len_sz, h]; rfl
  have hp : ((⟨#[45]⟩ : ByteArray).size : Int) = 1 := rfl
  have hl : (⟨#[45]⟩ : ByteArray).toList = [45] := by rw [lst]
  unfold tr strings_TrimPrefix.f stringslite_TrimPrefix.f stringslite_HasPrefix.f
  rw [hp, if_pos (by omega), if_pos (by omega), if_pos (by omega), hl, lst, extract_d, h]
  simp only [Option.bind_some]
  rw [if_neg (by simpa using hc)]
  rfl
theorem bt_zero {x : ByteArray} {c : UInt8} {r : List UInt8} (h : x.data.toList = c :: r) : bt x 0 = (c.toNat : Int) := by
  have hs : x.size = r.length + 1 := by rw [← len_sz, h]; rfl
  unfold bt
  rw [dif_pos (by show 0 < x.size; omega)]
  show ((x.data.toList[0]'(by rw [len_sz]; omega)).toNat : Int) = _
  simp only [h, List.getElem_cons_zero]
theorem big_digits {l : List UInt8} {u : Nat} (h : Lib.parseUintM 18446744073709551615 0 l = .ok u) (hl : l.length ≤ 18) : u < 1000000000000000000 := by
  have := uint_lt _ l 0 u h
  have p := pow_18 hl
  omega
theorem uintB {l : List UInt8} (h : l ≠ []) : Lib.parseUintB 64 l = Lib.parseUintM 18446744073709551615 0 l := by
  unfold Lib.parseUintB
  rw [if_neg h]
theorem its_eq (v : Int) (x : ByteArray) : ((its v).toList = x.toList) = (Lib.itoa v = x.data.toList) := by rw [lst, lst, its_d]
theorem dec_long {x t : ByteArray} (h : (t.size : Int) > 18) : dec x t = (0, false) := by
  unfold dec
  split
  · split
    · first | rfl | rw [if_pos h]
    · rfl
  · rfl
theorem e63 : (2 : Nat) ^ (64 - 1) = 9223372036854775808 := by decide
/-- What the reference makes of a word is what the program makes of it. -/
theorem mid_dec (x : ByteArray) {c : UInt8} {r : List UInt8} (h : x.data.toList = c :: r) : midN x (tr x) = dec x (tr x) := by
  have hs : x.size = r.length + 1 := by rw [← len_sz, h]; rfl
  by_cases hc : c = 45
  · subst hc
    obtain ⟨ht, _⟩ := tr_minus h
    have hts : (tr x).size = r.length := by rw [← len_sz, ht]
    by_cases h18 : (tr x).size ≤ 18
    · unfold midN dec
      rw [h, Lib.parseIntB_minus, ht]
      by_cases hr : r = []
      · subst hr
        rw [if_neg (by rw [hts]; simp)]
        rfl
      · rw [uintB hr, if_pos ⟨by rw [hts]; exact List.length_pos_iff.2 hr, h18⟩]
        rcases hu : Lib.parseUintM 18446744073709551615 0 r with u | _ | _
        · have hb := big_digits hu (by omega)
          have c1 : ((tr x).size : Int) < (x.size : Int) := by omega
          have c2 : ¬ ((tr x).size : Int) > 18 := by omega
          have c3 : ¬ 9223372036854775808 < u := by omega
          unfold finN
          simp only [Lib.signedC, e63, if_neg c3, if_pos c1, if_neg c2]
        · rfl
        · rfl
    · rw [dec_long (by omega)]
      unfold midN
      rw [if_neg (by omega)]
  · have ht := tr_plain h hc
    rw [ht]
    by_cases h18 : x.size ≤ 18
    · unfold midN
      rw [if_pos ⟨by omega, h18⟩]
      by_cases hp : c = 43
      · subst hp
        have e1 : ∀ f : Nat → Int × Bool, (match Lib.parseUintM 18446744073709551615 0 x.data.toList with | .ok u => f u | _ => (0, false)) = (0, false) := fun f => by
          rw [h, Lib.parseUintM, if_neg (by decide)]
        refine (e1 _).trans ?_
        unfold dec
        rw [h, Lib.parseIntB_plus]
        show _ = _
        rcases hu : Lib.parseUintB 64 r with u | _ | _
        · simp only [Lib.signlessC]
          split
          · next v hv =>
            split
            · next e =>
              rw [lst x, h, lst, its_d] at e
              have := itoa_bytes v 43 (by rw [e]; simp)
              exact absurd this (by decide)
            · rfl
          · rfl
        · rfl
        · rfl
      · unfold dec
        rw [h, Lib.parseIntB_plain 64 c r (fun e => hp (UInt8.toNat_inj.1 e)) (fun e => hc (UInt8.toNat_inj.1 e)), uintB (by simp)]
        rcases hu : Lib.parseUintM 18446744073709551615 0 (c :: r) with u | _ | _
        · have hb := big_digits hu (by simp; omega)
          have c1 : ¬ (x.size : Int) < (x.size : Int) := by omega
          have c2 : ¬ (x.size : Int) > 18 := by omega
          have c3 : ¬ 9223372036854775808 ≤ u := by omega
          unfold finN
          simp only [Lib.signlessC, e63, if_neg c3, if_neg c1, if_neg c2]
        · rfl
        · rfl
    · rw [dec_long (by omega)]
      unfold midN
      rw [if_neg (by omega)]
theorem number_f (x : ByteArray) {k : Nat} (hk : 45 ≤ k) (hk2 : k ≤ 70) : spec_l01Number.f (k + 4) x = some (dec x (tr x)) := by
  unfold spec_l01Number.f
  cases h : x.data.toList with
  | nil =>
    have hs : x.size = 0 := by rw [← len_sz, h]; rfl
    rw [if_pos (by rw [lst, h])]
    rw [spec_l01Number.j0, if_neg (by decide), number_j1 x x k hk hk2]
    have e : midN x x = (0, false) := by unfold midN; rw [if_neg (by omega)]
    have e2 : dec x (tr x) = (0, false) := by unfold dec; rw [h]; rfl
    rw [e, e2]
  | cons c r =>
    have hs : x.size = r.length + 1 := by rw [← len_sz, h]; rfl
    rw [if_neg (by rw [lst, h]; simp), if_pos (by omega), bt_zero h, spec_l01Number.j0, ← mid_dec x h]
    by_cases hc : c = 45
    · subst hc
      rw [if_pos (by decide), if_pos (by omega), number_j1 x (x.extract 1 x.size) k hk hk2, (tr_minus h).2]
    · rw [if_neg (by
        rw [beq_iff_eq]
        intro e
        exact hc (UInt8.toNat_inj.1 (by have : (45 : UInt8).toNat = 45 := rfl; omega))), number_j1 x x k hk hk2, tr_plain h hc]
theorem lift_k {α : Type} {f : Nat → Option α} (hm : ∀ k, LeO (f k) (f (k + 1))) {r : α} {k : Nat} (h : f k = some r) : ∀ j, f (k + j) = some r
  | 0 => h
  | j + 1 => hm (k + j) r (lift_k hm h j)
theorem read_f (x : ByteArray) {k : Nat} (hk : 49 ≤ k) : spec_ReadDecimal.f k x = some (dec x (tr x)) := by
  have h := lift_k (f := fun k => spec_ReadDecimal.f k x) (fun k => spec_ReadDecimal.mono x k) (r := dec x (tr x)) (k := 49) (by
    show spec_ReadDecimal.f 49 x = _
    unfold spec_ReadDecimal.f
    rw [number_f x (k := 45) (by omega) (by omega)]
    rfl) (k - 49)
  rwa [show 49 + (k - 49) = k by omega] at h
end Go.Proofs.YtlgbjanlofomoaaDoor.PFnExactShiftText

namespace Go.Proofs.YtlgbjanlofomoaaDoor.PFnExactShiftText
open Go.RowKit Go.Proofs.YtlgbjanlofomoaaDoorW.PrintWords Go.Proofs.YtlgbjanlofomoaaDoorW.PrintLast Go.Proofs.YtlgbjanlofomoaaDoorW.PrintMore
set_option linter.unusedVariables false
set_option linter.unusedSimpArgs false


def bl : ByteArray := ⟨#[32]⟩
theorem words_no {t : ByteArray} (h : ∀ b ∈ t.data.toList, b ≠ 32) : words t = [t] := by
  have hi : Lib.index t.data.toList [32] = -1 := index_no 32 _ h
  show Lib.splitB bl 0 (Lib.countB t bl) t = _
  rw [Lib.countB_miss t bl hi]
  rfl
theorem words_at {t : ByteArray} {p r : List UInt8} (h : t.data.toList = p ++ 32 :: r) (hp : ∀ b ∈ p, b ≠ 32) : words t = ⟨p.toArray⟩ :: words ⟨r.toArray⟩ := by
  have hi : Lib.index t.data.toList [32] = p.length := by rw [h]; exact index_at 32 p r hp
  have hz : t.size = p.length + (r.length + 1) := by rw [← len_sz, h]; simp
  have hc := Lib.countB_hit t bl p.length (by decide) hi
  have e1 : t.extract 0 (p.length + 0) = ⟨p.toArray⟩ := bytes_eq (by
    rw [extract_d, h]
    simp)
  have e2 : t.extract (p.length + bl.size) t.size = ⟨r.toArray⟩ := bytes_eq (by
    rw [extract_d, h, hz]
    show List.drop (p.length + 1) (List.take (p.length + (r.length + 1)) (p ++ 32 :: r)) = r
    rw [List.take_of_length_le (by simp), List.drop_append, List.drop_of_length_le (by omega)]
    simp)
  rw [e2] at hc
  unfold words
  show Lib.splitB bl 0 (Lib.countB t bl) t = _
  rw [hc, Nat.add_comm, Lib.splitB_hit bl 0 _ t p.length hi, e1, e2]
  rfl
theorem words_data (s : ByteArray) : (words s).map (·.data.toList) = Lib.split s.data.toList [32] := Lib.splitB_data bl 0 _ s
theorem ix_next {i n : Nat} (h : i + 1 + n ≤ 1048576) : wrap64 ((i : Int) + 1) = ((i + 1 : Nat) : Int) := by
  unfold wrap64
  omega
theorem bt_at {s : ByteArray} {i : Nat} (h : i < s.data.toList.length) : bt s (i : Int) = ((s.data.toList[i]).toNat : Int) := by
  unfold bt
  rw [dif_pos (by show i < s.size; exact h)]
  rfl
theorem split_loop (s : ByteArray) (hs : s.size ≤ 1048576) : ∀ (n k i a : Nat) (x5 : List ByteArray), i + n = s.size → a ≤ i → x5.length ≤ i → n < k → (∀ b ∈ (s.data.toList.drop a).take (i - a), b ≠ 32) →
    spec_l01Split.l0 k s 32 x5 (a : Int) (i : Int) = some (x5 ++ words (s.extract a s.size))
  | 0, k, i, a, x5, hi, ha, hx, hk, hb => by
    obtain ⟨k', rfl⟩ : ∃ k', k = k' + 1 := ⟨k - 1, by omega⟩
    rw [spec_l01Split.l0, if_neg (by omega), if_pos (by omega), if_pos (by omega), if_pos (by omega)]
    have ht : (s.extract a s.size).data.toList = s.data.toList.drop a := by rw [extract_d, ← len_sz, List.take_length]
    rw [words_no (t := s.extract a s.size) (by
      rw [ht]
      intro b hbb
      exact hb b (by rw [List.take_of_length_le (by rw [List.length_drop, len_sz]; omega)]; exact hbb))]
    rfl
  | n + 1, k, i, a, x5, hi, ha, hx, hk, hb => by
    obtain ⟨k', rfl⟩ : ∃ k', k = k' + 1 := ⟨k - 1, by omega⟩
    have hlt : i < s.data.toList.length := by rw [len_sz]; omega
    have hw := ix_next (i := i) (n := n) (by omega)
    have ht : (s.extract a s.size).data.toList = s.data.toList.drop a := by rw [extract_d, ← len_sz, List.take_length]
    have hd : s.data.toList.drop a = (s.data.toList.drop a).take (i - a) ++ s.data.toList[i] :: s.data.toList.drop (i + 1) := by
      have e1 : (s.data.toList.drop a).drop (i - a) = s.data.toList.drop i := by rw [List.drop_drop]; congr 1; omega
      have e2 := List.take_append_drop (i - a) (s.data.toList.drop a)
      rw [e1, List.drop_eq_getElem_cons hlt] at e2
      exact e2.symm
    rw [spec_l01Split.l0, if_pos (by omega), if_pos (by omega), bt_at hlt]
    by_cases hc : s.data.toList[i] = 32
    · rw [if_pos (by rw [hc]; rfl), if_pos (by omega), if_pos (by omega), if_pos (by omega), if_pos (by omega), hw, Int.toNat_natCast, Int.toNat_natCast]
      rw [hc] at hd
      have w := words_at (t := s.extract a s.size) (ht.trans hd) hb
      have e3 : (⟨((s.data.toList.drop a).take (i - a)).toArray⟩ : ByteArray) = s.extract a i := bytes_eq (by rw [extract_d, List.take_drop, show a + (i - a) = i by omega])
      have e4 : (⟨(s.data.toList.drop (i + 1)).toArray⟩ : ByteArray) = s.extract (i + 1) s.size := bytes_eq (by rw [extract_d, ← len_sz, List.take_length])
      rw [e3, e4] at w
      have nx := split_loop s hs n k' (i + 1) (i + 1) (x5 ++ [s.extract a i]) (by omega) (by omega) (by rw [List.length_append]; simp; omega) (by omega) (by rw [Nat.sub_self]; simp)
      rw [nx, w, List.append_assoc]
      rfl
    · rw [if_neg (fun e => hc (UInt8.toNat_inj.1 (by have : (32 : UInt8).toNat = 32 := rfl; omega))), hw]
      refine split_loop s hs n k' (i + 1) a x5 (by omega) (by omega) (by omega) (by omega) ?_
      have e5 : (s.data.toList.drop a).take (i + 1 - a) = (s.data.toList.drop a).take (i - a) ++ [s.data.toList[i]] := by
        rw [show i + 1 - a = (i - a) + 1 by omega, List.take_add_one, List.getElem?_drop, show a + (i - a) = i by omega, List.getElem?_eq_getElem hlt]
        rfl
      rw [e5]
      intro b hbb
      rcases List.mem_append.1 hbb with h | h
      · exact hb b h
      · rw [List.mem_singleton] at h
        rw [h]; exact hc
theorem split_f (s : ByteArray) (hs : s.size ≤ 1048576) {k : Nat} (hk : s.size < k) : spec_l01Split.f k s 32 = some (words s) := by
  have := split_loop s hs s.size k 0 0 [] (by omega) (by omega) (by simp) hk (by simp)
  rw [List.nil_append, show s.extract 0 s.size = s from bytes_eq (by rw [extract_d, ← len_sz, List.take_length, List.drop_zero])] at this
  exact this

/-- Whether a word is a number. -/
def ok (x : ByteArray) : Bool := (dec x (tr x)).2
theorem rd_at {W : List ByteArray} {i : Nat} (h : i < W.length) : rdOf ByteArray.empty W (i : Int) = W[i] := by
  unfold rdOf
  rw [Int.toNat_natCast, List.getD_eq_getElem?_getD, List.getElem?_eq_getElem h]
  rfl
theorem read_loop (W : List ByteArray) (hW : W.length = 7) : ∀ (n k i : Nat), i + n = 7 → n + 50 ≤ k → (∀ x ∈ W.take i, ok x = true) →
    spec_l23Read.l0 k 7 W ((W.take i).map dv) (i : Int) = some (if W.all ok = true then (W.map dv, true) else ([], false))
  | 0, k, i, hi, hk, ha => by
    obtain ⟨k', rfl⟩ : ∃ k', k = k' + 1 := ⟨k - 1, by omega⟩
    have e : W.take i = W := List.take_of_length_le (by omega)
    rw [e] at ha ⊢
    rw [spec_l23Read.l0, if_neg (by omega), if_pos (List.all_eq_true.2 ha)]
  | n + 1, k, i, hi, hk, ha => by
    obtain ⟨k', rfl⟩ : ∃ k', k = k' + 1 := ⟨k - 1, by omega⟩
    have hlt : i < W.length := by omega
    have hw : wrap64 ((i : Int) + 1) = ((i + 1 : Nat) : Int) := by unfold wrap64; omega
    have et : W.take (i + 1) = W.take i ++ [W[i]] := by rw [List.take_add_one, List.getElem?_eq_getElem hlt]; rfl
    rw [spec_l23Read.l0, if_pos (by omega), if_pos (by omega), rd_at hlt, read_f _ (by omega), Option.bind_some]
    by_cases h : ok W[i] = true
    · have nx := read_loop W hW n k' (i + 1) (by omega) (by omega) (by
        rw [et]
        intro x hx
        rcases List.mem_append.1 hx with h1 | h1
        · exact ha x h1
        · rw [List.mem_singleton] at h1
          rw [h1]; exact h)
      have h' : (dec W[i] (tr W[i])).2 = true := h
      rw [if_pos h', if_pos (by omega), if_pos (by rw [List.length_map, List.length_take]; omega), hw]
      rw [et, List.map_append] at nx
      exact nx
    · have h' : ¬ (dec W[i] (tr W[i])).2 = true := h
      rw [if_neg h', if_neg (fun e => h (List.all_eq_true.1 e _ (List.getElem_mem hlt)))]
/-- What the reference reads. -/
def readW (s : ByteArray) : List Int × Bool := if (words s).length = 7 ∧ (words s).all ok = true then ((words s).map dv, true) else ([], false)
theorem l23_f (s : ByteArray) (hs : s.size ≤ 1048576) {k : Nat} (hk : s.size + 60 ≤ k) : spec_l23Read.f k s 7 = some (readW s) := by
  unfold spec_l23Read.f readW
  rw [split_f s hs (by omega), Option.bind_some]
  by_cases h : (words s).length = 7
  · have := read_loop (words s) h 7 k 0 (by omega) (by omega) (by simp)
    simp only [List.take_zero, List.map_nil] at this
    refine this.trans ?_
    by_cases e : (words s).all ok = true
    · rw [if_pos e, if_pos ⟨h, e⟩]
    · rw [if_neg e, if_neg (fun c => e c.2)]
  · rw [if_neg (fun c => h c.1)]
    obtain ⟨k', rfl⟩ : ∃ k', k = k' + 1 := ⟨k - 1, by omega⟩
    have hlen := words_length s
    have hlt : 0 < (words s).length := by omega
    have rd0 : rdOf ByteArray.empty (words s) 0 = (words s)[0] := rd_at (i := 0) hlt
    rw [spec_l23Read.l0, if_pos (by omega), if_pos (by omega), rd0, read_f _ (by omega), Option.bind_some]
    by_cases e : (dec (words s)[0] (tr (words s)[0])).2 = true
    · rw [if_pos e, if_neg (by omega)]
    · rw [if_neg e]

theorem dec_cases (x : ByteArray) : (∃ v, dec x (tr x) = (v, true) ∧ Lib.itoa v = x.data.toList ∧ -9223372036854775808 ≤ v ∧ v ≤ 9223372036854775807) ∨ dec x (tr x) = (0, false) := by
  unfold dec
  rcases hv : Lib.parseIntB 64 x.data.toList with v | _ | _
  · simp only
    by_cases e : (its v).toList = x.toList
    · rw [if_pos e]
      by_cases e2 : ((tr x).size : Int) > 18
      · rw [if_pos e2]; exact Or.inr rfl
      · rw [if_neg e2]
        rw [its_eq] at e
        exact Or.inl ⟨v, rfl, e, parse_range hv⟩
    · rw [if_neg e]; exact Or.inr rfl
  · exact Or.inr rfl
  · exact Or.inr rfl
theorem dec_ok {x : ByteArray} (h : ok x = true) : Lib.itoa (dv x) = x.data.toList ∧ -9223372036854775808 ≤ dv x ∧ dv x ≤ 9223372036854775807 := by
  unfold ok at h
  unfold dv
  rcases dec_cases x with ⟨v, e, r⟩ | e
  · rw [e]; exact r
  · rw [e] at h; cases h
theorem not_ok_zero {x : ByteArray} (h : ¬ ok x = true) : dv x = 0 := by
  unfold ok at h
  unfold dv
  rcases dec_cases x with ⟨v, e, r⟩ | e
  · rw [e] at h; exact absurd rfl h
  · rw [e]
theorem dv_range (x : ByteArray) : -9223372036854775808 ≤ dv x ∧ dv x ≤ 9223372036854775807 := by
  by_cases h : ok x = true
  · exact (dec_ok h).2
  · rw [not_ok_zero h]; decide
theorem itoa_zero : Lib.itoa 0 = [48] := by
  unfold Lib.itoa
  rw [if_neg (by decide)]
  show Lib.decDigits 0 = _
  rw [Lib.decDigits_one (by decide)]
  rfl
theorem ok_zero : ok ⟨#[48]⟩ = true := by
  have e : dec ⟨#[48]⟩ (tr ⟨#[48]⟩) = (0, true) := by
    have ht : tr ⟨#[48]⟩ = ⟨#[48]⟩ := tr_plain (c := 48) (r := []) rfl (by decide)
    have hp : Lib.parseIntB 64 (⟨#[48]⟩ : ByteArray).data.toList = .ok 0 := by decide
    have hi : (its 0).toList = (⟨#[48]⟩ : ByteArray).toList := by rw [lst, lst, its_d]; exact itoa_zero
    unfold dec
    rw [hp, ht]
    simp only
    rw [if_pos hi, if_neg (by decide)]
  unfold ok
  rw [e]
/-- The text of the numbers is the text itself exactly where all words are numbers. -/
theorem text_iff (s : ByteArray) (h7 : (words s).length = 7) : (Lib.join (((words s).map dv).map Lib.itoa) [32] = s.data.toList) ↔ (words s).all ok = true := by
  have hj := join_split 32 _ s.data.toList (Nat.le_refl _)
  rw [← words_data] at hj
  constructor
  · intro h
    have hne : ((words s).map dv).map Lib.itoa ≠ [] := by
      intro e
      have := congrArg List.length e
      simp [h7] at this
    obtain ⟨x, r, hxr⟩ : ∃ x r, ((words s).map dv).map Lib.itoa = x :: r := by
      cases e : ((words s).map dv).map Lib.itoa with
      | nil => exact absurd e hne
      | cons x r => exact ⟨x, r, rfl⟩
    have hs := split_join 32 r x (by
      rw [← hxr]
      intro y hy b hb
      obtain ⟨v, _, rfl⟩ := List.mem_map.1 hy
      exact itoa_blank v b hb)
    rw [← hxr, h, ← words_data] at hs
    refine List.all_eq_true.2 fun w hw => ?_
    refine Classical.byContradiction fun k => ?_
    have hz := not_ok_zero k
    have hmap : ∀ w ∈ words s, w.data.toList = Lib.itoa (dv w) := by
      rw [List.map_map] at hs
      exact fun w hw => (List.map_inj_left.1 hs) w hw
    have e := hmap w hw
    rw [hz] at e
    have : w = ⟨#[48]⟩ := bytes_eq (by rw [e]; exact itoa_zero)
    rw [this] at k
    exact k ok_zero
  · intro h
    have : ((words s).map dv).map Lib.itoa = (words s).map (·.data.toList) := by
      rw [List.map_map]
      exact List.map_congr_left fun w hw => (dec_ok (List.all_eq_true.1 h w hw)).1
    rw [this, hj]
end Go.Proofs.YtlgbjanlofomoaaDoor.PFnExactShiftText

namespace Go.Proofs.YtlgbjanlofomoaaDoor.PFnExactShiftText
open Go.RowKit Go.Proofs.YtlgbjanlofomoaaDoorW.PrintWords Go.Proofs.YtlgbjanlofomoaaDoorW.PrintLast Go.Proofs.YtlgbjanlofomoaaDoorW.PrintMore
open Go.Proofs.YtlgbjanlofomoaaDoor.Abs
set_option linter.unusedVariables false
set_option linter.unusedSimpArgs false


theorem w64_self (x : I64) : w64 x.val = x := IK.eq (w64_in ⟨I64.lo _, I64.hi _⟩)
/-- What l23Read hands back: a list in a block of its own (or nil), and a bool. -/
def LB (r : List I64) (ok : Bool) (u : Value) (X : List Blk) : Prop :=
  (r = [] ∧ u = .tuple #[.slice none 0 0, .bool ok] ∧ X = []) ∨ ∃ cap pad, u = .tuple #[.slice (some ⟨0, 0, none⟩) r.length cap, .bool ok] ∧ X = [(rowOf r pad, 2)] ∧ pad.all calm = true
theorem LB.fine {r : List I64} {ok : Bool} {u : Value} {X : List Blk} (h : LB r ok u X) : newOk u = true ∧ X.all (fun b => b.1.toList.all calm) = true := by
  rcases h with ⟨_, rfl, rfl⟩ | ⟨cap, pad, rfl, rfl, hp⟩
  · exact ⟨rfl, rfl⟩
  · exact ⟨rfl, by simp only [List.all_cons, List.all_nil, Bool.and_true]; exact rowOf_calm hp⟩
theorem w64_map (r : List Int) (hin : ∀ x ∈ r, -9223372036854775808 ≤ x ∧ x ≤ 9223372036854775807) : (r.map w64).map vI = r.map (Value.int .i64) := by
  rw [List.map_map]
  refine List.map_congr_left fun x hx => ?_
  show Value.int .i64 (w64 x).val = _
  rw [w64_in (hin x hx)]
theorem l23Read_R (s : ByteArray) (hs : s.size ≤ 1048576) (r : List Int) (b : Bool) (hr : readW s = (r, b)) (hin : ∀ x ∈ r, -9223372036854775808 ≤ x ∧ x ≤ 9223372036854775807) :
    FunR Tryd.prog 16 [] #[.string s, .int .i64 7] (LB (r.map w64) b) := by
  refine ⟨⟨Tryd.f16, Tryd.func16, by kernel_rfl, by kernel_rfl⟩, fun m args' w hra hH => ?_⟩
  rw [hra.eq_of_flat rfl]
  have hm : m = [] := List.length_eq_zero_iff.1 hH.len
  subst hm
  refine (spec_l23Read.calls (s.size + 60) s 7 r b w (by rw [l23_f s hs (Nat.le_refl _), hr])).mono ?_
  rintro e w' ⟨v0, rfl, hR, hb⟩
  have hk : Kept [] w w' := ⟨hb.os, hb.tape, hb.output, hb.size, fun k hk _ => hb.block k hk⟩
  obtain ⟨hl, ⟨rfl, h0⟩ | ⟨g, cap, cur, rfl, hg, hh, hn, hc, hsz, ht⟩⟩ := Kd.own_of_R (enc := Value.int .i64) hR
  · have : r = [] := List.length_eq_zero_iff.1 h0
    subst this
    exact ⟨.tuple #[.slice none 0 0, .bool b], _, [], [], rfl, VR.refl_of_flat _ rfl, RH.nil _, by simp, hk, .inl ⟨rfl, rfl, rfl⟩⟩
  · have hrow : cur.toList.take (r.map w64).length = (r.map w64).map vI := by
      rw [w64_map r hin, List.length_map]
      rw [Nat.mul_one] at ht
      exact ht
    refine ⟨.tuple #[.slice (some ⟨0, 0, none⟩) (r.map w64).length cap, .bool b], _, [g], [(rowOf (r.map w64) ((cur.toList.drop (r.map w64).length).map fun v => .iface 0 v), 2)], rfl, ?_, ⟨rfl, by simp, fun q j bb hj hbb => ?_⟩, fun j hj => ?_, hk, .inr ⟨cap, _, rfl, rfl, raws_calm _⟩⟩
    · refine .tuple _ _ rfl fun q u u' k1 k2 => ?_
      have hq : q < 2 := (Array.getElem?_eq_some_iff.1 k1).1
      have : q = 0 ∨ q = 1 := by omega
      rcases this with rfl | rfl
      · cases k1; cases k2
        rw [List.length_map]
        exact .slice 0 g 0 _ _ none rfl
      · cases k1; cases k2
        exact .pl _ rfl
    · cases q with
      | zero =>
        cases hj; cases hbb
        exact ⟨cur, by rw [frOf_lit (show 2 < 1000000 by decide)]; exact hh, RA.row hrow⟩
      | succ q => simp at hj
    · simp at hj
      subst hj
      exact hg

def zSh : Value := .agg #[.int .i64 0, .int .i64 0, .int .i64 0, .int .i64 0, .int .i64 0, .int .i64 0, .int .i64 0]
set_option maxRecDepth 100000 in
theorem readShift_no (s : ByteArray) (hs : s.size ≤ 1048576) (hr : readW s = ([], false)) : Fun Tryd.prog 8 [] #[.string s] (.tuple #[zSh, .bool false]) [] := by
  refine Fun.ofH 400 E_ok mixed Tryd.func8 (by kernel_rfl) (by kernel_rfl) ?_
  refine Run.mr (by kernel_rfl) (by kernel_rfl) (l23Read_R s hs [] false hr (by simp)) (fun u X hS => hS.fine) (by kernel_rfl) ?_
  rintro u X (⟨_, rfl, rfl⟩ | ⟨cap, pad, rfl, rfl, _⟩)
  · refine Run.z [true] ?_
    exact Run.x 0
  · refine Run.z [true] ?_
    exact Run.x 0
def cond' (b : Bool) (x : Value) : Value := cond (!b) (.tuple #[zSh, .bool false]) (.tuple #[x, .bool true])
set_option maxRecDepth 100000 in
theorem readShift_yes (s : ByteArray) (hs : s.size ≤ 1048576) (b0 : Sf) (hr : readW s = ([b0.tx.val, b0.ty.val, b0.tz.val, b0.rx.val, b0.ry.val, b0.rz.val, b0.sc.val], true)) :
    Fun Tryd.prog 8 [] #[.string s] (bindP (F_spec_l23Ok__pSf b0) fun r => cond' r (vSf b0)) [] := by
  have hin : ∀ x ∈ ([b0.tx.val, b0.ty.val, b0.tz.val, b0.rx.val, b0.ry.val, b0.rz.val, b0.sc.val] : List Int), -9223372036854775808 ≤ x ∧ x ≤ 9223372036854775807 := by
    intro x hx
    simp only [List.mem_cons, List.not_mem_nil, or_false] at hx
    rcases hx with rfl | rfl | rfl | rfl | rfl | rfl | rfl <;> exact ⟨I64.lo _, I64.hi _⟩
  have hl := l23Read_R s hs _ true hr hin
  have ew : ([b0.tx.val, b0.ty.val, b0.tz.val, b0.rx.val, b0.ry.val, b0.rz.val, b0.sc.val] : List Int).map w64 = [b0.tx, b0.ty, b0.tz, b0.rx, b0.ry, b0.rz, b0.sc] := by
    simp only [List.map_cons, List.map_nil, w64_self]
  rw [ew] at hl
  refine Fun.ofH 400 E_ok mixed Tryd.func8 (by kernel_rfl) (by unfold bindP cond'; cases F_spec_l23Ok__pSf b0 <;> rfl) ?_
  refine Run.mr (by kernel_rfl) (by kernel_rfl) hl (fun u X hS => hS.fine) (by kernel_rfl) ?_
  rintro u X (⟨h, _, _⟩ | ⟨cap, pad, rfl, rfl, _⟩)
  · cases h
  · refine Run.z [false, true, true, true, true, true, true, true] ?_
    refine Run.w (e := vB) (gv := fun v => v) [2] (ok_spec_l23Ok__pSf b0) fun r1 _ => ?_
    refine Run.y (gv := fun v => v) (fun _ => ?_) (fun _ => ?_)
    · exact Run.x 0
    · exact Run.x 0
end Go.Proofs.YtlgbjanlofomoaaDoor.PFnExactShiftText

namespace Go.Proofs.YtlgbjanlofomoaaDoor.PFnExactShiftText
open Go.RowKit Go.Proofs.YtlgbjanlofomoaaDoorW.PrintWords Go.Proofs.YtlgbjanlofomoaaDoorW.PrintLast Go.Proofs.YtlgbjanlofomoaaDoorW.PrintMore
set_option linter.unusedVariables false
set_option linter.unusedSimpArgs false

theorem seven {l : List Int} (h : l.length = 7) : ∃ a0 a1 a2 a3 a4 a5 a6, l = [a0, a1, a2, a3, a4, a5, a6] := by
  match l, h with
  | [a0, a1, a2, a3, a4, a5, a6], _ => exact ⟨a0, a1, a2, a3, a4, a5, a6, rfl⟩
/-- What both sides hand back. -/
def Both (s : ByteArray) (v : Value) : Prop := (∀ w : World, Calls Tryd.prog 8 #[.string s] w fun e w' => e = .returned v ∧ Below w.heap.size w w') ∧ ∀ w : World, Tab w → Errs w → Lens w → Calls Tryd.prog 9 #[.string s] w fun e w' => e = .returned v ∧ Below w.heap.size w w'
theorem both (s : ByteArray) (hs : s.size ≤ 1048576) : ∃ a0 a1 a2 a3 a4 a5 a6 : Int, ∃ ok : Bool, Both s (.tuple #[.agg #[.int .i64 a0, .int .i64 a1, .int .i64 a2, .int .i64 a3, .int .i64 a4, .int .i64 a5, .int .i64 a6], .bool ok]) := by
  by_cases h7 : (words s).length = 7
  · obtain ⟨a0, a1, a2, a3, a4, a5, a6, hA⟩ := seven (l := (words s).map dv) (by rw [List.length_map]; exact h7)
    have hin : ∀ x ∈ (words s).map dv, -9223372036854775808 ≤ x ∧ x ≤ 9223372036854775807 := fun x hx => by
      obtain ⟨w, _, rfl⟩ := List.mem_map.1 hx
      exact dv_range w
    rw [hA] at hin
    obtain ⟨ha0, ha1, ha2, ha3, ha4, ha5, ha6⟩ : (-9223372036854775808 ≤ a0 ∧ a0 ≤ 9223372036854775807) ∧ (-9223372036854775808 ≤ a1 ∧ a1 ≤ 9223372036854775807) ∧ (-9223372036854775808 ≤ a2 ∧ a2 ≤ 9223372036854775807) ∧ (-9223372036854775808 ≤ a3 ∧ a3 ≤ 9223372036854775807) ∧ (-9223372036854775808 ≤ a4 ∧ a4 ≤ 9223372036854775807) ∧ (-9223372036854775808 ≤ a5 ∧ a5 ≤ 9223372036854775807) ∧ (-9223372036854775808 ≤ a6 ∧ a6 ≤ 9223372036854775807) := ⟨hin a0 (by simp), hin a1 (by simp), hin a2 (by simp), hin a3 (by simp), hin a4 (by simp), hin a5 (by simp), hin a6 (by simp)⟩
    have right := fun w h1 h2 h3 => readShift_right s hs w h1 h2 h3 h7 a0 a1 a2 a3 a4 a5 a6 hA ha0 ha1 ha2 ha3 ha4 ha5 ha6
    have ti := text_iff s h7
    rw [hA] at ti
    have hz : Both s (.tuple #[zSh, .bool false]) → ∃ a0 a1 a2 a3 a4 a5 a6 : Int, ∃ ok : Bool, Both s (.tuple #[.agg #[.int .i64 a0, .int .i64 a1, .int .i64 a2, .int .i64 a3, .int .i64 a4, .int .i64 a5, .int .i64 a6], .bool ok]) := fun h => ⟨0, 0, 0, 0, 0, 0, 0, false, h⟩
    by_cases hall : (words s).all ok = true
    · have hr : readW s = ([a0, a1, a2, a3, a4, a5, a6], true) := by
        unfold readW
        rw [if_pos ⟨h7, hall⟩, hA]
      have ex : (mkS a0 a1 a2 a3 a4 a5 a6).tx.val = a0 ∧ (mkS a0 a1 a2 a3 a4 a5 a6).ty.val = a1 ∧ (mkS a0 a1 a2 a3 a4 a5 a6).tz.val = a2 ∧ (mkS a0 a1 a2 a3 a4 a5 a6).rx.val = a3 ∧ (mkS a0 a1 a2 a3 a4 a5 a6).ry.val = a4 ∧ (mkS a0 a1 a2 a3 a4 a5 a6).rz.val = a5 ∧ (mkS a0 a1 a2 a3 a4 a5 a6).sc.val = a6 := ⟨w64_in ha0, w64_in ha1, w64_in ha2, w64_in ha3, w64_in ha4, w64_in ha5, w64_in ha6⟩
      have yes := readShift_yes s hs (mkS a0 a1 a2 a3 a4 a5 a6) (by rw [ex.1, ex.2.1, ex.2.2.1, ex.2.2.2.1, ex.2.2.2.2.1, ex.2.2.2.2.2.1, ex.2.2.2.2.2.2]; exact hr)
      have hv : Abs.vSf (mkS a0 a1 a2 a3 a4 a5 a6) = .agg #[.int .i64 a0, .int .i64 a1, .int .i64 a2, .int .i64 a3, .int .i64 a4, .int .i64 a5, .int .i64 a6] := by
        show Value.agg #[.int .i64 (mkS a0 a1 a2 a3 a4 a5 a6).tx.val, .int .i64 (mkS a0 a1 a2 a3 a4 a5 a6).ty.val, .int .i64 (mkS a0 a1 a2 a3 a4 a5 a6).tz.val, .int .i64 (mkS a0 a1 a2 a3 a4 a5 a6).rx.val, .int .i64 (mkS a0 a1 a2 a3 a4 a5 a6).ry.val, .int .i64 (mkS a0 a1 a2 a3 a4 a5 a6).rz.val, .int .i64 (mkS a0 a1 a2 a3 a4 a5 a6).sc.val] = _
        rw [ex.1, ex.2.1, ex.2.2.1, ex.2.2.2.1, ex.2.2.2.2.1, ex.2.2.2.2.2.1, ex.2.2.2.2.2.2]
      rw [hv] at yes
      have ht : (⟨(Lib.join (([a0, a1, a2, a3, a4, a5, a6] : List Int).map Lib.itoa) [32]).toArray⟩ : ByteArray).toList = s.toList := by
        rw [lst, lst]
        exact ti.2 hall
      cases hk : okV a0 a1 a2 a3 a4 a5 a6 with
      | true =>
        have hk' : Abs.F_spec_l23Ok__pSf (mkS a0 a1 a2 a3 a4 a5 a6) = true := hk
        rw [hk'] at yes
        refine ⟨a0, a1, a2, a3, a4, a5, a6, true, fun w => yes.calls rfl rfl w, fun w h1 h2 h3 => ?_⟩
        have := right w h1 h2 h3
        rwa [if_pos ⟨hk, ht⟩] at this
      | false =>
        have hk' : Abs.F_spec_l23Ok__pSf (mkS a0 a1 a2 a3 a4 a5 a6) = false := hk
        rw [hk'] at yes
        refine hz ⟨fun w => yes.calls rfl rfl w, fun w h1 h2 h3 => ?_⟩
        have := right w h1 h2 h3
        rwa [if_neg (fun c => by rw [hk] at c; cases c.1)] at this
    · have hr : readW s = ([], false) := by
        unfold readW
        rw [if_neg (fun c => hall c.2)]
      refine hz ⟨fun w => (readShift_no s hs hr).calls rfl rfl w, fun w h1 h2 h3 => ?_⟩
      have := right w h1 h2 h3
      rwa [if_neg (fun c => hall (ti.1 (by have := c.2; rwa [lst, lst] at this)))] at this
  · have hr : readW s = ([], false) := by
      unfold readW
      rw [if_neg (fun c => h7 c.1)]
    exact ⟨0, 0, 0, 0, 0, 0, 0, false, fun w => (readShift_no s hs hr).calls rfl rfl w, fun w _ _ h3 => readShift_wrong s hs w h3 h7⟩


end Go.Proofs.YtlgbjanlofomoaaDoor.PFnExactShiftText

namespace Go.Proofs.YtlgbjanlofomoaaDoor.PFnExactShiftText
open Go.RowKit Go.Proofs.YtlgbjanlofomoaaDoorW.PrintWords Go.Proofs.YtlgbjanlofomoaaDoorW.PrintLast Go.Proofs.YtlgbjanlofomoaaDoorW.PrintMore
set_option linter.unusedVariables false
set_option linter.unusedSimpArgs false

set_option maxHeartbeats 8000000 in
set_option maxRecDepth 100000 in
theorem read_law (s : ByteArray) (w : World) (htab : Tab w) (he : Errs w) (hm : Lens w) :
    Calls Tryd.prog 4 #[.string s] w fun e w' => e = .returned (.bool true) ∧ Below w.heap.size w w' := by
  have hu25 := Tryd.underlying25
  have HB := Aside0.mk (Below.refl w.heap.size w)
  by_cases hs : s.size ≤ 1048576
  · obtain ⟨a0, a1, a2, a3, a4, a5, a6, ok, h8, h9⟩ := both s hs
    have H8 := Aside0.mk h8
    have H9 := Aside0.mk h9
    have HT := Aside0.mk htab
    have HE := Aside0.mk he
    have HM := Aside0.mk hm
    have HQ := Aside0.mk (show laws_eqShift.f a0 a1 a2 a3 a4 a5 a6 a0 a1 a2 a3 a4 a5 a6 = some true by unfold laws_eqShift.f; simp)
    have c1b0 : decide ((s.size : Int) > 1048576) = false := decide_eq_false (by omega)
    have c1b1 : decide (1048576 < (s.size : Int)) = false := decide_eq_false (by omega)
    have c1b2 : (1048576 < (s.size : Int)) = False := eq_false (by omega)
    have c1b3 : ((s.size : Int) ≤ 1048576) = True := eq_true (by omega)
    clear htab he hm hs h8 h9
    go_enter Tryd.func4, Tryd.ntmps4
    go_wp2_with (first | (go_at_call 8; refine (H8.out _).mono ?_; rintro e w3 ⟨rfl, hb⟩; have n0_ := Aside0.mk (below_step (by repeat (first | (with_reducible first | exact HB.out | apply below_alloc | apply pw_below_drewN | apply below_drew1) | exact HB.out)) hb); clear HB; have HB := n0_; clear n0_; clear hb) | ((with_reducible refine gate_dst (N := 3) rfl ?_); refine box_event ?hg (N := 3) ?hd (cs := #[.int .i64 0, .int .i64 0, .int .i64 0, .int .i64 0, .int .i64 0, .int .i64 0, .int .i64 0]) (t := 25) ?hr ?_; (case hd => rfl); (case hg => rfl); (case hr => first | (go_simp; done) | (go_simp; rfl)); intro gb3 hg w5 hbox hb; have n0_ := Aside0.mk (below_step (by repeat (first | (with_reducible first | exact HB.out | apply below_alloc | apply pw_below_drewN | apply below_drew1) | exact HB.out)) hb); have n1_ := Aside0.mk hbox; have n2_ := Aside0.mk ((by rw [hg]; exact (below_size (by repeat (first | (with_reducible first | exact HB.out | apply below_alloc | apply pw_below_drewN | apply below_drew1) | exact HB.out))) : w.heap.size ≤ gb3)); clear HB; have HB := n0_; have BK3 := n1_; have GE3 := n2_; clear n0_ n1_ n2_; clear hb hbox hg; have hcp_0 : w5.cell? ⟨gb3, 0, none⟩ = some (.int .i64 0) := (blk_cell BK3.out 0).trans rfl; have hcp_1 : w5.cell? ⟨gb3, 1, none⟩ = some (.int .i64 0) := (blk_cell BK3.out 1).trans rfl; have hcp_2 : w5.cell? ⟨gb3, 2, none⟩ = some (.int .i64 0) := (blk_cell BK3.out 2).trans rfl; have hcp_3 : w5.cell? ⟨gb3, 3, none⟩ = some (.int .i64 0) := (blk_cell BK3.out 3).trans rfl; have hcp_4 : w5.cell? ⟨gb3, 4, none⟩ = some (.int .i64 0) := (blk_cell BK3.out 4).trans rfl; have hcp_5 : w5.cell? ⟨gb3, 5, none⟩ = some (.int .i64 0) := (blk_cell BK3.out 5).trans rfl; have hcp_6 : w5.cell? ⟨gb3, 6, none⟩ = some (.int .i64 0) := (blk_cell BK3.out 6).trans rfl; have hfp_0 := blk_frozen BK3.out 0; have hfp_1 := blk_frozen BK3.out 1; have hfp_2 := blk_frozen BK3.out 2; have hfp_3 := blk_frozen BK3.out 3; have hfp_4 := blk_frozen BK3.out 4; have hfp_5 := blk_frozen BK3.out 5; have hfp_6 := blk_frozen BK3.out 6) | ((with_reducible refine gate_store (t := 25) (p := 3) rfl ?_); refine store_event (t := 25) (p := 3) (v := ?vo_) (w1 := (((((((w5.setCell ⟨gb3, 0, none⟩ (.int .i64 a0)).setCell ⟨gb3, 1, none⟩ (.int .i64 a1)).setCell ⟨gb3, 2, none⟩ (.int .i64 a2)).setCell ⟨gb3, 3, none⟩ (.int .i64 a3)).setCell ⟨gb3, 4, none⟩ (.int .i64 a4)).setCell ⟨gb3, 5, none⟩ (.int .i64 a5)).setCell ⟨gb3, 6, none⟩ (.int .i64 a6))) ?hg ?ho ?hn ?hr ?_; (case ho => rfl); (case hg => rfl); (case hn => rfl); (case hr => first | (go_simp; done) | (go_simp; rfl)); intro w6 hw; have m1_ := Aside0.mk (show w6.heap[gb3]? = some (.cells #[.int .i64 a0, .int .i64 a1, .int .i64 a2, .int .i64 a3, .int .i64 a4, .int .i64 a5, .int .i64 a6] 25 (0, 0)) from by rw [hw]; exact (blk_put (blk_put (blk_put (blk_put (blk_put (blk_put (blk_put BK3.out 0 _ rfl) 1 _ rfl) 2 _ rfl) 3 _ rfl) 4 _ rfl) 5 _ rfl) 6 _ rfl)); have n0_ := Aside0.mk ((by rw [hw]; exact below_set (below_set (below_set (below_set (below_set (below_set (below_set (HB.out) GE3.out) GE3.out) GE3.out) GE3.out) GE3.out) GE3.out) GE3.out : Below w.heap.size w w6)); clear HB BK3; have HB := n0_; have BK3 := m1_; clear n0_ m1_; clear hw) | (go_at_call 9; refine (H9.out _ (tab_below HT.out (by repeat (first | (with_reducible first | exact HB.out | apply below_alloc | apply pw_below_drewN | apply below_drew1 | refine below_set ?_ GE3.out) | exact HB.out))) (errs_below HE.out (by repeat (first | (with_reducible first | exact HB.out | apply below_alloc | apply pw_below_drewN | apply below_drew1 | refine below_set ?_ GE3.out) | exact HB.out))) (lens_below HM.out (by repeat (first | (with_reducible first | exact HB.out | apply below_alloc | apply pw_below_drewN | apply below_drew1 | refine below_set ?_ GE3.out) | exact HB.out)))).mono ?_; rintro e w7 ⟨rfl, hb⟩; have m0_ := Aside0.mk (blk_below (o := .cells #[.int .i64 a0, .int .i64 a1, .int .i64 a2, .int .i64 a3, .int .i64 a4, .int .i64 a5, .int .i64 a6] 25 (0, 0)) (g := gb3) (by (with_reducible repeat (first | refine blk_drewN ?_ _ | refine blk_drew ?_ | refine blk_alloc ?_ _)); exact BK3.out) hb); have n0_ := Aside0.mk (below_step (by repeat (first | (with_reducible first | exact HB.out | apply below_alloc | apply pw_below_drewN | apply below_drew1 | refine below_set ?_ GE3.out) | exact HB.out)) hb); clear HB BK3; have HB := n0_; have BK3 := m0_; clear n0_ m0_; clear hb) | ((with_reducible refine gate_dst (N := 5) rfl ?_); refine box_event ?hg (N := 5) ?hd (cs := #[.int .i64 0, .int .i64 0, .int .i64 0, .int .i64 0, .int .i64 0, .int .i64 0, .int .i64 0]) (t := 25) ?hr ?_; (case hd => rfl); (case hg => rfl); (case hr => first | (go_simp; done) | (go_simp; rfl)); intro gb5 hg w9 hbox hb; have m0_ := Aside0.mk (blk_below (o := .cells #[.int .i64 a0, .int .i64 a1, .int .i64 a2, .int .i64 a3, .int .i64 a4, .int .i64 a5, .int .i64 a6] 25 (0, 0)) (g := gb3) (by (with_reducible repeat (first | refine blk_drewN ?_ _ | refine blk_drew ?_ | refine blk_alloc ?_ _)); exact BK3.out) hb); have N35 := Aside0.mk (show gb3 ≠ gb5 from by rw [hg]; exact Nat.ne_of_lt (blk_lt BK3.out)); have n0_ := Aside0.mk (below_step (by repeat (first | (with_reducible first | exact HB.out | apply below_alloc | apply pw_below_drewN | apply below_drew1 | refine below_set ?_ GE3.out) | exact HB.out)) hb); have n1_ := Aside0.mk hbox; have n2_ := Aside0.mk ((by rw [hg]; exact (below_size (by repeat (first | (with_reducible first | exact HB.out | apply below_alloc | apply pw_below_drewN | apply below_drew1 | refine below_set ?_ GE3.out) | exact HB.out))) : w.heap.size ≤ gb5)); clear HB BK3; have HB := n0_; have BK3 := m0_; have BK5 := n1_; have GE5 := n2_; clear n0_ n1_ n2_ m0_; clear hb hbox hg; have hcq_0 : w9.cell? ⟨gb5, 0, none⟩ = some (.int .i64 0) := (blk_cell BK5.out 0).trans rfl; have hcq_1 : w9.cell? ⟨gb5, 1, none⟩ = some (.int .i64 0) := (blk_cell BK5.out 1).trans rfl; have hcq_2 : w9.cell? ⟨gb5, 2, none⟩ = some (.int .i64 0) := (blk_cell BK5.out 2).trans rfl; have hcq_3 : w9.cell? ⟨gb5, 3, none⟩ = some (.int .i64 0) := (blk_cell BK5.out 3).trans rfl; have hcq_4 : w9.cell? ⟨gb5, 4, none⟩ = some (.int .i64 0) := (blk_cell BK5.out 4).trans rfl; have hcq_5 : w9.cell? ⟨gb5, 5, none⟩ = some (.int .i64 0) := (blk_cell BK5.out 5).trans rfl; have hcq_6 : w9.cell? ⟨gb5, 6, none⟩ = some (.int .i64 0) := (blk_cell BK5.out 6).trans rfl; have hfq_0 := blk_frozen BK5.out 0; have hfq_1 := blk_frozen BK5.out 1; have hfq_2 := blk_frozen BK5.out 2; have hfq_3 := blk_frozen BK5.out 3; have hfq_4 := blk_frozen BK5.out 4; have hfq_5 := blk_frozen BK5.out 5; have hfq_6 := blk_frozen BK5.out 6) | ((with_reducible refine gate_store (t := 25) (p := 5) rfl ?_); refine store_event (t := 25) (p := 5) (v := ?vp_) (w1 := (((((((w9.setCell ⟨gb5, 0, none⟩ (.int .i64 a0)).setCell ⟨gb5, 1, none⟩ (.int .i64 a1)).setCell ⟨gb5, 2, none⟩ (.int .i64 a2)).setCell ⟨gb5, 3, none⟩ (.int .i64 a3)).setCell ⟨gb5, 4, none⟩ (.int .i64 a4)).setCell ⟨gb5, 5, none⟩ (.int .i64 a5)).setCell ⟨gb5, 6, none⟩ (.int .i64 a6))) ?hg ?ho ?hn ?hr ?_; (case ho => rfl); (case hg => rfl); (case hn => rfl); (case hr => first | (go_simp; done) | (go_simp; rfl)); intro w10 hw; have m0_ := Aside0.mk (show w10.heap[gb3]? = some (.cells #[.int .i64 a0, .int .i64 a1, .int .i64 a2, .int .i64 a3, .int .i64 a4, .int .i64 a5, .int .i64 a6] 25 (0, 0)) from by rw [hw]; exact (blk_far (blk_far (blk_far (blk_far (blk_far (blk_far (blk_far BK3.out N35.out _) N35.out _) N35.out _) N35.out _) N35.out _) N35.out _) N35.out _)); have m1_ := Aside0.mk (show w10.heap[gb5]? = some (.cells #[.int .i64 a0, .int .i64 a1, .int .i64 a2, .int .i64 a3, .int .i64 a4, .int .i64 a5, .int .i64 a6] 25 (0, 0)) from by rw [hw]; exact (blk_put (blk_put (blk_put (blk_put (blk_put (blk_put (blk_put BK5.out 0 _ rfl) 1 _ rfl) 2 _ rfl) 3 _ rfl) 4 _ rfl) 5 _ rfl) 6 _ rfl)); have n0_ := Aside0.mk ((by rw [hw]; exact below_set (below_set (below_set (below_set (below_set (below_set (below_set (HB.out) GE5.out) GE5.out) GE5.out) GE5.out) GE5.out) GE5.out) GE5.out : Below w.heap.size w w10)); clear HB BK3 BK5; have HB := n0_; have BK3 := m0_; have BK5 := m1_; clear n0_ m0_ m1_; clear hw; have hcr_0 : w10.cell? ⟨gb3, 0, none⟩ = some (.int .i64 a0) := (blk_cell BK3.out 0).trans rfl; have hcr_1 : w10.cell? ⟨gb3, 1, none⟩ = some (.int .i64 a1) := (blk_cell BK3.out 1).trans rfl; have hcr_2 : w10.cell? ⟨gb3, 2, none⟩ = some (.int .i64 a2) := (blk_cell BK3.out 2).trans rfl; have hcr_3 : w10.cell? ⟨gb3, 3, none⟩ = some (.int .i64 a3) := (blk_cell BK3.out 3).trans rfl; have hcr_4 : w10.cell? ⟨gb3, 4, none⟩ = some (.int .i64 a4) := (blk_cell BK3.out 4).trans rfl; have hcr_5 : w10.cell? ⟨gb3, 5, none⟩ = some (.int .i64 a5) := (blk_cell BK3.out 5).trans rfl; have hcr_6 : w10.cell? ⟨gb3, 6, none⟩ = some (.int .i64 a6) := (blk_cell BK3.out 6).trans rfl; have hfr_0 := blk_frozen BK3.out 0; have hfr_1 := blk_frozen BK3.out 1; have hfr_2 := blk_frozen BK3.out 2; have hfr_3 := blk_frozen BK3.out 3; have hfr_4 := blk_frozen BK3.out 4; have hfr_5 := blk_frozen BK3.out 5; have hfr_6 := blk_frozen BK3.out 6; have hcs_0 : w10.cell? ⟨gb5, 0, none⟩ = some (.int .i64 a0) := (blk_cell BK5.out 0).trans rfl; have hcs_1 : w10.cell? ⟨gb5, 1, none⟩ = some (.int .i64 a1) := (blk_cell BK5.out 1).trans rfl; have hcs_2 : w10.cell? ⟨gb5, 2, none⟩ = some (.int .i64 a2) := (blk_cell BK5.out 2).trans rfl; have hcs_3 : w10.cell? ⟨gb5, 3, none⟩ = some (.int .i64 a3) := (blk_cell BK5.out 3).trans rfl; have hcs_4 : w10.cell? ⟨gb5, 4, none⟩ = some (.int .i64 a4) := (blk_cell BK5.out 4).trans rfl; have hcs_5 : w10.cell? ⟨gb5, 5, none⟩ = some (.int .i64 a5) := (blk_cell BK5.out 5).trans rfl; have hcs_6 : w10.cell? ⟨gb5, 6, none⟩ = some (.int .i64 a6) := (blk_cell BK5.out 6).trans rfl; have hfs_0 := blk_frozen BK5.out 0; have hfs_1 := blk_frozen BK5.out 1; have hfs_2 := blk_frozen BK5.out 2; have hfs_3 := blk_frozen BK5.out 3; have hfs_4 := blk_frozen BK5.out 4; have hfs_5 := blk_frozen BK5.out 5; have hfs_6 := blk_frozen BK5.out 6) | (go_at_call 10; refine (laws_eqShift.calls a0 a1 a2 a3 a4 a5 a6 a0 a1 a2 a3 a4 a5 a6 true _ HQ.out).mono ?_; rintro e w11 ⟨rfl, hb⟩; have n0_ := Aside0.mk (below_step (by repeat (first | (with_reducible first | exact HB.out | apply below_alloc | apply pw_below_drewN | apply below_drew1 | refine below_set ?_ GE3.out | refine below_set ?_ GE5.out) | exact HB.out)) hb); clear HB; have HB := n0_; clear n0_; clear hb))
    go_ret
    exact ⟨rfl, (by repeat (first | (with_reducible first | exact HB.out | apply below_alloc | apply pw_below_drewN | apply below_drew1 | refine below_set ?_ GE3.out | refine below_set ?_ GE5.out) | exact HB.out))⟩
  · have c1b0 : decide ((s.size : Int) > 1048576) = true := decide_eq_true (by omega)
    have c1b1 : decide (1048576 < (s.size : Int)) = true := decide_eq_true (by omega)
    have c1b2 : (1048576 < (s.size : Int)) = True := eq_true (by omega)
    have c1b3 : ((s.size : Int) ≤ 1048576) = False := eq_false (by omega)
    clear htab he hm hs
    go_enter Tryd.func4, Tryd.ntmps4
    go_wp2
    go_ret
    exact ⟨rfl, (by repeat (first | (with_reducible first | exact HB.out | apply below_alloc | apply pw_below_drewN | apply below_drew1) | exact HB.out))⟩
end Go.Proofs.YtlgbjanlofomoaaDoor.PFnExactShiftText
