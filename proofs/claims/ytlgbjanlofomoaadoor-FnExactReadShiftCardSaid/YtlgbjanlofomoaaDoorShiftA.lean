/- The walk of the program's side of ShiftText. -/
import Derived.Test.YtlgbjanlofomoaaDoorShiftP
import Derived.Test.YtlgbjanlofomoaaDoorShelf
import Derived.Lib.ItoaLen
import Derived.Lib.AppendIntMem
namespace Go.Proofs.YtlgbjanlofomoaaDoor.PFnExactShiftText
open Go.RowKit Go.Proofs.YtlgbjanlofomoaaDoorW.PrintWords Go.Proofs.YtlgbjanlofomoaaDoorW.PrintLast Go.Proofs.YtlgbjanlofomoaaDoorW.PrintMore
set_option linter.unusedVariables false
set_option linter.unusedSimpArgs false

/-- The table of the powers of ten lies as start-up code laid it. -/
def Tab (w : World) : Prop := Lib.TabIs Tryd.prog w "internal/strconv.uint64pow10" .u64 Lib.pow10Tab

theorem tab_below {w w' : World} (h : Tab w) (hb : Below w.heap.size w w') : Tab w' := by
  have hg : Tryd.prog.globalNamed "internal/strconv.uint64pow10" = some (Tryd.laysM173_ren.g 17) := Tryd.laysM173.m17
  unfold Tab Lib.TabIs World.var? at h ⊢
  rw [hg] at h ⊢
  simp only [Option.bind_some] at h ⊢
  have hlt : Tryd.laysM173_ren.g 17 < w.heap.size := by
    rcases Nat.lt_or_ge (Tryd.laysM173_ren.g 17) w.heap.size with h' | h'
    · exact h'
    · rw [Array.getElem?_eq_none h'] at h; cases h
  rw [hb.block _ hlt]
  exact h

/-- A decimal numeral. -/
def its (n : Int) : ByteArray := ⟨(Lib.itoa n).toArray⟩

theorem formatInt (n : Int) (h0 : -9223372036854775808 ≤ n) (h1 : n ≤ 9223372036854775807) (w : World) (htab : Tab w) :
    Calls Tryd.prog 37 #[.int .i64 n, .int .i64 10] w fun e w' => e = .returned (.string (its n)) ∧ Below w.heap.size w w' := by
  refine (Any.strconv_FormatInt_10 Tryd.laysM173 n h0 h1 w htab).mono ?_
  rintro e w' ⟨rfl, k, os, rfl⟩
  exact ⟨rfl, Lib.below_grow _ _ (Nat.le_refl _) _ _⟩

theorem info9 : (Tryd.prog.info? 9).map (fun i => (i.zero, i.size, i.bytes)) = some (some (.string ByteArray.empty), 1, 16) := by kernel_rfl

theorem Tryd.extra156 : Builder.Extra Tryd.prog Tryd.lays156_ren := {
  sizeBuilder := by kernel_rfl
  liesBuilder := by kernel_rfl
  t5 := Tryd.underlying5
  a5 := Tryd.isAgg5
  z5 := Tryd.sizeOf5
  v5 := Tryd.zeroValue5
  infoByte := by kernel_rfl
  cellsByte := by kernel_rfl
  sizeByte := by kernel_rfl
  neB5 := by decide }

theorem decimal_calls (n : Int) (h0 : -9223372036854775808 ≤ n) (h1 : n ≤ 9223372036854775807) (w : World) (htab : Tab w) :
    Calls Tryd.prog 27 #[.int .i64 n] w fun e w' => e = .returned (.string (its n)) ∧ Below w.heap.size w w' := by
  go_enter Tryd.func27, Tryd.ntmps27
  go_wp2_with (go_at_call 37; refine (formatInt n h0 h1 _ htab).mono ?_; rintro e w' ⟨rfl, hb⟩)
  go_ret
  exact ⟨rfl, hb⟩

theorem stringsJoin (bk c : Nat) (xs : List ByteArray) (w : World) (hcells : ∀ (j : Nat) x, xs[j]? = some x → w.cell? ⟨bk, 0 + j, none⟩ = some (.string x))
    (hbk : bk < w.heap.size) (hN : xs.length ≤ 140737488355328) (hcap : xs.length ≤ c) (hlen : (Lib.join (xs.map (·.data.toList)) [32]).length ≤ 140737488355328) :
    Calls Tryd.prog 30 #[.slice (some ⟨bk, 0, none⟩) xs.length c, .string ⟨#[32]⟩] w fun e w' => e = .returned (.string ⟨(Lib.join (xs.map (·.data.toList)) [32]).toArray⟩) ∧ Below w.heap.size w w' :=
  Any.strings_Join Tryd.lays156 Tryd.extra156 bk 0 c xs ⟨#[32]⟩ w hcells hbk hN hcap hlen

/-- The row of texts in the j-th round. -/
def stateOf (l : List Int) (j : Nat) : List ByteArray := (l.take j).map its ++ List.replicate (l.length - j) ByteArray.empty

theorem stateOf_length (l : List Int) {j : Nat} (h : j ≤ l.length) : (stateOf l j).length = l.length := by
  unfold stateOf
  rw [List.length_append, List.length_map, List.length_take, List.length_replicate]
  omega

theorem stateOf_next (l : List Int) (i : Int) (h0 : 0 ≤ i) (h1 : i < (l.length : Int)) : (stateOf l i.toNat).set i.toNat (its (rd l i)) = stateOf l (i + 1).toNat := by
  obtain ⟨j, rfl⟩ := Int.eq_ofNat_of_zero_le h0
  have hj : j < l.length := by omega
  rw [show ((j : Int)).toNat = j from rfl, show ((j : Int) + 1).toNat = j + 1 by omega]
  have hr : rd l (j : Int) = l[j] := by
    unfold rd
    simp [hj]
  unfold stateOf
  rw [hr, List.set_append_right _ _ (by rw [List.length_map, List.length_take]; omega), List.take_succ_eq_append_getElem hj, List.map_append, List.length_map, List.length_take, show j - min j l.length = 0 by omega,
    show l.length - j = (l.length - (j + 1)) + 1 by omega, List.replicate_succ]
  simp

theorem its_data (l : List Int) : (l.map its).map (·.data.toList) = l.map Lib.itoa := by
  rw [List.map_map]
  exact List.map_congr_left fun n _ => by simp [its]

theorem join_len_le (Y : List (List UInt8)) (c : UInt8) : (Lib.join Y [c]).length ≤ Lib.lens Y + Y.length := by
  cases Y with
  | nil => simp [Lib.join_nil]
  | cons x r =>
    rw [Lib.join_length]
    simp
    omega

theorem join_its_short (l : List Int) (hl : l.length ≤ 100) (hin : ∀ i : Int, 0 ≤ i → i < (l.length : Int) → -9223372036854775808 ≤ rd l i ∧ rd l i ≤ 9223372036854775807) : (Lib.join ((l.map its).map (·.data.toList)) [32]).length ≤ 140737488355328 := by
  rw [its_data]
  have one : ∀ x ∈ l, (Lib.itoa x).length ≤ 21 := fun x hx => by
    obtain ⟨j, hj, rfl⟩ := List.getElem_of_mem hx
    have := hin (j : Int) (by omega) (by omega)
    have e : rd l (j : Int) = l[j] := by
      unfold rd
      simp [hj]
    rw [e] at this
    exact Lib.itoa_length_le _ this.1 this.2
  have h1 := join_len_le (l.map Lib.itoa) 32
  have h2 : ∀ l : List Int, (∀ x ∈ l, (Lib.itoa x).length ≤ 21) → Lib.lens (l.map Lib.itoa) ≤ 21 * l.length := fun l => by
    induction l with
    | nil => intro _; simp [Lib.lens]
    | cons a l ih =>
      intro h
      have q1 := ih fun x hx => h x (List.mem_cons_of_mem _ hx)
      have q2 := h a (List.mem_cons_self ..)
      simp only [List.map_cons, Lib.lens, List.length_cons] at q1 ⊢
      simp only [List.map_cons, List.sum_cons] at q1 ⊢
      omega
  have h3 := h2 l one
  rw [List.length_map] at h1
  omega

set_option maxHeartbeats 8000000 in
set_option maxRecDepth 100000 in
theorem joined_calls (A0 : Option Addr) (c0 : Nat) (l0 : List Int) (w : World) (hr0 : Kd.C (Kd.int .i64) w A0 l0.length l0) (hc0 : l0.length ≤ c0) (hl : 0 < l0.length) (hl2 : l0.length ≤ 100)
    (hin : ∀ i : Int, 0 ≤ i → i < (l0.length : Int) → -9223372036854775808 ≤ rd l0 i ∧ rd l0 i ≤ 9223372036854775807) (htab : Tab w) :
    Calls Tryd.prog 22 #[.slice A0 l0.length c0] w fun e w' => e = .returned (.string ⟨(Lib.join (l0.map Lib.itoa) [32]).toArray⟩) ∧ Below w.heap.size w w' := by
  have HR0 := Aside0.mk hr0
  have HC0 := Aside0.mk hc0
  have HT := Aside0.mk htab
  have HL := Aside0.mk hl
  have HL2 := Aside0.mk hl2
  have HI := Aside0.mk hin
  clear hr0 hc0 htab hl hl2 hin
  have HB := Aside0.mk (Below.refl w.heap.size w)
  have c2b0 : (0 ≤ (l0.length : Int)) = True := eq_true (by omega)
  have c2b1 : decide (0 ≤ (l0.length : Int)) = true := decide_eq_true (by omega)
  have c3b1 : decide (((l0.length : Int) : Int).toNat ≤ 17592186044416) = true := decide_eq_true (by have := HL2.out; omega)
  obtain ⟨y125, hy125⟩ : ∃ y_ : List ByteArray, y_ = (List.replicate ((l0.length : Int) : Int).toNat ByteArray.empty) := ⟨_, rfl⟩
  have Ny125 := Aside0.mk hy125
  clear hy125
  obtain ⟨k, hk⟩ : ∃ k, k = l0.length + 1 := ⟨_, rfl⟩
  have HK := Aside0.mk hk
  clear hk
  go_enter Tryd.func22, Tryd.ntmps22
  go_wp2_with (first | ((with_reducible refine gate_dst (N := 8) rfl ?_); refine Kd.R_make Kd.string _ 9 rfl (N := 8) rfl 40 _ _ rfl (l0.length : Int) rfl rfl Tryd.underlying40 (.string ByteArray.empty) 16 info9 rfl (by decide) (by omega) ByteArray.empty (ok := fun _ => True) (okp := fun _ => True) ?hM (fun _ hk => hk) trivial (of_decide_eq_true (by first | (with_reducible assumption) | assumption)) (Nat.le_trans (Nat.mul_le_mul_right _ (of_decide_eq_true (by first | (with_reducible assumption) | assumption) : (l0.length : Int).toNat ≤ 17592186044416)) (by omega)) (Below.refl _ _) (Nat.le_refl _) ?_; (case hM => exact rfl); intro v126 w4 ho5 hb hg_ hnew_; clear hg_ hnew_; (first | rw [← Ny125.out] at ho5 | (simp only [Int.reduceToNat] at ho5; rw [← Ny125.out] at ho5)); have n0_ := Aside0.mk (Kd.R_lower ho5 (below_size (by repeat (first | (with_reducible first | exact HB.out | apply below_alloc | apply pw_below_drewN | apply below_drew1) | exact HB.out)))); have n1_ := Aside0.mk (below_step (by repeat (first | (with_reducible first | exact HB.out | apply below_alloc | apply pw_below_drewN | apply below_drew1) | exact HB.out)) hb); clear HB; have HO127 := n0_; have HB := n1_; clear n0_ n1_; clear hb ho5))
  go_loopg [11] k (fun kq v11 w' => ∃ (x3_1 : List ByteArray) (x4_1 : Int), v11 = .int .i64 x4_1 ∧ Aside0 (0 ≤ x4_1 ∧ x4_1 ≤ (l0.length : Int) ∧ (kq : Int) + x4_1 = l0.length + 1 ∧ x3_1 = stateOf l0 x4_1.toNat) ∧ Aside0 (kq ≤ k) ∧ Aside0 (Kd.R Kd.string 9 w' w.heap.size (fun _ => True) v126 x3_1) ∧ Aside0 (Below w.heap.size w w'))
  case atStart => exact ⟨y125, 0, rfl, ⟨Int.le_refl _, by omega, by have := HK.out; omega, by rw [Ny125.out]; unfold stateOf; simp⟩, ⟨Nat.le_refl _⟩, ⟨by (with_reducible repeat (first | apply Kd.R_alloc | apply Kd.R_drewN | apply Kd.R_drew)); exact HO127.out⟩, ⟨(by repeat (first | (with_reducible first | exact HB.out | apply below_alloc | apply pw_below_drewN | apply below_drew1) | exact HB.out))⟩⟩
  case round =>
    try clear c2b0
    try clear c2b1
    try clear c3b1
    try clear p2
    obtain ⟨x3_1, x4_1, rfl, HA, HK1, HO_3, HB⟩ := hrel
    have ha0 : 0 ≤ x4_1 := HA.out.1
    have ha3 : x4_1 ≤ (l0.length : Int) := HA.out.2.1
    have ha1 : (gk : Int) + x4_1 = l0.length + 1 := HA.out.2.2.1
    have ha2 : x3_1 = stateOf l0 x4_1.toNat := HA.out.2.2.2
    clear HA
    have HA2 := Aside0.mk ha2
    by_cases c6 : x4_1 < (l0.length : Int)
    · have hlen : x3_1.length = l0.length := by rw [ha2]; exact stateOf_length _ (by omega)
      clear ha2
      have c6b0 : decide (x4_1 < (l0.length : Int)) = true := decide_eq_true c6
      have c7b0 : decide (0 ≤ x4_1) = true := decide_eq_true ha0
      have c9b0 : decide (x4_1 < (x3_1.length : Int)) = true := decide_eq_true (by omega)
      have HW := Aside0.mk (show wrap64 (x4_1 + 1) = x4_1 + 1 by have := HL2.out; unfold wrap64; omega)
      obtain ⟨k1, hk1⟩ : ∃ k1, gk = k1 + 1 := ⟨gk - 1, by omega⟩
      subst hk1
      have HX := Aside0.mk ha1
      obtain ⟨hi0, hi1⟩ := HI.out x4_1 ha0 c6
      have HI0 := Aside0.mk hi0
      have HI1 := Aside0.mk hi1
      have HA0 := Aside0.mk ha0
      have HC6 := Aside0.mk c6
      clear hi0 hi1 ha1 hlen ha0 c6 ha3
      obtain ⟨y131, hy131⟩ : ∃ y_ : List ByteArray, y_ = x3_1.set (x4_1 : Int).toNat (its (rd l0 x4_1)) := ⟨_, rfl⟩
      have Ny131 := Aside0.mk hy131
      clear hy131
      have p128 : 0 ≤ (x4_1 : Int) := of_decide_eq_true (by first | (with_reducible assumption) | assumption)
      have q128 : x4_1 < (l0.length : Int) := of_decide_eq_true (by first | (with_reducible assumption) | assumption)
      obtain ⟨ad128, e128, hx128_0⟩ := Kd.at_int HR0.out x4_1 p128 q128
      cases e128
      replace hx128_0 := (HB.out.cell (World.block_lt_of_cell? w _ hx128_0)).trans hx128_0
      replace p128 := eq_true p128
      replace q128 := eq_true q128
      go_wp2_with (first | ((with_reducible refine gate_callee (f := 27) rfl ?_); refine goesL_ (some 19) rfl rfl Tryd.func27 (by kernel_rfl) rfl #[.int .i64 (rd l0 x4_1)] rfl (by (try simp only [List.map_toArray, List.map_cons, List.map_nil]); first | done | rfl) ?_; (with_reducible refine (decimal_calls (rd l0 x4_1) HI0.out HI1.out _ (tab_below HT.out (by repeat (first | (with_reducible first | exact HB.out | apply below_alloc | apply pw_below_drewN | apply below_drew1) | exact HB.out)))).mono ?_); rintro e w11 ⟨rfl, hb⟩; refine ⟨_, rfl, ?_⟩; have n0_ := Aside0.mk (Kd.R_below (by (with_reducible repeat (first | apply Kd.R_alloc | apply Kd.R_drewN | apply Kd.R_drew)); exact HO_3.out) hb); have n1_ := Aside0.mk (below_step (by repeat (first | (with_reducible first | exact HB.out | apply below_alloc | apply pw_below_drewN | apply below_drew1) | exact HB.out)) hb); clear HO_3; clear HB; have HO_3 := n0_; have HB := n1_; clear n0_ n1_; (try clear hb); have p10 : 0 ≤ (x4_1 : Int) := of_decide_eq_true (by first | (with_reducible assumption) | assumption); have q10 : (x4_1 : Int) < ((x3_1.length : Int) : Int) := of_decide_eq_true (by first | (with_reducible assumption) | assumption); obtain ⟨go10, co10, eo10, gb10, gl10, cl10, HG10⟩ := Kd.R_form HO_3.out (by omega); (first | cases eo10 | (injection eo10 with ea_ en_ ec_; (first | subst ea_ | (injection ea_ with ea_; subst ea_)); subst ec_; clear en_)); have GB10 := Aside0.mk gb10; clear gb10 gl10 HG10; obtain ⟨hx10, hf10⟩ := Kd.R_cell ByteArray.empty HO_3.out x4_1 p10 q10; have HP12 := Kd.R_putg HO_3.out x4_1 (its (rd l0 x4_1)); replace p10 := eq_true p10; replace q10 := eq_true q10) | ((with_reducible refine gate_store (t := 9) (p := 20) rfl ?_); refine store_event (t := 9) (p := 20) (v := ?vo_w13) (w1 := (w11.setCell ⟨go10, (x4_1 : Int).toNat, none⟩ (.string (its (rd l0 x4_1))))) ?hg ?ho ?hn ?hr ?_; (case ho => rfl); (case hg => rfl); (case hn => rfl); (case hr => first | (go_simp; done) | (go_simp; rfl)); intro w13 hw; have hp_ : Kd.R Kd.string 9 w13 w.heap.size (fun _ => True) (.slice (some ⟨go10, 0, none⟩) x3_1.length co10) y131 := (by rw [hw, Ny131.out]; exact HP12.1); clear HP12; have n0_ := Aside0.mk (hp_); have n1_ := Aside0.mk ((by rw [hw]; exact below_set (HB.out) GB10.out : Below w.heap.size w w13)); clear HO_3; clear HB; have HO_3 := n0_; have HB := n1_; clear n0_ n1_; clear hw hp_))
      go_roundg k1
      case measure => have := HK1.out; omega
      case rel => exact ⟨y131, (wrap64 (x4_1 + 1)), (by first | rfl | (simp; done) | (simp [*]; done)), ⟨by rw [HW.out]; have := HA0.out; omega, by rw [HW.out]; have := HC6.out; omega, by rw [HW.out]; have := HX.out; omega, by rw [HW.out, Ny131.out, HA2.out]; exact stateOf_next l0 x4_1 HA0.out HC6.out⟩, ⟨by have := HK1.out; omega⟩, ⟨by (with_reducible repeat (first | apply Kd.R_alloc | apply Kd.R_drewN | apply Kd.R_drew)); exact HO_3.out⟩, ⟨(by repeat (first | (with_reducible first | exact HB.out | apply below_alloc | apply pw_below_drewN | apply below_drew1) | exact HB.out))⟩⟩
    · have he : x3_1 = l0.map its := by
        rw [ha2]
        unfold stateOf
        rw [List.take_of_length_le (by omega), show l0.length - x4_1.toNat = 0 by omega]
        simp
      have HE := Aside0.mk he
      clear he
      have c6b0 : decide (x4_1 < (l0.length : Int)) = false := decide_eq_false c6
      have hpos : 0 < x3_1.length := by rw [HE.out, List.length_map]; exact HL.out
      obtain ⟨go10, co10, eo10, gb10, gl10, cl10, HG10⟩ := Kd.R_form HO_3.out hpos
      subst eo10
      clear HG10 ha2 ha1 ha0 ha3 c6
      have HG := Aside0.mk gl10
      clear gl10 gb10
      have hcap : x3_1.length ≤ co10 := (Kd.R_reads' HO_3.out).2.1
      have HC := Aside0.mk hcap
      clear hcap hpos
      have HCells := Aside0.mk (show ∀ (j : Nat) x, x3_1[j]? = some x → wr.cell? ⟨go10, 0 + j, none⟩ = some (.string x) from fun j x hj => by
        obtain ⟨hlt, hx⟩ := List.getElem?_eq_some_iff.1 hj
        have := (Kd.R_cell ByteArray.empty HO_3.out (j : Int) (by omega) (by omega)).1
        rw [show ((j : Int)).toNat = j from rfl] at this
        rw [Nat.zero_add, this]
        unfold rdOf
        simp [hlt, hx])
      have HN := Aside0.mk (show x3_1.length ≤ 140737488355328 by rw [HE.out, List.length_map]; have := HL2.out; omega)
      have HS := Aside0.mk (show (Lib.join (x3_1.map (·.data.toList)) [32]).length ≤ 140737488355328 by rw [HE.out]; exact join_its_short l0 HL2.out HI.out)
      go_wp2_with (go_at_call 30; refine (stringsJoin go10 co10 x3_1 _ HCells.out HG.out HN.out HC.out HS.out).mono ?_; rintro e w9 ⟨rfl, hb⟩)
      go_ret
      refine ⟨?_, ?_⟩
      · rw [HE.out, its_data]
        rfl
      · exact below_step HB.out hb



set_option maxHeartbeats 8000000 in
set_option maxRecDepth 100000 in
theorem shiftText_calls (a0 : Int) (a1 : Int) (a2 : Int) (a3 : Int) (a4 : Int) (a5 : Int) (a6 : Int) (ha0 : -9223372036854775808 ≤ a0 ∧ a0 ≤ 9223372036854775807) (ha1 : -9223372036854775808 ≤ a1 ∧ a1 ≤ 9223372036854775807) (ha2 : -9223372036854775808 ≤ a2 ∧ a2 ≤ 9223372036854775807) (ha3 : -9223372036854775808 ≤ a3 ∧ a3 ≤ 9223372036854775807) (ha4 : -9223372036854775808 ≤ a4 ∧ a4 ≤ 9223372036854775807) (ha5 : -9223372036854775808 ≤ a5 ∧ a5 ≤ 9223372036854775807) (ha6 : -9223372036854775808 ≤ a6 ∧ a6 ≤ 9223372036854775807) (w : World) (htab : Tab w) :
    Calls Tryd.prog 15 #[.agg #[.int .i64 a0, .int .i64 a1, .int .i64 a2, .int .i64 a3, .int .i64 a4, .int .i64 a5, .int .i64 a6]] w fun e w' => e = .returned (.string ⟨(Lib.join (([a0, a1, a2, a3, a4, a5, a6] : List Int).map Lib.itoa) [32]).toArray⟩) ∧ Below w.heap.size w w' := by
  have hu25 := Tryd.underlying25
  have HT := Aside0.mk htab
  have HB := Aside0.mk (Below.refl w.heap.size w)
  obtain ⟨y, hy⟩ : ∃ y_ : List Int, y_ = ([a0, a1, a2, a3, a4, a5, a6] : List Int) := ⟨_, rfl⟩
  have HL := Aside0.mk (show 0 < y.length by rw [hy]; simp)
  have HL2 := Aside0.mk (show y.length ≤ 100 by rw [hy]; simp)
  have HI := Aside0.mk (show ∀ i : Int, 0 ≤ i → i < (y.length : Int) → -9223372036854775808 ≤ rd y i ∧ rd y i ≤ 9223372036854775807 by
    intro i h0 h1
    rw [hy] at h1 ⊢
    obtain ⟨j, rfl⟩ := Int.eq_ofNat_of_zero_le h0
    simp only [List.length_cons, List.length_nil] at h1
    have h2 : j = 0 ∨ j = 1 ∨ j = 2 ∨ j = 3 ∨ j = 4 ∨ j = 5 ∨ j = 6 := by omega
    rcases h2 with rfl | rfl | rfl | rfl | rfl | rfl | rfl
    · exact ha0
    · exact ha1
    · exact ha2
    · exact ha3
    · exact ha4
    · exact ha5
    · exact ha6)
  have Ny := Aside0.mk hy
  clear hy ha0 ha1 ha2 ha3 ha4 ha5 ha6 htab
  go_enter Tryd.func15, Tryd.ntmps15
  go_wp2_with (first | ((with_reducible refine gate_dst (N := 1) rfl ?_); refine box_event ?hg (N := 1) ?hd (cs := #[.int .i64 a0, .int .i64 a1, .int .i64 a2, .int .i64 a3, .int .i64 a4, .int .i64 a5, .int .i64 a6]) (t := 25) ?hr ?_; (case hd => rfl); (case hg => rfl); (case hr => first | (go_simp; done) | (go_simp; rfl)); intro gb hg w7 hbox hb; have n0_ := Aside0.mk (below_step (by repeat (first | (with_reducible first | exact HB.out | apply below_alloc | apply pw_below_drewN | apply below_drew1) | exact HB.out)) hb); have n1_ := Aside0.mk (hbox); have n2_ := Aside0.mk ((by rw [hg]; exact (below_size (by repeat (first | (with_reducible first | exact HB.out | apply below_alloc | apply pw_below_drewN | apply below_drew1) | exact HB.out))) : w.heap.size ≤ gb)); clear HB; have HB := n0_; have BK := n1_; have GE := n2_; clear n0_ n1_ n2_; clear hb hbox hg; have hcz_0 : w7.cell? ⟨gb, 0, none⟩ = some (.int .i64 a0) := (blk_cell BK.out 0).trans rfl; have hcz_1 : w7.cell? ⟨gb, 1, none⟩ = some (.int .i64 a1) := (blk_cell BK.out 1).trans rfl; have hcz_2 : w7.cell? ⟨gb, 2, none⟩ = some (.int .i64 a2) := (blk_cell BK.out 2).trans rfl; have hcz_3 : w7.cell? ⟨gb, 3, none⟩ = some (.int .i64 a3) := (blk_cell BK.out 3).trans rfl; have hcz_4 : w7.cell? ⟨gb, 4, none⟩ = some (.int .i64 a4) := (blk_cell BK.out 4).trans rfl; have hcz_5 : w7.cell? ⟨gb, 5, none⟩ = some (.int .i64 a5) := (blk_cell BK.out 5).trans rfl; have hcz_6 : w7.cell? ⟨gb, 6, none⟩ = some (.int .i64 a6) := (blk_cell BK.out 6).trans rfl) | ((with_reducible refine gate_dst (N := 17) rfl ?_); refine Kd.R_lit (Kd.int .i64) _ 2 ?hg (N := 17) ?hd (xs := ([a0, a1, a2, a3, a4, a5, a6] : List Int)) (inner := [.int .i64 a0, .int .i64 a1, .int .i64 a2, .int .i64 a3, .int .i64 a4, .int .i64 a5, .int .i64 a6]) (ok := fun _ => True) (okp := fun _ => True) ?hr ?hp (fun _ hk => hk) trivial (Below.refl _ _) (Nat.le_refl _) (by simp) ?_; (case hd => rfl); (case hg => rfl); (case hr => first | (go_simp; done) | (go_simp; rfl)); (case hp => exact (Reps.one (show Kd.M (Kd.int .i64) _ _ _ a0 [.int .i64 a0] from rfl) (Reps.one (show Kd.M (Kd.int .i64) _ _ _ a1 [.int .i64 a1] from rfl) (Reps.one (show Kd.M (Kd.int .i64) _ _ _ a2 [.int .i64 a2] from rfl) (Reps.one (show Kd.M (Kd.int .i64) _ _ _ a3 [.int .i64 a3] from rfl) (Reps.one (show Kd.M (Kd.int .i64) _ _ _ a4 [.int .i64 a4] from rfl) (Reps.one (show Kd.M (Kd.int .i64) _ _ _ a5 [.int .i64 a5] from rfl) (Reps.one (show Kd.M (Kd.int .i64) _ _ _ a6 [.int .i64 a6] from rfl) (Reps.none _ _))))))))); intro v1 w9 ho hb hg_ hnew_; clear hg_ hnew_; (first | rw [← Ny.out] at ho | (simp only [Int.reduceToNat] at ho; rw [← Ny.out] at ho)); have n0_ := Aside0.mk (Kd.R_lower ho (below_size (by repeat (first | (with_reducible first | exact HB.out | apply below_alloc | apply pw_below_drewN | apply below_drew1 | refine below_set ?_ GE.out) | exact HB.out)))); have n2_ := Aside0.mk (below_step (by repeat (first | (with_reducible first | exact HB.out | apply below_alloc | apply pw_below_drewN | apply below_drew1 | refine below_set ?_ GE.out) | exact HB.out)) hb); clear HB; have HO := n0_; have HB := n2_; clear n0_ n2_; clear hb ho; obtain ⟨Ao, co, eo⟩ := Kd.R_slice HO.out; subst eo) | (go_at_call 22; refine (joined_calls _ _ y _ ?side1 ?side2 HL.out HL2.out HI.out (tab_below HT.out (by repeat (first | (with_reducible first | exact HB.out | apply below_alloc | apply pw_below_drewN | apply below_drew1 | refine below_set ?_ GE.out) | exact HB.out)))).mono ?_; (case side1 => repeat (first | exact (Kd.R_reads' HO.out).2.2 | (with_reducible refine Kd.C_alloc ?_ _) | (with_reducible refine Kd.C_drewN ?_ _) | (with_reducible refine Kd.C_drew ?_))); (case side2 => exact (Kd.R_reads' HO.out).2.1); rintro e w11 ⟨rfl, hb⟩))
  go_ret
  refine ⟨?_, ?_⟩
  · rw [← Ny.out]
    rfl
  · exact below_step (by repeat (first | (with_reducible first | exact HB.out | apply below_alloc | apply pw_below_drewN | apply below_drew1 | refine below_set ?_ GE.out) | exact HB.out)) hb


end Go.Proofs.YtlgbjanlofomoaaDoor.PFnExactShiftText
