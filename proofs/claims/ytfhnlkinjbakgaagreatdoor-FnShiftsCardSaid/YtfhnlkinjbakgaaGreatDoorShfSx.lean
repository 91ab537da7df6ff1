/- The walks of Decimal, shiftText, ShiftText, ReadDecimal, ReadShift; the text of a valid shift reads back. -/
import Derived.Test.YtfhnlkinjbakgaaGreatDoorShfWo
import Derived.Ground.NamesProg
import Derived.Shelf.Strconv.Itoa4
import Derived.Shelf.Strings.OnBuilder
import Derived.Shelf.Strings.Split
import Derived.Shelf.Strconv.ParseIntPublic10
import Derived.Test.YtfhnlkinjbakgaaGreatDoorProg
import Derived.Lib.ItoaLen
import Derived.Lib.AppendIntMem
import Derived.Shelf.Strconv.ErrVarParseInt
import Derived.Lib.AtoiErrMem
import Derived.Lib.ParseIntBTie
import Derived.Lib.ParseIntBCases
namespace Go.Proofs.YtfhnlkinjbakgaaGreatDoor.PFnShifts
open Go.RowKit Go.Proofs.YtfhnlkinjbakgaaGreatDoorW.PrintWords Go.Proofs.YtfhnlkinjbakgaaGreatDoorW.PrintLast Go.Proofs.YtfhnlkinjbakgaaGreatDoorW.PrintMore
set_option linter.unusedVariables false
set_option linter.unusedSimpArgs false
attribute [local go_sem] max2_int min2_int max_two min_two max_three min_three max_four min_four
def impl_within.f (a0 : Int) (a1 : Int) (a2 : Int) : Option (Bool):=if a0 ≥ a1 then (some (decide (a0 ≤ a2))) else (some false)
set_option maxHeartbeats 8000000 in
set_option maxRecDepth 100000 in
theorem impl_within.calls (a0 : Int) (a1 : Int) (a2 : Int) (r : Bool) (w : World) (h : impl_within.f a0 a1 a2 = some r) :
    Calls Tryz.prog 92 #[.int .i64 a0,.int .i64 a1,.int .i64 a2] w fun e w'=>e = .returned (.bool r) ∧ Drawn0 w w':=by
  have H : (if a0 ≥ a1 then (some (decide (a0 ≤ a2))) else (some false)) = some r:=h
  clear h
  by_cases c4 : a0 ≥ a1
  · rw [if_pos c4] at H
    have c4b0 : decide (a1 ≤ a0) = true:=decide_eq_true c4
    clear c4
    obtain rfl:=Option.some.inj H
    go_enter Tryz.func92,Tryz.ntmps92
    go_wp2
    go_ret
    exact ⟨by first | rfl | (simp; done) | (simp [*]; done),by repeat (first | exact Drawn0.refl _ | apply Drawn0.step)⟩
  · rw [if_neg c4] at H
    have c4b0 : decide (a1 ≤ a0) = false:=decide_eq_false c4
    clear c4
    obtain rfl:=Option.some.inj H
    go_enter Tryz.func92,Tryz.ntmps92
    go_wp2
    go_ret
    exact ⟨by first | rfl | (simp; done) | (simp [*]; done),by repeat (first | exact Drawn0.refl _ | apply Drawn0.step)⟩
def impl_areWithin.l0 : Nat → Int → List Int → Int → Int → Option (Bool)
  | 0,_,_,_,_=>none
  | k + 1,x0,x7,x8,x9=>if x9 < x8 then (if 0 ≤ x9 then (if x9 < (x7.length : Int) then ((impl_within.f (rd x7 x9) (wrap64 (-x0)) x0).bind fun t791=>(if t791 = true then (impl_areWithin.l0 k x0 x7 x8 (wrap64 (x9 + 1))) else (some false))) else (none)) else (none)) else (some true)
def impl_areWithin.f (k : Nat) (a0 : Int) (l1 : List Int) : Option (Bool):=impl_areWithin.l0 k a0 l1 (l1.length : Int) 0
theorem impl_areWithin.mono_l : ∀ k,(∀ y0 y1 y2 y3,LeO (impl_areWithin.l0 k y0 y1 y2 y3) (impl_areWithin.l0 (k + 1) y0 y1 y2 y3))
  | 0=>fun _ _ _ _ r h=>by simp [impl_areWithin.l0] at h
  | k + 1=>by
    have ih0:=impl_areWithin.mono_l k
    · intro y0 y1 y2 y3
      unfold impl_areWithin.l0
      repeat' first
      | (with_reducible exact ih0 _ _ _ _)
      | (with_reducible exact LeO.refl _)
      | (with_reducible exact LeO.none _)
      | (with_reducible refine LeO.ite ?_ ?_)
      | (with_reducible refine LeO.bind ?_ (fun _=>?_))
      | exact ih0 _ _ _ _
      | exact LeO.none _
      | refine LeO.ite ?_ ?_
      | refine LeO.bind ?_ (fun _=>?_)
theorem impl_areWithin.mono : ∀ a0 a1 k,LeO (impl_areWithin.f k a0 a1) (impl_areWithin.f (k + 1) a0 a1):=by
  intro a0 a1 k
  have ih0:=impl_areWithin.mono_l k
  unfold impl_areWithin.f
  repeat' first
      | (with_reducible exact ih0 _ _ _ _)
      | (with_reducible exact LeO.refl _)
      | (with_reducible exact LeO.none _)
      | (with_reducible refine LeO.ite ?_ ?_)
      | (with_reducible refine LeO.bind ?_ (fun _=>?_))
      | exact ih0 _ _ _ _
      | exact LeO.none _
      | refine LeO.ite ?_ ?_
      | refine LeO.bind ?_ (fun _=>?_)
set_option maxHeartbeats 8000000 in
set_option maxRecDepth 100000 in
theorem impl_areWithin.calls (k : Nat) (a0 : Int) (A1 : Option Addr) (c1 : Nat) (l1 : List Int) (r : Bool) (w : World) (hr1 : Kd.C (Kd.int .i64) w A1 l1.length l1) (hc1 : l1.length ≤ c1) (h : impl_areWithin.f k a0 l1 = some r) :
    Calls Tryz.prog 54 #[.int .i64 a0,.slice A1 l1.length c1] w fun e w'=>e = .returned (.bool r) ∧ Drawn0 w w':=by
  have HR1:=Aside0.mk hr1
  have HC1:=Aside0.mk hc1
  clear hr1 hc1
  have H : (impl_areWithin.l0 k a0 l1 (l1.length : Int) 0) = some r:=h
  clear h
  have H':=Aside0.mk H
  clear H
  go_enter Tryz.func54,Tryz.ntmps54
  go_wp2
  go_loopg [9] k (fun kq v9 w'=>∃ (x9_1 : Int),v9 = .int .i64 x9_1 ∧ Aside0 (impl_areWithin.l0 kq a0 l1 (l1.length : Int) x9_1 = some r) ∧ Aside0 (kq ≤ k) ∧ Drawn0 w w')
  case atStart=>exact ⟨(0),(by first | rfl | (simp; done) | (simp [*]; done)),H',⟨Nat.le_refl _⟩,by repeat (first | exact Drawn0.refl _ | apply Drawn0.step)⟩
  case round=>
    clear H'
    try clear c1
    try clear p2
    obtain ⟨x9_1,rfl,HA,HK1,⟨m1,rfl⟩⟩:=hrel
    cases gk with
    | zero=>exact absurd HA.out (by simp [impl_areWithin.l0])
    | succ k1=>
      have H:=HA.out
      clear HA
      simp only [impl_areWithin.l0] at H
      by_cases c3 : x9_1 < (l1.length : Int)
      · rw [if_pos c3] at H
        have c3b0 : decide (x9_1 < (l1.length : Int)) = true:=decide_eq_true c3
        clear c3
        by_cases c4 : 0 ≤ x9_1
        · rw [if_pos c4] at H
          have c4b0 : decide (0 ≤ x9_1) = true:=decide_eq_true c4
          clear c4
          by_cases c5 : x9_1 < (l1.length : Int)
          · rw [if_pos c5] at H
            have c5b0 : decide (x9_1 < (l1.length : Int)) = true:=decide_eq_true c5
            clear c5
            replace H:=Option.bind_eq_some_iff.mp H
            obtain ⟨t791,A60,H⟩:=H
            replace H : (if t791 = true then (impl_areWithin.l0 k1 a0 l1 (l1.length : Int) (wrap64 (x9_1 + 1))) else (some false)) = some r:=H
            have A6:=Aside0.mk A60
            clear A60
            by_cases c7 : t791 = true
            · subst c7
              have H1 : (impl_areWithin.l0 k1 a0 l1 (l1.length : Int) (wrap64 (x9_1 + 1))) = some r:=by rw [if_pos rfl] at H; exact H
              clear H
              have H:=H1
              clear H1
              have H':=Aside0.mk H
              clear H
              have p790 : 0 ≤ (x9_1 : Int):=of_decide_eq_true (by first | (with_reducible assumption) | assumption)
              have q790 : x9_1 < (l1.length : Int):=of_decide_eq_true (by first | (with_reducible assumption) | assumption)
              obtain ⟨ad790,e790,hx790_0⟩:=Kd.at_int HR1.out x9_1 p790 q790
              cases e790
              replace p790:=eq_true p790
              replace q790:=eq_true q790
              go_wp2_with (first | ((with_reducible refine gate_callee (f:=92) rfl ?_); refine goesL_ (some 17) rfl rfl Tryz.func92 (by kernel_rfl) rfl #[.int .i64 (rd l1 x9_1),.int .i64 (wrap64 (-a0)),.int .i64 a0] rfl (by (try simp only [List.map_toArray,List.map_cons,List.map_nil]); first | done | rfl | (simp only [List.length_drop,List.length_take]; rfl)) ?_; (with_reducible refine (impl_within.calls (rd l1 x9_1) (wrap64 (-a0)) a0 true _ A6.out).mono ?_); rintro e w' ⟨rfl,⟨nd,rfl⟩⟩; refine ⟨_,rfl,?_⟩))
              go_roundg k1
              case measure=>have:=HK1.out; omega
              case rel=>exact ⟨(wrap64 (x9_1 + 1)),(by first | rfl | (simp; done) | (simp [*]; done)),H',⟨by have:=HK1.out; omega⟩,by repeat (first | exact Drawn0.refl _ | apply Drawn0.step)⟩
            · replace c7:=Bool.eq_false_iff.mpr c7
              subst c7
              have H1 : (some false) = some r:=by rw [if_neg (show ¬ (false = true) by decide)] at H; exact H
              clear H
              have H:=H1
              clear H1
              obtain rfl:=Option.some.inj H
              have p790 : 0 ≤ (x9_1 : Int):=of_decide_eq_true (by first | (with_reducible assumption) | assumption)
              have q790 : x9_1 < (l1.length : Int):=of_decide_eq_true (by first | (with_reducible assumption) | assumption)
              obtain ⟨ad790,e790,hx790_0⟩:=Kd.at_int HR1.out x9_1 p790 q790
              cases e790
              replace p790:=eq_true p790
              replace q790:=eq_true q790
              go_wp2_with (first | ((with_reducible refine gate_callee (f:=92) rfl ?_); refine goesL_ (some 17) rfl rfl Tryz.func92 (by kernel_rfl) rfl #[.int .i64 (rd l1 x9_1),.int .i64 (wrap64 (-a0)),.int .i64 a0] rfl (by (try simp only [List.map_toArray,List.map_cons,List.map_nil]); first | done | rfl | (simp only [List.length_drop,List.length_take]; rfl)) ?_; (with_reducible refine (impl_within.calls (rd l1 x9_1) (wrap64 (-a0)) a0 false _ A6.out).mono ?_); rintro e w' ⟨rfl,⟨nd,rfl⟩⟩; refine ⟨_,rfl,?_⟩))
              go_ret
              exact ⟨by first | rfl | (simp; done) | (simp [*]; done),by repeat (first | exact Drawn0.refl _ | apply Drawn0.step)⟩
          · rw [if_neg c5] at H
            exact absurd H (by simp)
        · rw [if_neg c4] at H
          exact absurd H (by simp)
      · rw [if_neg c3] at H
        have c3b0 : decide (x9_1 < (l1.length : Int)) = false:=decide_eq_false c3
        clear c3
        obtain rfl:=Option.some.inj H
        go_wp2
        go_ret
        exact ⟨by first | rfl | (simp; done) | (simp [*]; done),by repeat (first | exact Drawn0.refl _ | apply Drawn0.step)⟩
def impl_ValidShift.f (k : Nat) (a0_0 : Int) (a0_1 : Int) (a0_2 : Int) (a0_3 : Int) (a0_4 : Int) (a0_5 : Int) (a0_6 : Int) : Option (Bool):=(impl_areWithin.f k 10000000 (([a0_0,a0_1,a0_2] : List Int))).bind fun t796=>(if t796 = true then ((impl_areWithin.f k 100000000 (([a0_3,a0_4,a0_5] : List Int))).bind fun t800=>(if t800 = true then ((impl_areWithin.f k 1000000 (([a0_6] : List Int))).bind fun t804=>(some t804)) else (some false))) else (some false))
theorem impl_ValidShift.mono : ∀ a0 a1 a2 a3 a4 a5 a6 k,LeO (impl_ValidShift.f k a0 a1 a2 a3 a4 a5 a6) (impl_ValidShift.f (k + 1) a0 a1 a2 a3 a4 a5 a6):=by
  intro a0 a1 a2 a3 a4 a5 a6 k
  unfold impl_ValidShift.f
  repeat' first
      | (with_reducible exact impl_areWithin.mono _ _ _)
      | (with_reducible exact LeO.refl _)
      | (with_reducible exact LeO.none _)
      | (with_reducible refine LeO.ite ?_ ?_)
      | (with_reducible refine LeO.bind ?_ (fun _=>?_))
      | exact impl_areWithin.mono _ _ _
      | exact LeO.none _
      | refine LeO.ite ?_ ?_
      | refine LeO.bind ?_ (fun _=>?_)
set_option maxHeartbeats 8000000 in
set_option maxRecDepth 100000 in
theorem impl_ValidShift.calls (k : Nat) (a0_0 : Int) (a0_1 : Int) (a0_2 : Int) (a0_3 : Int) (a0_4 : Int) (a0_5 : Int) (a0_6 : Int) (r : Bool) (w : World) (h : impl_ValidShift.f k a0_0 a0_1 a0_2 a0_3 a0_4 a0_5 a0_6 = some r) :
    Calls Tryz.prog 26 #[.agg #[.int .i64 a0_0,.int .i64 a0_1,.int .i64 a0_2,.int .i64 a0_3,.int .i64 a0_4,.int .i64 a0_5,.int .i64 a0_6]] w fun e w'=>e = .returned (.bool r) ∧ Below w.heap.size w w':=by
  have hu25:=Tryz.underlying25
  have HB:=Aside0.mk (Below.refl w.heap.size w)
  have H : ((impl_areWithin.f k 10000000 (([a0_0,a0_1,a0_2] : List Int))).bind fun t796=>(if t796 = true then ((impl_areWithin.f k 100000000 (([a0_3,a0_4,a0_5] : List Int))).bind fun t800=>(if t800 = true then ((impl_areWithin.f k 1000000 (([a0_6] : List Int))).bind fun t804=>(some t804)) else (some false))) else (some false))) = some r:=h
  clear h
  obtain ⟨y793,hy793⟩ : ∃ y_ : List Int,y_ = (([a0_0,a0_1,a0_2] : List Int)):=⟨_,rfl⟩
  replace H : ((impl_areWithin.f k 10000000 y793).bind fun t796=>(if t796 = true then ((impl_areWithin.f k 100000000 (([a0_3,a0_4,a0_5] : List Int))).bind fun t800=>(if t800 = true then ((impl_areWithin.f k 1000000 (([a0_6] : List Int))).bind fun t804=>(some t804)) else (some false))) else (some false))) = some r:=by first | (rw [hy793]; with_reducible exact H) | (have H2_:=(Option.bind_some _ _).symm.trans H; rw [hy793]; with_reducible exact H2_) | (have H2_:=(Option.bind_some _ _).symm.trans H; with_reducible exact H2_) | with_reducible exact H | (rw [hy793]; exact H) | exact H
  have Ny793:=Aside0.mk hy793
  clear hy793
  replace H:=Option.bind_eq_some_iff.mp H
  obtain ⟨t796,A20,H⟩:=H
  replace H : (if t796 = true then ((impl_areWithin.f k 100000000 (([a0_3,a0_4,a0_5] : List Int))).bind fun t800=>(if t800 = true then ((impl_areWithin.f k 1000000 (([a0_6] : List Int))).bind fun t804=>(some t804)) else (some false))) else (some false)) = some r:=H
  have A2:=Aside0.mk A20
  clear A20
  by_cases c3 : t796 = true
  · subst c3
    have H1 : ((impl_areWithin.f k 100000000 (([a0_3,a0_4,a0_5] : List Int))).bind fun t800=>(if t800 = true then ((impl_areWithin.f k 1000000 (([a0_6] : List Int))).bind fun t804=>(some t804)) else (some false))) = some r:=by rw [if_pos rfl] at H; exact H
    clear H
    have H:=H1
    clear H1
    obtain ⟨y797,hy797⟩ : ∃ y_ : List Int,y_ = (([a0_3,a0_4,a0_5] : List Int)):=⟨_,rfl⟩
    replace H : ((impl_areWithin.f k 100000000 y797).bind fun t800=>(if t800 = true then ((impl_areWithin.f k 1000000 (([a0_6] : List Int))).bind fun t804=>(some t804)) else (some false))) = some r:=by first | (rw [hy797]; with_reducible exact H) | (have H2_:=(Option.bind_some _ _).symm.trans H; rw [hy797]; with_reducible exact H2_) | (have H2_:=(Option.bind_some _ _).symm.trans H; with_reducible exact H2_) | with_reducible exact H | (rw [hy797]; exact H) | exact H
    have Ny797:=Aside0.mk hy797
    clear hy797
    replace H:=Option.bind_eq_some_iff.mp H
    obtain ⟨t800,A40,H⟩:=H
    replace H : (if t800 = true then ((impl_areWithin.f k 1000000 (([a0_6] : List Int))).bind fun t804=>(some t804)) else (some false)) = some r:=H
    have A4:=Aside0.mk A40
    clear A40
    by_cases c5 : t800 = true
    · subst c5
      have H1 : ((impl_areWithin.f k 1000000 (([a0_6] : List Int))).bind fun t804=>(some t804)) = some r:=by rw [if_pos rfl] at H; exact H
      clear H
      have H:=H1
      clear H1
      obtain ⟨y801,hy801⟩ : ∃ y_ : List Int,y_ = (([a0_6] : List Int)):=⟨_,rfl⟩
      replace H : ((impl_areWithin.f k 1000000 y801).bind fun t804=>(some t804)) = some r:=by first | (rw [hy801]; with_reducible exact H) | (have H2_:=(Option.bind_some _ _).symm.trans H; rw [hy801]; with_reducible exact H2_) | (have H2_:=(Option.bind_some _ _).symm.trans H; with_reducible exact H2_) | with_reducible exact H | (rw [hy801]; exact H) | exact H
      have Ny801:=Aside0.mk hy801
      clear hy801
      replace H:=Option.bind_eq_some_iff.mp H
      obtain ⟨t804,A60,H⟩:=H
      replace H : (some t804) = some r:=H
      have A6:=Aside0.mk A60
      clear A60
      obtain rfl:=Option.some.inj H
      go_enter Tryz.func26,Tryz.ntmps26
      go_wp2_with (first | ((with_reducible refine gate_dst (N:=1) rfl ?_); (try (refine gate_guard (by rfl) ?_; dsimp only)); refine box_event ?hg (N:=1) ?hd (cs:=#[.int .i64 a0_0,.int .i64 a0_1,.int .i64 a0_2,.int .i64 a0_3,.int .i64 a0_4,.int .i64 a0_5,.int .i64 a0_6]) (t:=25) ?hr ?_; (case hd=>rfl); (case hg=>rfl); (case hr=>first | (go_simp; done) | (go_simp; rfl)); intro gb792 hg w7 hbox hb; have n0_:=Aside0.mk (below_step (by repeat (first | (with_reducible first | exact HB.out | apply below_alloc | apply pw_below_drewN | apply below_drew1) | exact HB.out)) hb); have n1_:=Aside0.mk (hbox); have n2_:=Aside0.mk ((by rw [hg]; exact (below_size (by repeat (first | (with_reducible first | exact HB.out | apply below_alloc | apply pw_below_drewN | apply below_drew1) | exact HB.out))) : w.heap.size ≤ gb792)); have n3_:=Aside0.mk ((by rw [hg]; exact (below_size (by repeat (first | (with_reducible first | exact HB.out | apply below_alloc | apply pw_below_drewN | apply below_drew1) | exact HB.out))) : w.heap.size ≤ gb792)); clear HB; have HB:=n0_; have BK792:=n1_; have GW792:=n2_; have GE792:=n3_; clear n0_ n1_ n2_ n3_; clear hb hbox hg; have hcz8_0 : w7.cell? ⟨gb792,0,none⟩ = some (.int .i64 a0_0):=(blk_cell BK792.out 0).trans rfl; have hcz8_1 : w7.cell? ⟨gb792,1,none⟩ = some (.int .i64 a0_1):=(blk_cell BK792.out 1).trans rfl; have hcz8_2 : w7.cell? ⟨gb792,2,none⟩ = some (.int .i64 a0_2):=(blk_cell BK792.out 2).trans rfl; have hcz8_3 : w7.cell? ⟨gb792,3,none⟩ = some (.int .i64 a0_3):=(blk_cell BK792.out 3).trans rfl; have hcz8_4 : w7.cell? ⟨gb792,4,none⟩ = some (.int .i64 a0_4):=(blk_cell BK792.out 4).trans rfl; have hcz8_5 : w7.cell? ⟨gb792,5,none⟩ = some (.int .i64 a0_5):=(blk_cell BK792.out 5).trans rfl; have hcz8_6 : w7.cell? ⟨gb792,6,none⟩ = some (.int .i64 a0_6):=(blk_cell BK792.out 6).trans rfl; have hfz8_0:=blk_frozen BK792.out 0; have hfz8_1:=blk_frozen BK792.out 1; have hfz8_2:=blk_frozen BK792.out 2; have hfz8_3:=blk_frozen BK792.out 3; have hfz8_4:=blk_frozen BK792.out 4; have hfz8_5:=blk_frozen BK792.out 5; have hfz8_6:=blk_frozen BK792.out 6) | ((with_reducible refine gate_dst (N:=9) rfl ?_); (try (refine gate_guard (by rfl) ?_; dsimp only)); refine Kd.R_lit (Kd.int .i64) _ 2 ?hg (N:=9) ?hd (xs:=([a0_0,a0_1,a0_2] : List Int)) (inner:=[.int .i64 a0_0,.int .i64 a0_1,.int .i64 a0_2]) (ok:=fun _=>True) (okp:=fun _=>True) ?hr ?hp (fun _ hk=>hk) trivial (Below.refl _ _) (Nat.le_refl _) (by simp) ?_; (case hd=>rfl); (case hg=>rfl); (case hr=>first | (go_simp; done) | (go_simp; rfl)); (case hp=>exact (Reps.one (show Kd.M (Kd.int .i64) _ _ _ a0_0 [.int .i64 a0_0] from rfl) (Reps.one (show Kd.M (Kd.int .i64) _ _ _ a0_1 [.int .i64 a0_1] from rfl) (Reps.one (show Kd.M (Kd.int .i64) _ _ _ a0_2 [.int .i64 a0_2] from rfl) (Reps.none _ _))))); intro v794 w9 ho10 hb hg_ hnew_; clear hg_ hnew_; (first | rw [← Ny793.out] at ho10 | (simp only [Int.reduceToNat] at ho10; rw [← Ny793.out] at ho10)); have n0_:=Aside0.mk (Kd.R_lower ho10 (below_size (by repeat (first | (with_reducible first | exact HB.out | apply below_alloc | apply pw_below_drewN | apply below_drew1 | refine below_set ?_ GE792.out) | exact HB.out)))); have n1_:=Aside0.mk (blk_below (g:=gb792) (o:=.cells #[.int .i64 a0_0,.int .i64 a0_1,.int .i64 a0_2,.int .i64 a0_3,.int .i64 a0_4,.int .i64 a0_5,.int .i64 a0_6] 25 (0,0)) (by (with_reducible repeat (first | refine blk_drewN ?_ _ | refine blk_drew ?_ | refine blk_alloc ?_ _)); exact BK792.out) hb); have n2_:=Aside0.mk (below_step (by repeat (first | (with_reducible first | exact HB.out | apply below_alloc | apply pw_below_drewN | apply below_drew1 | refine below_set ?_ GE792.out) | exact HB.out)) hb); clear BK792; clear HB; have HO795:=n0_; have BK792:=n1_; have HB:=n2_; clear n0_ n1_ n2_; clear hb ho10; obtain ⟨Ao11,co11,eo11⟩:=Kd.R_slice HO795.out; subst eo11) | ((with_reducible refine gate_callee (f:=54) rfl ?_); refine goesL_ (some 10) rfl rfl Tryz.func54 (by kernel_rfl) rfl #[.int .i64 10000000,.slice Ao11 y793.length co11] rfl (by (try simp only [List.map_toArray,List.map_cons,List.map_nil]); first | done | rfl | (simp only [List.length_drop,List.length_take]; rfl)) ?_; (with_reducible refine (impl_areWithin.calls k 10000000 _ _ y793 true _ ?side1 ?side2 A2.out).mono ?_); (case side1=>repeat (first | exact (Kd.R_reads' HO795.out).2.2 | (with_reducible refine Kd.C_alloc ?_ _) | (with_reducible refine Kd.C_drewN ?_ _) | (with_reducible refine Kd.C_drew ?_))); (case side2=>exact (Kd.R_reads' HO795.out).2.1); rintro e w' ⟨rfl,⟨nd,rfl⟩⟩; refine ⟨_,rfl,?_⟩; have hcz12_0 : w9.cell? ⟨gb792,0,none⟩ = some (.int .i64 a0_0):=(blk_cell BK792.out 0).trans rfl; have hcz12_1 : w9.cell? ⟨gb792,1,none⟩ = some (.int .i64 a0_1):=(blk_cell BK792.out 1).trans rfl; have hcz12_2 : w9.cell? ⟨gb792,2,none⟩ = some (.int .i64 a0_2):=(blk_cell BK792.out 2).trans rfl; have hcz12_3 : w9.cell? ⟨gb792,3,none⟩ = some (.int .i64 a0_3):=(blk_cell BK792.out 3).trans rfl; have hcz12_4 : w9.cell? ⟨gb792,4,none⟩ = some (.int .i64 a0_4):=(blk_cell BK792.out 4).trans rfl; have hcz12_5 : w9.cell? ⟨gb792,5,none⟩ = some (.int .i64 a0_5):=(blk_cell BK792.out 5).trans rfl; have hcz12_6 : w9.cell? ⟨gb792,6,none⟩ = some (.int .i64 a0_6):=(blk_cell BK792.out 6).trans rfl; have hfz12_0:=blk_frozen BK792.out 0; have hfz12_1:=blk_frozen BK792.out 1; have hfz12_2:=blk_frozen BK792.out 2; have hfz12_3:=blk_frozen BK792.out 3; have hfz12_4:=blk_frozen BK792.out 4; have hfz12_5:=blk_frozen BK792.out 5; have hfz12_6:=blk_frozen BK792.out 6) | ((with_reducible refine gate_dst (N:=18) rfl ?_); (try (refine gate_guard (by rfl) ?_; dsimp only)); refine Kd.R_lit (Kd.int .i64) _ 2 ?hg (N:=18) ?hd (xs:=([a0_3,a0_4,a0_5] : List Int)) (inner:=[.int .i64 a0_3,.int .i64 a0_4,.int .i64 a0_5]) (ok:=fun _=>True) (okp:=fun _=>True) ?hr ?hp (fun _ hk=>hk) trivial (Below.refl _ _) (Nat.le_refl _) (by simp) ?_; (case hd=>rfl); (case hg=>rfl); (case hr=>first | (go_simp; done) | (go_simp; rfl)); (case hp=>exact (Reps.one (show Kd.M (Kd.int .i64) _ _ _ a0_3 [.int .i64 a0_3] from rfl) (Reps.one (show Kd.M (Kd.int .i64) _ _ _ a0_4 [.int .i64 a0_4] from rfl) (Reps.one (show Kd.M (Kd.int .i64) _ _ _ a0_5 [.int .i64 a0_5] from rfl) (Reps.none _ _))))); intro v798 w13 ho14 hb hg_ hnew_; clear hg_ hnew_; (first | rw [← Ny797.out] at ho14 | (simp only [Int.reduceToNat] at ho14; rw [← Ny797.out] at ho14)); have n0_:=Aside0.mk (Kd.R_elder' (by (with_reducible repeat (first | apply Kd.R_alloc | apply Kd.R_drewN | apply Kd.R_drew)); exact HO795.out) (Kd.R_base ho14) hb); have n1_:=Aside0.mk (Kd.R_lower (Kd.R_new' ho14 (Kd.R_lt (by (with_reducible repeat (first | apply Kd.R_alloc | apply Kd.R_drewN | apply Kd.R_drew)); exact HO795.out))) (below_size (by repeat (first | (with_reducible first | exact HB.out | apply below_alloc | apply pw_below_drewN | apply below_drew1 | refine below_set ?_ GE792.out) | exact HB.out)))); have n2_:=Aside0.mk (blk_below (g:=gb792) (o:=.cells #[.int .i64 a0_0,.int .i64 a0_1,.int .i64 a0_2,.int .i64 a0_3,.int .i64 a0_4,.int .i64 a0_5,.int .i64 a0_6] 25 (0,0)) (by (with_reducible repeat (first | refine blk_drewN ?_ _ | refine blk_drew ?_ | refine blk_alloc ?_ _)); exact BK792.out) hb); have n3_:=Aside0.mk (below_step (by repeat (first | (with_reducible first | exact HB.out | apply below_alloc | apply pw_below_drewN | apply below_drew1 | refine below_set ?_ GE792.out) | exact HB.out)) hb); clear HO795; clear BK792; clear HB; have HO795:=n0_; have HO799:=n1_; have BK792:=n2_; have HB:=n3_; clear n0_ n1_ n2_ n3_; clear hb ho14; obtain ⟨Ao15,co15,eo15⟩:=Kd.R_slice HO799.out; subst eo15) | (go_at_call 54; (with_reducible refine (impl_areWithin.calls k 100000000 _ _ y797 true _ ?side1 ?side2 A4.out).mono ?_); (case side1=>repeat (first | exact (Kd.R_reads' HO799.out).2.2 | (with_reducible refine Kd.C_alloc ?_ _) | (with_reducible refine Kd.C_drewN ?_ _) | (with_reducible refine Kd.C_drew ?_))); (case side2=>exact (Kd.R_reads' HO799.out).2.1); rintro e w' ⟨rfl,⟨nd,rfl⟩⟩; have hcz16_0 : w13.cell? ⟨gb792,0,none⟩ = some (.int .i64 a0_0):=(blk_cell BK792.out 0).trans rfl; have hcz16_1 : w13.cell? ⟨gb792,1,none⟩ = some (.int .i64 a0_1):=(blk_cell BK792.out 1).trans rfl; have hcz16_2 : w13.cell? ⟨gb792,2,none⟩ = some (.int .i64 a0_2):=(blk_cell BK792.out 2).trans rfl; have hcz16_3 : w13.cell? ⟨gb792,3,none⟩ = some (.int .i64 a0_3):=(blk_cell BK792.out 3).trans rfl; have hcz16_4 : w13.cell? ⟨gb792,4,none⟩ = some (.int .i64 a0_4):=(blk_cell BK792.out 4).trans rfl; have hcz16_5 : w13.cell? ⟨gb792,5,none⟩ = some (.int .i64 a0_5):=(blk_cell BK792.out 5).trans rfl; have hcz16_6 : w13.cell? ⟨gb792,6,none⟩ = some (.int .i64 a0_6):=(blk_cell BK792.out 6).trans rfl; have hfz16_0:=blk_frozen BK792.out 0; have hfz16_1:=blk_frozen BK792.out 1; have hfz16_2:=blk_frozen BK792.out 2; have hfz16_3:=blk_frozen BK792.out 3; have hfz16_4:=blk_frozen BK792.out 4; have hfz16_5:=blk_frozen BK792.out 5; have hfz16_6:=blk_frozen BK792.out 6) | ((with_reducible refine gate_dst (N:=24) rfl ?_); (try (refine gate_guard (by rfl) ?_; dsimp only)); refine Kd.R_lit (Kd.int .i64) _ 2 ?hg (N:=24) ?hd (xs:=([a0_6] : List Int)) (inner:=[.int .i64 a0_6]) (ok:=fun _=>True) (okp:=fun _=>True) ?hr ?hp (fun _ hk=>hk) trivial (Below.refl _ _) (Nat.le_refl _) (by simp) ?_; (case hd=>rfl); (case hg=>rfl); (case hr=>first | (go_simp; done) | (go_simp; rfl)); (case hp=>exact (Reps.one (show Kd.M (Kd.int .i64) _ _ _ a0_6 [.int .i64 a0_6] from rfl) (Reps.none _ _))); intro v802 w17 ho18 hb hg_ hnew_; clear hg_ hnew_; (first | rw [← Ny801.out] at ho18 | (simp only [Int.reduceToNat] at ho18; rw [← Ny801.out] at ho18)); have n0_:=Aside0.mk (Kd.R_elder' (by (with_reducible repeat (first | apply Kd.R_alloc | apply Kd.R_drewN | apply Kd.R_drew)); exact HO795.out) (Kd.R_base ho18) hb); have n1_:=Aside0.mk (Kd.R_elder' (by (with_reducible repeat (first | apply Kd.R_alloc | apply Kd.R_drewN | apply Kd.R_drew)); exact HO799.out) (Kd.R_base ho18) hb); have n2_:=Aside0.mk (Kd.R_lower (Kd.R_new' (Kd.R_new' ho18 (Kd.R_lt (by (with_reducible repeat (first | apply Kd.R_alloc | apply Kd.R_drewN | apply Kd.R_drew)); exact HO795.out))) (Kd.R_lt (by (with_reducible repeat (first | apply Kd.R_alloc | apply Kd.R_drewN | apply Kd.R_drew)); exact HO799.out))) (below_size (by repeat (first | (with_reducible first | exact HB.out | apply below_alloc | apply pw_below_drewN | apply below_drew1 | refine below_set ?_ GE792.out) | exact HB.out)))); have n3_:=Aside0.mk (blk_below (g:=gb792) (o:=.cells #[.int .i64 a0_0,.int .i64 a0_1,.int .i64 a0_2,.int .i64 a0_3,.int .i64 a0_4,.int .i64 a0_5,.int .i64 a0_6] 25 (0,0)) (by (with_reducible repeat (first | refine blk_drewN ?_ _ | refine blk_drew ?_ | refine blk_alloc ?_ _)); exact BK792.out) hb); have n4_:=Aside0.mk (below_step (by repeat (first | (with_reducible first | exact HB.out | apply below_alloc | apply pw_below_drewN | apply below_drew1 | refine below_set ?_ GE792.out) | exact HB.out)) hb); clear HO795; clear HO799; clear BK792; clear HB; have HO795:=n0_; have HO799:=n1_; have HO803:=n2_; have BK792:=n3_; have HB:=n4_; clear n0_ n1_ n2_ n3_ n4_; clear hb ho18; obtain ⟨Ao19,co19,eo19⟩:=Kd.R_slice HO803.out; subst eo19) | (go_at_call 54; (with_reducible refine (impl_areWithin.calls k 1000000 _ _ y801 t804 _ ?side1 ?side2 A6.out).mono ?_); (case side1=>repeat (first | exact (Kd.R_reads' HO803.out).2.2 | (with_reducible refine Kd.C_alloc ?_ _) | (with_reducible refine Kd.C_drewN ?_ _) | (with_reducible refine Kd.C_drew ?_))); (case side2=>exact (Kd.R_reads' HO803.out).2.1); rintro e w' ⟨rfl,⟨nd,rfl⟩⟩))
      go_ret
      exact ⟨by first | rfl | (simp [errW_none,errW_some] <;> rfl) | (simp [*,errW_none,errW_some] <;> rfl),by repeat (first | (with_reducible first | exact HB.out | apply below_alloc | apply pw_below_drewN | apply below_drew1 | refine below_set ?_ GE792.out) | exact HB.out)⟩
    · replace c5:=Bool.eq_false_iff.mpr c5
      subst c5
      have H1 : (some false) = some r:=by rw [if_neg (show ¬ (false = true) by decide)] at H; exact H
      clear H
      have H:=H1
      clear H1
      obtain rfl:=Option.some.inj H
      go_enter Tryz.func26,Tryz.ntmps26
      go_wp2_with (first | ((with_reducible refine gate_dst (N:=1) rfl ?_); (try (refine gate_guard (by rfl) ?_; dsimp only)); refine box_event ?hg (N:=1) ?hd (cs:=#[.int .i64 a0_0,.int .i64 a0_1,.int .i64 a0_2,.int .i64 a0_3,.int .i64 a0_4,.int .i64 a0_5,.int .i64 a0_6]) (t:=25) ?hr ?_; (case hd=>rfl); (case hg=>rfl); (case hr=>first | (go_simp; done) | (go_simp; rfl)); intro gb792 hg w20 hbox hb; have n0_:=Aside0.mk (below_step (by repeat (first | (with_reducible first | exact HB.out | apply below_alloc | apply pw_below_drewN | apply below_drew1) | exact HB.out)) hb); have n1_:=Aside0.mk (hbox); have n2_:=Aside0.mk ((by rw [hg]; exact (below_size (by repeat (first | (with_reducible first | exact HB.out | apply below_alloc | apply pw_below_drewN | apply below_drew1) | exact HB.out))) : w.heap.size ≤ gb792)); have n3_:=Aside0.mk ((by rw [hg]; exact (below_size (by repeat (first | (with_reducible first | exact HB.out | apply below_alloc | apply pw_below_drewN | apply below_drew1) | exact HB.out))) : w.heap.size ≤ gb792)); clear HB; have HB:=n0_; have BK792:=n1_; have GW792:=n2_; have GE792:=n3_; clear n0_ n1_ n2_ n3_; clear hb hbox hg; have hcz21_0 : w20.cell? ⟨gb792,0,none⟩ = some (.int .i64 a0_0):=(blk_cell BK792.out 0).trans rfl; have hcz21_1 : w20.cell? ⟨gb792,1,none⟩ = some (.int .i64 a0_1):=(blk_cell BK792.out 1).trans rfl; have hcz21_2 : w20.cell? ⟨gb792,2,none⟩ = some (.int .i64 a0_2):=(blk_cell BK792.out 2).trans rfl; have hcz21_3 : w20.cell? ⟨gb792,3,none⟩ = some (.int .i64 a0_3):=(blk_cell BK792.out 3).trans rfl; have hcz21_4 : w20.cell? ⟨gb792,4,none⟩ = some (.int .i64 a0_4):=(blk_cell BK792.out 4).trans rfl; have hcz21_5 : w20.cell? ⟨gb792,5,none⟩ = some (.int .i64 a0_5):=(blk_cell BK792.out 5).trans rfl; have hcz21_6 : w20.cell? ⟨gb792,6,none⟩ = some (.int .i64 a0_6):=(blk_cell BK792.out 6).trans rfl; have hfz21_0:=blk_frozen BK792.out 0; have hfz21_1:=blk_frozen BK792.out 1; have hfz21_2:=blk_frozen BK792.out 2; have hfz21_3:=blk_frozen BK792.out 3; have hfz21_4:=blk_frozen BK792.out 4; have hfz21_5:=blk_frozen BK792.out 5; have hfz21_6:=blk_frozen BK792.out 6) | ((with_reducible refine gate_dst (N:=9) rfl ?_); (try (refine gate_guard (by rfl) ?_; dsimp only)); refine Kd.R_lit (Kd.int .i64) _ 2 ?hg (N:=9) ?hd (xs:=([a0_0,a0_1,a0_2] : List Int)) (inner:=[.int .i64 a0_0,.int .i64 a0_1,.int .i64 a0_2]) (ok:=fun _=>True) (okp:=fun _=>True) ?hr ?hp (fun _ hk=>hk) trivial (Below.refl _ _) (Nat.le_refl _) (by simp) ?_; (case hd=>rfl); (case hg=>rfl); (case hr=>first | (go_simp; done) | (go_simp; rfl)); (case hp=>exact (Reps.one (show Kd.M (Kd.int .i64) _ _ _ a0_0 [.int .i64 a0_0] from rfl) (Reps.one (show Kd.M (Kd.int .i64) _ _ _ a0_1 [.int .i64 a0_1] from rfl) (Reps.one (show Kd.M (Kd.int .i64) _ _ _ a0_2 [.int .i64 a0_2] from rfl) (Reps.none _ _))))); intro v794 w22 ho23 hb hg_ hnew_; clear hg_ hnew_; (first | rw [← Ny793.out] at ho23 | (simp only [Int.reduceToNat] at ho23; rw [← Ny793.out] at ho23)); have n0_:=Aside0.mk (Kd.R_lower ho23 (below_size (by repeat (first | (with_reducible first | exact HB.out | apply below_alloc | apply pw_below_drewN | apply below_drew1 | refine below_set ?_ GE792.out) | exact HB.out)))); have n1_:=Aside0.mk (blk_below (g:=gb792) (o:=.cells #[.int .i64 a0_0,.int .i64 a0_1,.int .i64 a0_2,.int .i64 a0_3,.int .i64 a0_4,.int .i64 a0_5,.int .i64 a0_6] 25 (0,0)) (by (with_reducible repeat (first | refine blk_drewN ?_ _ | refine blk_drew ?_ | refine blk_alloc ?_ _)); exact BK792.out) hb); have n2_:=Aside0.mk (below_step (by repeat (first | (with_reducible first | exact HB.out | apply below_alloc | apply pw_below_drewN | apply below_drew1 | refine below_set ?_ GE792.out) | exact HB.out)) hb); clear BK792; clear HB; have HO795:=n0_; have BK792:=n1_; have HB:=n2_; clear n0_ n1_ n2_; clear hb ho23; obtain ⟨Ao24,co24,eo24⟩:=Kd.R_slice HO795.out; subst eo24) | ((with_reducible refine gate_callee (f:=54) rfl ?_); refine goesL_ (some 10) rfl rfl Tryz.func54 (by kernel_rfl) rfl #[.int .i64 10000000,.slice Ao24 y793.length co24] rfl (by (try simp only [List.map_toArray,List.map_cons,List.map_nil]); first | done | rfl | (simp only [List.length_drop,List.length_take]; rfl)) ?_; (with_reducible refine (impl_areWithin.calls k 10000000 _ _ y793 true _ ?side1 ?side2 A2.out).mono ?_); (case side1=>repeat (first | exact (Kd.R_reads' HO795.out).2.2 | (with_reducible refine Kd.C_alloc ?_ _) | (with_reducible refine Kd.C_drewN ?_ _) | (with_reducible refine Kd.C_drew ?_))); (case side2=>exact (Kd.R_reads' HO795.out).2.1); rintro e w' ⟨rfl,⟨nd,rfl⟩⟩; refine ⟨_,rfl,?_⟩; have hcz25_0 : w22.cell? ⟨gb792,0,none⟩ = some (.int .i64 a0_0):=(blk_cell BK792.out 0).trans rfl; have hcz25_1 : w22.cell? ⟨gb792,1,none⟩ = some (.int .i64 a0_1):=(blk_cell BK792.out 1).trans rfl; have hcz25_2 : w22.cell? ⟨gb792,2,none⟩ = some (.int .i64 a0_2):=(blk_cell BK792.out 2).trans rfl; have hcz25_3 : w22.cell? ⟨gb792,3,none⟩ = some (.int .i64 a0_3):=(blk_cell BK792.out 3).trans rfl; have hcz25_4 : w22.cell? ⟨gb792,4,none⟩ = some (.int .i64 a0_4):=(blk_cell BK792.out 4).trans rfl; have hcz25_5 : w22.cell? ⟨gb792,5,none⟩ = some (.int .i64 a0_5):=(blk_cell BK792.out 5).trans rfl; have hcz25_6 : w22.cell? ⟨gb792,6,none⟩ = some (.int .i64 a0_6):=(blk_cell BK792.out 6).trans rfl; have hfz25_0:=blk_frozen BK792.out 0; have hfz25_1:=blk_frozen BK792.out 1; have hfz25_2:=blk_frozen BK792.out 2; have hfz25_3:=blk_frozen BK792.out 3; have hfz25_4:=blk_frozen BK792.out 4; have hfz25_5:=blk_frozen BK792.out 5; have hfz25_6:=blk_frozen BK792.out 6) | ((with_reducible refine gate_dst (N:=18) rfl ?_); (try (refine gate_guard (by rfl) ?_; dsimp only)); refine Kd.R_lit (Kd.int .i64) _ 2 ?hg (N:=18) ?hd (xs:=([a0_3,a0_4,a0_5] : List Int)) (inner:=[.int .i64 a0_3,.int .i64 a0_4,.int .i64 a0_5]) (ok:=fun _=>True) (okp:=fun _=>True) ?hr ?hp (fun _ hk=>hk) trivial (Below.refl _ _) (Nat.le_refl _) (by simp) ?_; (case hd=>rfl); (case hg=>rfl); (case hr=>first | (go_simp; done) | (go_simp; rfl)); (case hp=>exact (Reps.one (show Kd.M (Kd.int .i64) _ _ _ a0_3 [.int .i64 a0_3] from rfl) (Reps.one (show Kd.M (Kd.int .i64) _ _ _ a0_4 [.int .i64 a0_4] from rfl) (Reps.one (show Kd.M (Kd.int .i64) _ _ _ a0_5 [.int .i64 a0_5] from rfl) (Reps.none _ _))))); intro v798 w26 ho27 hb hg_ hnew_; clear hg_ hnew_; (first | rw [← Ny797.out] at ho27 | (simp only [Int.reduceToNat] at ho27; rw [← Ny797.out] at ho27)); have n0_:=Aside0.mk (Kd.R_elder' (by (with_reducible repeat (first | apply Kd.R_alloc | apply Kd.R_drewN | apply Kd.R_drew)); exact HO795.out) (Kd.R_base ho27) hb); have n1_:=Aside0.mk (Kd.R_lower (Kd.R_new' ho27 (Kd.R_lt (by (with_reducible repeat (first | apply Kd.R_alloc | apply Kd.R_drewN | apply Kd.R_drew)); exact HO795.out))) (below_size (by repeat (first | (with_reducible first | exact HB.out | apply below_alloc | apply pw_below_drewN | apply below_drew1 | refine below_set ?_ GE792.out) | exact HB.out)))); have n2_:=Aside0.mk (blk_below (g:=gb792) (o:=.cells #[.int .i64 a0_0,.int .i64 a0_1,.int .i64 a0_2,.int .i64 a0_3,.int .i64 a0_4,.int .i64 a0_5,.int .i64 a0_6] 25 (0,0)) (by (with_reducible repeat (first | refine blk_drewN ?_ _ | refine blk_drew ?_ | refine blk_alloc ?_ _)); exact BK792.out) hb); have n3_:=Aside0.mk (below_step (by repeat (first | (with_reducible first | exact HB.out | apply below_alloc | apply pw_below_drewN | apply below_drew1 | refine below_set ?_ GE792.out) | exact HB.out)) hb); clear HO795; clear BK792; clear HB; have HO795:=n0_; have HO799:=n1_; have BK792:=n2_; have HB:=n3_; clear n0_ n1_ n2_ n3_; clear hb ho27; obtain ⟨Ao28,co28,eo28⟩:=Kd.R_slice HO799.out; subst eo28) | (go_at_call 54; (with_reducible refine (impl_areWithin.calls k 100000000 _ _ y797 false _ ?side1 ?side2 A4.out).mono ?_); (case side1=>repeat (first | exact (Kd.R_reads' HO799.out).2.2 | (with_reducible refine Kd.C_alloc ?_ _) | (with_reducible refine Kd.C_drewN ?_ _) | (with_reducible refine Kd.C_drew ?_))); (case side2=>exact (Kd.R_reads' HO799.out).2.1); rintro e w' ⟨rfl,⟨nd,rfl⟩⟩))
      go_ret
      exact ⟨by first | rfl | (simp [errW_none,errW_some] <;> rfl) | (simp [*,errW_none,errW_some] <;> rfl),by repeat (first | (with_reducible first | exact HB.out | apply below_alloc | apply pw_below_drewN | apply below_drew1 | refine below_set ?_ GE792.out) | exact HB.out)⟩
  · replace c3:=Bool.eq_false_iff.mpr c3
    subst c3
    have H1 : (some false) = some r:=by rw [if_neg (show ¬ (false = true) by decide)] at H; exact H
    clear H
    have H:=H1
    clear H1
    obtain rfl:=Option.some.inj H
    go_enter Tryz.func26,Tryz.ntmps26
    go_wp2_with (first | ((with_reducible refine gate_dst (N:=1) rfl ?_); (try (refine gate_guard (by rfl) ?_; dsimp only)); refine box_event ?hg (N:=1) ?hd (cs:=#[.int .i64 a0_0,.int .i64 a0_1,.int .i64 a0_2,.int .i64 a0_3,.int .i64 a0_4,.int .i64 a0_5,.int .i64 a0_6]) (t:=25) ?hr ?_; (case hd=>rfl); (case hg=>rfl); (case hr=>first | (go_simp; done) | (go_simp; rfl)); intro gb792 hg w29 hbox hb; have n0_:=Aside0.mk (below_step (by repeat (first | (with_reducible first | exact HB.out | apply below_alloc | apply pw_below_drewN | apply below_drew1) | exact HB.out)) hb); have n1_:=Aside0.mk (hbox); have n2_:=Aside0.mk ((by rw [hg]; exact (below_size (by repeat (first | (with_reducible first | exact HB.out | apply below_alloc | apply pw_below_drewN | apply below_drew1) | exact HB.out))) : w.heap.size ≤ gb792)); have n3_:=Aside0.mk ((by rw [hg]; exact (below_size (by repeat (first | (with_reducible first | exact HB.out | apply below_alloc | apply pw_below_drewN | apply below_drew1) | exact HB.out))) : w.heap.size ≤ gb792)); clear HB; have HB:=n0_; have BK792:=n1_; have GW792:=n2_; have GE792:=n3_; clear n0_ n1_ n2_ n3_; clear hb hbox hg; have hcz30_0 : w29.cell? ⟨gb792,0,none⟩ = some (.int .i64 a0_0):=(blk_cell BK792.out 0).trans rfl; have hcz30_1 : w29.cell? ⟨gb792,1,none⟩ = some (.int .i64 a0_1):=(blk_cell BK792.out 1).trans rfl; have hcz30_2 : w29.cell? ⟨gb792,2,none⟩ = some (.int .i64 a0_2):=(blk_cell BK792.out 2).trans rfl; have hcz30_3 : w29.cell? ⟨gb792,3,none⟩ = some (.int .i64 a0_3):=(blk_cell BK792.out 3).trans rfl; have hcz30_4 : w29.cell? ⟨gb792,4,none⟩ = some (.int .i64 a0_4):=(blk_cell BK792.out 4).trans rfl; have hcz30_5 : w29.cell? ⟨gb792,5,none⟩ = some (.int .i64 a0_5):=(blk_cell BK792.out 5).trans rfl; have hcz30_6 : w29.cell? ⟨gb792,6,none⟩ = some (.int .i64 a0_6):=(blk_cell BK792.out 6).trans rfl; have hfz30_0:=blk_frozen BK792.out 0; have hfz30_1:=blk_frozen BK792.out 1; have hfz30_2:=blk_frozen BK792.out 2; have hfz30_3:=blk_frozen BK792.out 3; have hfz30_4:=blk_frozen BK792.out 4; have hfz30_5:=blk_frozen BK792.out 5; have hfz30_6:=blk_frozen BK792.out 6) | ((with_reducible refine gate_dst (N:=9) rfl ?_); (try (refine gate_guard (by rfl) ?_; dsimp only)); refine Kd.R_lit (Kd.int .i64) _ 2 ?hg (N:=9) ?hd (xs:=([a0_0,a0_1,a0_2] : List Int)) (inner:=[.int .i64 a0_0,.int .i64 a0_1,.int .i64 a0_2]) (ok:=fun _=>True) (okp:=fun _=>True) ?hr ?hp (fun _ hk=>hk) trivial (Below.refl _ _) (Nat.le_refl _) (by simp) ?_; (case hd=>rfl); (case hg=>rfl); (case hr=>first | (go_simp; done) | (go_simp; rfl)); (case hp=>exact (Reps.one (show Kd.M (Kd.int .i64) _ _ _ a0_0 [.int .i64 a0_0] from rfl) (Reps.one (show Kd.M (Kd.int .i64) _ _ _ a0_1 [.int .i64 a0_1] from rfl) (Reps.one (show Kd.M (Kd.int .i64) _ _ _ a0_2 [.int .i64 a0_2] from rfl) (Reps.none _ _))))); intro v794 w31 ho32 hb hg_ hnew_; clear hg_ hnew_; (first | rw [← Ny793.out] at ho32 | (simp only [Int.reduceToNat] at ho32; rw [← Ny793.out] at ho32)); have n0_:=Aside0.mk (Kd.R_lower ho32 (below_size (by repeat (first | (with_reducible first | exact HB.out | apply below_alloc | apply pw_below_drewN | apply below_drew1 | refine below_set ?_ GE792.out) | exact HB.out)))); have n1_:=Aside0.mk (blk_below (g:=gb792) (o:=.cells #[.int .i64 a0_0,.int .i64 a0_1,.int .i64 a0_2,.int .i64 a0_3,.int .i64 a0_4,.int .i64 a0_5,.int .i64 a0_6] 25 (0,0)) (by (with_reducible repeat (first | refine blk_drewN ?_ _ | refine blk_drew ?_ | refine blk_alloc ?_ _)); exact BK792.out) hb); have n2_:=Aside0.mk (below_step (by repeat (first | (with_reducible first | exact HB.out | apply below_alloc | apply pw_below_drewN | apply below_drew1 | refine below_set ?_ GE792.out) | exact HB.out)) hb); clear BK792; clear HB; have HO795:=n0_; have BK792:=n1_; have HB:=n2_; clear n0_ n1_ n2_; clear hb ho32; obtain ⟨Ao33,co33,eo33⟩:=Kd.R_slice HO795.out; subst eo33) | ((with_reducible refine gate_callee (f:=54) rfl ?_); refine goesL_ (some 10) rfl rfl Tryz.func54 (by kernel_rfl) rfl #[.int .i64 10000000,.slice Ao33 y793.length co33] rfl (by (try simp only [List.map_toArray,List.map_cons,List.map_nil]); first | done | rfl | (simp only [List.length_drop,List.length_take]; rfl)) ?_; (with_reducible refine (impl_areWithin.calls k 10000000 _ _ y793 false _ ?side1 ?side2 A2.out).mono ?_); (case side1=>repeat (first | exact (Kd.R_reads' HO795.out).2.2 | (with_reducible refine Kd.C_alloc ?_ _) | (with_reducible refine Kd.C_drewN ?_ _) | (with_reducible refine Kd.C_drew ?_))); (case side2=>exact (Kd.R_reads' HO795.out).2.1); rintro e w' ⟨rfl,⟨nd,rfl⟩⟩; refine ⟨_,rfl,?_⟩))
    go_ret
    exact ⟨by first | rfl | (simp [errW_none,errW_some] <;> rfl) | (simp [*,errW_none,errW_some] <;> rfl),by repeat (first | (with_reducible first | exact HB.out | apply below_alloc | apply pw_below_drewN | apply below_drew1 | refine below_set ?_ GE792.out) | exact HB.out)⟩
def stringslite_HasPrefix.f (a0 : ByteArray) (a1 : ByteArray) : Option (Bool):=if (a0.size : Int) ≥ (a1.size : Int) then (if 0 ≤ (a1.size : Int) then (if (a1.size : Int) ≤ (a0.size : Int) then (some ((a0.extract 0 ((a1.size : Int) : Int).toNat).toList == a1.toList)) else (none)) else (none)) else (some false)
set_option maxHeartbeats 8000000 in
set_option maxRecDepth 100000 in
theorem stringslite_HasPrefix.calls (a0 : ByteArray) (a1 : ByteArray) (r : Bool) (w : World) (h : stringslite_HasPrefix.f a0 a1 = some r) :
    Calls Tryz.prog 147 #[.string a0,.string a1] w fun e w'=>e = .returned (.bool r) ∧ Drawn0 w w':=by
  have H : (if (a0.size : Int) ≥ (a1.size : Int) then (if 0 ≤ (a1.size : Int) then (if (a1.size : Int) ≤ (a0.size : Int) then (some ((a0.extract 0 ((a1.size : Int) : Int).toNat).toList == a1.toList)) else (none)) else (none)) else (some false)) = some r:=h
  clear h
  by_cases c3 : (a0.size : Int) ≥ (a1.size : Int)
  · rw [if_pos c3] at H
    have c3b0 : decide ((a1.size : Int) ≤ (a0.size : Int)) = true:=decide_eq_true c3
    have c3b1 : decide (a1.size ≤ a0.size) = true:=decide_eq_true (Int.ofNat_le.mp c3)
    clear c3
    by_cases c4 : 0 ≤ (a1.size : Int)
    · rw [if_pos c4] at H
      have c4b0:=eq_true c4
      have c4b1 : decide (0 ≤ (a1.size : Int)) = true:=decide_eq_true c4
      clear c4
      by_cases c5 : (a1.size : Int) ≤ (a0.size : Int)
      · rw [if_pos c5] at H
        have c5b0:=eq_true c5
        have c5b1 : decide ((a1.size : Int) ≤ (a0.size : Int)) = true:=decide_eq_true c5
        clear c5
        obtain rfl:=Option.some.inj H
        go_enter Tryz.func147,Tryz.ntmps147
        go_wp2
        go_ret
        exact ⟨by first | rfl | (simp; done) | (simp [*]; done),by repeat (first | exact Drawn0.refl _ | apply Drawn0.step)⟩
      · rw [if_neg c5] at H
        exact absurd H (by simp)
    · rw [if_neg c4] at H
      exact absurd H (by simp)
  · rw [if_neg c3] at H
    have c3b0 : decide ((a1.size : Int) ≤ (a0.size : Int)) = false:=decide_eq_false c3
    have c3b1 : decide (a1.size ≤ a0.size) = false:=decide_eq_false (fun h=>c3 (Int.ofNat_le.mpr h))
    clear c3
    obtain rfl:=Option.some.inj H
    go_enter Tryz.func147,Tryz.ntmps147
    go_wp2
    go_ret
    exact ⟨by first | rfl | (simp; done) | (simp [*]; done),by repeat (first | exact Drawn0.refl _ | apply Drawn0.step)⟩
def stringslite_TrimPrefix.f (a0 : ByteArray) (a1 : ByteArray) : Option (ByteArray):=(stringslite_HasPrefix.f a0 a1).bind fun t966=>(if t966 = true then (if 0 ≤ (a1.size : Int) then (if (a1.size : Int) ≤ (a0.size : Int) then (some (a0.extract ((a1.size : Int) : Int).toNat a0.size)) else (none)) else (none)) else (some a0))
set_option maxHeartbeats 8000000 in
set_option maxRecDepth 100000 in
theorem stringslite_TrimPrefix.calls (a0 : ByteArray) (a1 : ByteArray) (r : ByteArray) (w : World) (h : stringslite_TrimPrefix.f a0 a1 = some r) :
    Calls Tryz.prog 110 #[.string a0,.string a1] w fun e w'=>e = .returned (.string r) ∧ Drawn0 w w':=by
  have H : ((stringslite_HasPrefix.f a0 a1).bind fun t966=>(if t966 = true then (if 0 ≤ (a1.size : Int) then (if (a1.size : Int) ≤ (a0.size : Int) then (some (a0.extract ((a1.size : Int) : Int).toNat a0.size)) else (none)) else (none)) else (some a0))) = some r:=h
  clear h
  replace H:=Option.bind_eq_some_iff.mp H
  obtain ⟨t966,A30,H⟩:=H
  replace H : (if t966 = true then (if 0 ≤ (a1.size : Int) then (if (a1.size : Int) ≤ (a0.size : Int) then (some (a0.extract ((a1.size : Int) : Int).toNat a0.size)) else (none)) else (none)) else (some a0)) = some r:=H
  have A3:=Aside0.mk A30
  clear A30
  by_cases c4 : t966 = true
  · subst c4
    have H1 : (if 0 ≤ (a1.size : Int) then (if (a1.size : Int) ≤ (a0.size : Int) then (some (a0.extract ((a1.size : Int) : Int).toNat a0.size)) else (none)) else (none)) = some r:=by rw [if_pos rfl] at H; exact H
    clear H
    have H:=H1
    clear H1
    by_cases c5 : 0 ≤ (a1.size : Int)
    · rw [if_pos c5] at H
      have c5b0:=eq_true c5
      have c5b1 : decide (0 ≤ (a1.size : Int)) = true:=decide_eq_true c5
      clear c5
      by_cases c6 : (a1.size : Int) ≤ (a0.size : Int)
      · rw [if_pos c6] at H
        have c6b0:=eq_true c6
        have c6b1 : decide ((a1.size : Int) ≤ (a0.size : Int)) = true:=decide_eq_true c6
        clear c6
        obtain rfl:=Option.some.inj H
        go_enter Tryz.func110,Tryz.ntmps110
        go_wp2_with (first | ((with_reducible refine gate_callee (f:=147) rfl ?_); refine goesL_ (some 7) rfl rfl Tryz.func147 (by kernel_rfl) rfl #[.string a0,.string a1] rfl (by (try simp only [List.map_toArray,List.map_cons,List.map_nil]); first | done | rfl | (simp only [List.length_drop,List.length_take]; rfl)) ?_; (with_reducible refine (stringslite_HasPrefix.calls a0 a1 true _ A3.out).mono ?_); rintro e w' ⟨rfl,⟨nd,rfl⟩⟩; refine ⟨_,rfl,?_⟩))
        go_ret
        exact ⟨by first | rfl | (simp; done) | (simp [*]; done),by repeat (first | exact Drawn0.refl _ | apply Drawn0.step)⟩
      · rw [if_neg c6] at H
        exact absurd H (by simp)
    · rw [if_neg c5] at H
      exact absurd H (by simp)
  · replace c4:=Bool.eq_false_iff.mpr c4
    subst c4
    have H1 : (some a0) = some r:=by rw [if_neg (show ¬ (false = true) by decide)] at H; exact H
    clear H
    have H:=H1
    clear H1
    obtain rfl:=Option.some.inj H
    go_enter Tryz.func110,Tryz.ntmps110
    go_wp2_with (first | ((with_reducible refine gate_callee (f:=147) rfl ?_); refine goesL_ (some 7) rfl rfl Tryz.func147 (by kernel_rfl) rfl #[.string a0,.string a1] rfl (by (try simp only [List.map_toArray,List.map_cons,List.map_nil]); first | done | rfl | (simp only [List.length_drop,List.length_take]; rfl)) ?_; (with_reducible refine (stringslite_HasPrefix.calls a0 a1 false _ A3.out).mono ?_); rintro e w' ⟨rfl,⟨nd,rfl⟩⟩; refine ⟨_,rfl,?_⟩))
    go_ret
    exact ⟨by first | rfl | (simp; done) | (simp [*]; done),by repeat (first | exact Drawn0.refl _ | apply Drawn0.step)⟩
def strings_TrimPrefix.f (a0 : ByteArray) (a1 : ByteArray) : Option (ByteArray):=(stringslite_TrimPrefix.f a0 a1).bind fun t967=>(some t967)
set_option maxHeartbeats 8000000 in
set_option maxRecDepth 100000 in
theorem strings_TrimPrefix.calls (a0 : ByteArray) (a1 : ByteArray) (r : ByteArray) (w : World) (h : strings_TrimPrefix.f a0 a1 = some r) :
    Calls Tryz.prog 71 #[.string a0,.string a1] w fun e w'=>e = .returned (.string r) ∧ Drawn0 w w':=by
  have H : ((stringslite_TrimPrefix.f a0 a1).bind fun t967=>(some t967)) = some r:=h
  clear h
  replace H:=Option.bind_eq_some_iff.mp H
  obtain ⟨t967,A30,H⟩:=H
  replace H : (some t967) = some r:=H
  have A3:=Aside0.mk A30
  clear A30
  obtain rfl:=Option.some.inj H
  go_enter Tryz.func71,Tryz.ntmps71
  go_wp2_with (first | ((with_reducible refine gate_callee (f:=110) rfl ?_); refine goesL_ (some 7) rfl rfl Tryz.func110 (by kernel_rfl) rfl #[.string a0,.string a1] rfl (by (try simp only [List.map_toArray,List.map_cons,List.map_nil]); first | done | rfl | (simp only [List.length_drop,List.length_take]; rfl)) ?_; (with_reducible refine (stringslite_TrimPrefix.calls a0 a1 t967 _ A3.out).mono ?_); rintro e w' ⟨rfl,⟨nd,rfl⟩⟩; refine ⟨_,rfl,?_⟩))
  go_ret
  exact ⟨by first | rfl | (simp; done) | (simp [*]; done),by repeat (first | exact Drawn0.refl _ | apply Drawn0.step)⟩
end Go.Proofs.YtfhnlkinjbakgaaGreatDoor.PFnShifts
namespace Go.Proofs
open Go.Shelf
def Tryz.laysM173_ren : Go.Shelf.Ren:=⟨fun | 173=>109 | 246=>146 | 283=>182 | 284=>183 | 285=>184 | 286=>185 | 129=>201 | 317=>200 | 318=>202 | 319=>203 | 320=>204 | 337=>209 | 338=>210 | n=>n,fun | 2=>2 | 3=>3 | 9=>9 | 4=>4 | 171=>173 | 0=>0 | 53=>82 | 37=>22 | 5=>5 | 173=>176 | 212=>193 | 51=>186 | 20=>20 | 213=>194 | 46=>95 | 232=>201 | 233=>202 | n=>n,fun | 17=>5 | 18=>8 | 19=>9 | n=>n⟩
theorem Tryz.laysM173 : Go.Proofs.LaysM.n173 Tryz.prog Tryz.laysM173_ren:={
  mixed:=by kernel_rfl
  f129:=Tryz.func201.trans (congrArg some (by kernel_rfl))
  f173:=Tryz.func109.trans (congrArg some (by kernel_rfl))
  f246:=Tryz.func146.trans (congrArg some (by kernel_rfl))
  f283:=Tryz.func182.trans (congrArg some (by kernel_rfl))
  f284:=Tryz.func183.trans (congrArg some (by kernel_rfl))
  f285:=Tryz.func184.trans (congrArg some (by kernel_rfl))
  f286:=Tryz.func185.trans (congrArg some (by kernel_rfl))
  f317:=Tryz.func200.trans (congrArg some (by kernel_rfl))
  f318:=Tryz.func202.trans (congrArg some (by kernel_rfl))
  f319:=Tryz.func203.trans (congrArg some (by kernel_rfl))
  f320:=Tryz.func204.trans (congrArg some (by kernel_rfl))
  f337:=Tryz.func209.trans (congrArg some (by kernel_rfl))
  f338:=Tryz.func210.trans (congrArg some (by kernel_rfl))
  t0:=Tryz.underlying0
  a0:=Tryz.isAgg0
  z0:=Tryz.sizeOf0
  v0:=Tryz.zeroValue0
  t2:=Tryz.underlying2
  a2:=Tryz.isAgg2
  z2:=Tryz.sizeOf2
  v2:=Tryz.zeroValue2
  t3:=Tryz.underlying3
  a3:=Tryz.isAgg3
  z3:=Tryz.sizeOf3
  v3:=Tryz.zeroValue3
  t4:=Tryz.underlying4
  a4:=Tryz.isAgg4
  z4:=Tryz.sizeOf4
  v4:=Tryz.zeroValue4
  t5:=Tryz.underlying5
  a5:=Tryz.isAgg5
  z5:=Tryz.sizeOf5
  v5:=Tryz.zeroValue5
  t9:=Tryz.underlying9
  a9:=Tryz.isAgg9
  z9:=Tryz.sizeOf9
  v9:=Tryz.zeroValue9
  t20:=Tryz.underlying20
  a20:=Tryz.isAgg20
  z20:=Tryz.sizeOf20
  v20:=Tryz.zeroValue20
  t37:=Tryz.underlying22
  a37:=Tryz.isAgg22
  z37:=Tryz.sizeOf22
  v37:=Tryz.zeroValue22
  t46:=Tryz.underlying95
  a46:=Tryz.isAgg95
  z46:=Tryz.sizeOf95
  v46:=Tryz.zeroValue95
  t51:=Tryz.underlying186
  a51:=Tryz.isAgg186
  z51:=Tryz.sizeOf186
  v51:=Tryz.zeroValue186
  t53:=Tryz.underlying82
  a53:=Tryz.isAgg82
  z53:=Tryz.sizeOf82
  v53:=Tryz.zeroValue82
  t171:=Tryz.underlying173
  a171:=Tryz.isAgg173
  z171:=Tryz.sizeOf173
  v171:=Tryz.zeroValue173
  t173:=Tryz.underlying176
  a173:=Tryz.isAgg176
  z173:=Tryz.sizeOf176
  v173:=Tryz.zeroValue176
  t212:=Tryz.underlying193
  a212:=Tryz.isAgg193
  z212:=Tryz.sizeOf193
  v212:=Tryz.zeroValue193
  t213:=Tryz.underlying194
  a213:=Tryz.isAgg194
  z213:=Tryz.sizeOf194
  t232:=Tryz.underlying201
  a232:=Tryz.isAgg201
  z232:=Tryz.sizeOf201
  v232:=Tryz.zeroValue201
  t233:=Tryz.underlying202
  a233:=Tryz.isAgg202
  z233:=Tryz.sizeOf202
  v233:=Tryz.zeroValue202
  g17:=by kernel_rfl
  g18:=by kernel_rfl
  g19:=by kernel_rfl
  i0:=by kernel_rfl
  i2:=by kernel_rfl
  i3:=by kernel_rfl
  i4:=by kernel_rfl
  i5:=by kernel_rfl
  i9:=by kernel_rfl
  i20:=by kernel_rfl
  i37:=by kernel_rfl
  i46:=by kernel_rfl
  i51:=by kernel_rfl
  i53:=by kernel_rfl
  i171:=by kernel_rfl
  i173:=by kernel_rfl
  i212:=by kernel_rfl
  i232:=by kernel_rfl
  i233:=by kernel_rfl
  m17:=by kernel_rfl
  m18:=by kernel_rfl
  m19:=by kernel_rfl }
def Tryz.lays156_ren : Go.Shelf.Ren:=⟨fun | 156=>111 | 165=>148 | 166=>149 | 169=>150 | 240=>186 | 241=>187 | 276=>205 | 277=>206 | n=>n,fun | 31=>74 | 9=>9 | 3=>3 | 4=>4 | 0=>0 | 20=>20 | 72=>147 | 76=>149 | 70=>145 | 37=>22 | 75=>106 | 127=>178 | 164=>197 | 5=>5 | 80=>151 | n=>n,fun | n=>n⟩
theorem Tryz.lays156 : Go.Proofs.Lays.n156 Tryz.prog Tryz.lays156_ren:={
  mixed:=by kernel_rfl
  f156:=Tryz.func111.trans (congrArg some (by kernel_rfl))
  f165:=Tryz.func148.trans (congrArg some (by kernel_rfl))
  f166:=Tryz.func149.trans (congrArg some (by kernel_rfl))
  f169:=Tryz.func150.trans (congrArg some (by kernel_rfl))
  f240:=Tryz.func186.trans (congrArg some (by kernel_rfl))
  f241:=Tryz.func187.trans (congrArg some (by kernel_rfl))
  f276:=Tryz.func205.trans (congrArg some (by kernel_rfl))
  f277:=Tryz.func206.trans (congrArg some (by kernel_rfl))
  t0:=Tryz.underlying0
  a0:=Tryz.isAgg0
  z0:=Tryz.sizeOf0
  v0:=Tryz.zeroValue0
  t3:=Tryz.underlying3
  a3:=Tryz.isAgg3
  z3:=Tryz.sizeOf3
  v3:=Tryz.zeroValue3
  t4:=Tryz.underlying4
  a4:=Tryz.isAgg4
  z4:=Tryz.sizeOf4
  v4:=Tryz.zeroValue4
  t9:=Tryz.underlying9
  a9:=Tryz.isAgg9
  z9:=Tryz.sizeOf9
  v9:=Tryz.zeroValue9
  t20:=Tryz.underlying20
  a20:=Tryz.isAgg20
  z20:=Tryz.sizeOf20
  v20:=Tryz.zeroValue20
  t31:=Tryz.underlying74
  a31:=Tryz.isAgg74
  z31:=Tryz.sizeOf74
  v31:=Tryz.zeroValue74
  t37:=Tryz.underlying22
  a37:=Tryz.isAgg22
  z37:=Tryz.sizeOf22
  v37:=Tryz.zeroValue22
  t70:=Tryz.underlying145
  a70:=Tryz.isAgg145
  z70:=Tryz.sizeOf145
  v70:=Tryz.zeroValue145
  t72:=Tryz.underlying147
  a72:=Tryz.isAgg147
  z72:=Tryz.sizeOf147
  v72:=Tryz.zeroValue147
  t75:=Tryz.underlying106
  a75:=Tryz.isAgg106
  z75:=Tryz.sizeOf106
  v75:=Tryz.zeroValue106
  t76:=Tryz.underlying149
  a76:=Tryz.isAgg149
  z76:=Tryz.sizeOf149
  v76:=Tryz.zeroValue149
  t127:=Tryz.underlying178
  a127:=Tryz.isAgg178
  z127:=Tryz.sizeOf178
  v127:=Tryz.zeroValue178
  t164:=Tryz.underlying197
  a164:=Tryz.isAgg197
  z164:=Tryz.sizeOf197
  v164:=Tryz.zeroValue197 }
def Tryz.lays146_ren : Go.Shelf.Ren:=⟨fun | 146=>31 | 221=>68 | 268=>104 | 138=>105 | 143=>106 | 195=>137 | 197=>138 | 218=>139 | 219=>140 | 260=>172 | 217=>173 | 225=>174 | 224=>175 | 267=>176 | 266=>197 | 314=>198 | n=>n,fun | 9=>9 | 31=>74 | 3=>3 | 4=>4 | 0=>0 | 105=>135 | 21=>21 | 5=>5 | 46=>95 | 119=>182 | 139=>185 | 138=>184 | 146=>187 | 51=>186 | n=>n,fun | 1=>0 | 3=>3 | 4=>4 | n=>n⟩
theorem Tryz.lays146 : Go.Proofs.Lays.n146 Tryz.prog Tryz.lays146_ren:={
  mixed:=by kernel_rfl
  f138:=Tryz.func105.trans (congrArg some (by kernel_rfl))
  f143:=Tryz.func106.trans (congrArg some (by kernel_rfl))
  f146:=Tryz.func31.trans (congrArg some (by kernel_rfl))
  f195:=Tryz.func137.trans (congrArg some (by kernel_rfl))
  f197:=Tryz.func138.trans (congrArg some (by kernel_rfl))
  f217:=Tryz.func173.trans (congrArg some (by kernel_rfl))
  f218:=Tryz.func139.trans (congrArg some (by kernel_rfl))
  f219:=Tryz.func140.trans (congrArg some (by kernel_rfl))
  f221:=Tryz.func68.trans (congrArg some (by kernel_rfl))
  f224:=Tryz.func175.trans (congrArg some (by kernel_rfl))
  f225:=Tryz.func174.trans (congrArg some (by kernel_rfl))
  f260:=Tryz.func172.trans (congrArg some (by kernel_rfl))
  f266:=Tryz.func197.trans (congrArg some (by kernel_rfl))
  f267:=Tryz.func176.trans (congrArg some (by kernel_rfl))
  f268:=Tryz.func104.trans (congrArg some (by kernel_rfl))
  f314:=Tryz.func198.trans (congrArg some (by kernel_rfl))
  t0:=Tryz.underlying0
  a0:=Tryz.isAgg0
  z0:=Tryz.sizeOf0
  v0:=Tryz.zeroValue0
  t3:=Tryz.underlying3
  a3:=Tryz.isAgg3
  z3:=Tryz.sizeOf3
  v3:=Tryz.zeroValue3
  t4:=Tryz.underlying4
  a4:=Tryz.isAgg4
  z4:=Tryz.sizeOf4
  v4:=Tryz.zeroValue4
  t5:=Tryz.underlying5
  a5:=Tryz.isAgg5
  z5:=Tryz.sizeOf5
  v5:=Tryz.zeroValue5
  t9:=Tryz.underlying9
  a9:=Tryz.isAgg9
  z9:=Tryz.sizeOf9
  v9:=Tryz.zeroValue9
  t21:=Tryz.underlying21
  a21:=Tryz.isAgg21
  z21:=Tryz.sizeOf21
  v21:=Tryz.zeroValue21
  t31:=Tryz.underlying74
  a31:=Tryz.isAgg74
  z31:=Tryz.sizeOf74
  v31:=Tryz.zeroValue74
  t46:=Tryz.underlying95
  a46:=Tryz.isAgg95
  z46:=Tryz.sizeOf95
  v46:=Tryz.zeroValue95
  t51:=Tryz.underlying186
  a51:=Tryz.isAgg186
  z51:=Tryz.sizeOf186
  v51:=Tryz.zeroValue186
  t105:=Tryz.underlying135
  a105:=Tryz.isAgg135
  z105:=Tryz.sizeOf135
  v105:=Tryz.zeroValue135
  t119:=Tryz.underlying182
  a119:=Tryz.isAgg182
  z119:=Tryz.sizeOf182
  t138:=Tryz.underlying184
  a138:=Tryz.isAgg184
  z138:=Tryz.sizeOf184
  v138:=Tryz.zeroValue184
  t139:=Tryz.underlying185
  a139:=Tryz.isAgg185
  z139:=Tryz.sizeOf185
  v139:=Tryz.zeroValue185
  t146:=Tryz.underlying187
  a146:=Tryz.isAgg187
  z146:=Tryz.sizeOf187
  v146:=Tryz.zeroValue187
  g1:=by kernel_rfl
  g3:=by kernel_rfl
  g4:=by kernel_rfl }
def Tryz.laysC174_ren : Go.Shelf.Ren:=⟨fun | 174=>69 | 247=>107 | 245=>108 | 287=>141 | 279=>142 | 280=>143 | 281=>144 | 282=>145 | 321=>177 | 322=>178 | 316=>179 | 171=>181 | 205=>180 | 243=>199 | 246=>146 | 283=>182 | 284=>183 | 285=>184 | 286=>185 | 129=>201 | 317=>200 | 318=>202 | 319=>203 | 320=>204 | 337=>209 | 338=>210 | n=>n,fun | 9=>9 | 3=>3 | 2=>2 | 75=>106 | 85=>107 | 4=>4 | 167=>138 | 5=>5 | 53=>82 | 175=>139 | 46=>95 | 168=>141 | 37=>22 | 0=>0 | 210=>170 | 21=>21 | 127=>178 | 145=>191 | 143=>189 | 171=>173 | 173=>176 | 212=>193 | 51=>186 | 20=>20 | 213=>194 | 232=>201 | 233=>202 | 80=>151 | n=>n,fun | 15=>1 | 16=>2 | 17=>5 | 18=>8 | 19=>9 | n=>n⟩
theorem Tryz.laysC174 : Go.Proofs.LaysC.n174 Tryz.prog Tryz.laysC174_ren:={
  mixed:=by kernel_rfl
  f129:=Tryz.func201.trans (congrArg some (by kernel_rfl))
  f171:=Tryz.func181.trans (congrArg some (by kernel_rfl))
  f174:=Tryz.func69.trans (congrArg some (by kernel_rfl))
  f205:=Tryz.func180.trans (congrArg some (by kernel_rfl))
  f243:=Tryz.func199.trans (congrArg some (by kernel_rfl))
  f245:=Tryz.func108.trans (congrArg some (by kernel_rfl))
  f246:=Tryz.func146.trans (congrArg some (by kernel_rfl))
  f247:=Tryz.func107.trans (congrArg some (by kernel_rfl))
  f279:=Tryz.func142.trans (congrArg some (by kernel_rfl))
  f280:=Tryz.func143.trans (congrArg some (by kernel_rfl))
  f281:=Tryz.func144.trans (congrArg some (by kernel_rfl))
  f282:=Tryz.func145.trans (congrArg some (by kernel_rfl))
  f283:=Tryz.func182.trans (congrArg some (by kernel_rfl))
  f284:=Tryz.func183.trans (congrArg some (by kernel_rfl))
  f285:=Tryz.func184.trans (congrArg some (by kernel_rfl))
  f286:=Tryz.func185.trans (congrArg some (by kernel_rfl))
  f287:=Tryz.func141.trans (congrArg some (by kernel_rfl))
  f316:=Tryz.func179.trans (congrArg some (by kernel_rfl))
  f317:=Tryz.func200.trans (congrArg some (by kernel_rfl))
  f318:=Tryz.func202.trans (congrArg some (by kernel_rfl))
  f319:=Tryz.func203.trans (congrArg some (by kernel_rfl))
  f320:=Tryz.func204.trans (congrArg some (by kernel_rfl))
  f321:=Tryz.func177.trans (congrArg some (by kernel_rfl))
  f322:=Tryz.func178.trans (congrArg some (by kernel_rfl))
  f337:=Tryz.func209.trans (congrArg some (by kernel_rfl))
  f338:=Tryz.func210.trans (congrArg some (by kernel_rfl))
  t0:=Tryz.underlying0
  a0:=Tryz.isAgg0
  z0:=Tryz.sizeOf0
  v0:=Tryz.zeroValue0
  t2:=Tryz.underlying2
  a2:=Tryz.isAgg2
  z2:=Tryz.sizeOf2
  v2:=Tryz.zeroValue2
  t3:=Tryz.underlying3
  a3:=Tryz.isAgg3
  z3:=Tryz.sizeOf3
  v3:=Tryz.zeroValue3
  t4:=Tryz.underlying4
  a4:=Tryz.isAgg4
  z4:=Tryz.sizeOf4
  v4:=Tryz.zeroValue4
  t5:=Tryz.underlying5
  a5:=Tryz.isAgg5
  z5:=Tryz.sizeOf5
  v5:=Tryz.zeroValue5
  t9:=Tryz.underlying9
  a9:=Tryz.isAgg9
  z9:=Tryz.sizeOf9
  v9:=Tryz.zeroValue9
  t20:=Tryz.underlying20
  a20:=Tryz.isAgg20
  z20:=Tryz.sizeOf20
  v20:=Tryz.zeroValue20
  t21:=Tryz.underlying21
  a21:=Tryz.isAgg21
  z21:=Tryz.sizeOf21
  v21:=Tryz.zeroValue21
  t37:=Tryz.underlying22
  a37:=Tryz.isAgg22
  z37:=Tryz.sizeOf22
  v37:=Tryz.zeroValue22
  t46:=Tryz.underlying95
  a46:=Tryz.isAgg95
  z46:=Tryz.sizeOf95
  v46:=Tryz.zeroValue95
  t51:=Tryz.underlying186
  a51:=Tryz.isAgg186
  z51:=Tryz.sizeOf186
  v51:=Tryz.zeroValue186
  t53:=Tryz.underlying82
  a53:=Tryz.isAgg82
  z53:=Tryz.sizeOf82
  v53:=Tryz.zeroValue82
  t75:=Tryz.underlying106
  a75:=Tryz.isAgg106
  z75:=Tryz.sizeOf106
  v75:=Tryz.zeroValue106
  t85:=Tryz.underlying107
  a85:=Tryz.isAgg107
  z85:=Tryz.sizeOf107
  v85:=Tryz.zeroValue107
  t127:=Tryz.underlying178
  a127:=Tryz.isAgg178
  z127:=Tryz.sizeOf178
  v127:=Tryz.zeroValue178
  t143:=Tryz.underlying189
  a143:=Tryz.isAgg189
  z143:=Tryz.sizeOf189
  v143:=Tryz.zeroValue189
  t145:=Tryz.underlying191
  a145:=Tryz.isAgg191
  z145:=Tryz.sizeOf191
  v145:=Tryz.zeroValue191
  t167:=Tryz.underlying138
  a167:=Tryz.isAgg138
  z167:=Tryz.sizeOf138
  v167:=Tryz.zeroValue138
  t168:=Tryz.underlying141
  a168:=Tryz.isAgg141
  z168:=Tryz.sizeOf141
  v168:=Tryz.zeroValue141
  t171:=Tryz.underlying173
  a171:=Tryz.isAgg173
  z171:=Tryz.sizeOf173
  v171:=Tryz.zeroValue173
  t173:=Tryz.underlying176
  a173:=Tryz.isAgg176
  z173:=Tryz.sizeOf176
  v173:=Tryz.zeroValue176
  t175:=Tryz.underlying139
  a175:=Tryz.isAgg139
  z175:=Tryz.sizeOf139
  v175:=Tryz.zeroValue139
  t210:=Tryz.underlying170
  a210:=Tryz.isAgg170
  z210:=Tryz.sizeOf170
  v210:=Tryz.zeroValue170
  t212:=Tryz.underlying193
  a212:=Tryz.isAgg193
  z212:=Tryz.sizeOf193
  v212:=Tryz.zeroValue193
  t213:=Tryz.underlying194
  a213:=Tryz.isAgg194
  z213:=Tryz.sizeOf194
  t232:=Tryz.underlying201
  a232:=Tryz.isAgg201
  z232:=Tryz.sizeOf201
  v232:=Tryz.zeroValue201
  t233:=Tryz.underlying202
  a233:=Tryz.isAgg202
  z233:=Tryz.sizeOf202
  v233:=Tryz.zeroValue202
  g15:=by kernel_rfl
  g16:=by kernel_rfl
  g17:=by kernel_rfl
  g18:=by kernel_rfl
  g19:=by kernel_rfl
  t80:=Tryz.underlying151
  a80:=Tryz.isAgg151
  z80:=Tryz.sizeOf151
  v80:=Tryz.zeroValue151
  i0:=by kernel_rfl
  i2:=by kernel_rfl
  i3:=by kernel_rfl
  i4:=by kernel_rfl
  i5:=by kernel_rfl
  i9:=by kernel_rfl
  i20:=by kernel_rfl
  i21:=by kernel_rfl
  i37:=by kernel_rfl
  i46:=by kernel_rfl
  i51:=by kernel_rfl
  i53:=by kernel_rfl
  i75:=by kernel_rfl
  i80:=by kernel_rfl
  i85:=by kernel_rfl
  i127:=by kernel_rfl
  i143:=by kernel_rfl
  i145:=by kernel_rfl
  i167:=by kernel_rfl
  i168:=by kernel_rfl
  i171:=by kernel_rfl
  i173:=by kernel_rfl
  i175:=by kernel_rfl
  i210:=by kernel_rfl
  i212:=by kernel_rfl
  i232:=by kernel_rfl
  i233:=by kernel_rfl
  m15:=by kernel_rfl
  m16:=by kernel_rfl
  m17:=by kernel_rfl
  m18:=by kernel_rfl
  m19:=by kernel_rfl
  c0:=by kernel_rfl
  c2:=by kernel_rfl
  c3:=by kernel_rfl
  c4:=by kernel_rfl
  c5:=by kernel_rfl
  c9:=by kernel_rfl
  c20:=by kernel_rfl
  c21:=by kernel_rfl
  c37:=by kernel_rfl
  c46:=by kernel_rfl
  c51:=by kernel_rfl
  c53:=by kernel_rfl
  c75:=by kernel_rfl
  c80:=by kernel_rfl
  c85:=by kernel_rfl
  c127:=by kernel_rfl
  c143:=by kernel_rfl
  c145:=by kernel_rfl
  c167:=by kernel_rfl
  c168:=by kernel_rfl
  c171:=by kernel_rfl
  c173:=by kernel_rfl
  c175:=by kernel_rfl
  c210:=by kernel_rfl
  c212:=by kernel_rfl
  c213:=by kernel_rfl
  c232:=by kernel_rfl
  c233:=by kernel_rfl }
end Go.Proofs
namespace Go.Proofs.YtfhnlkinjbakgaaGreatDoor.PFnShifts
open Go.RowKit Go.Proofs.YtfhnlkinjbakgaaGreatDoorW.PrintWords Go.Proofs.YtfhnlkinjbakgaaGreatDoorW.PrintLast Go.Proofs.YtfhnlkinjbakgaaGreatDoorW.PrintMore
set_option linter.unusedVariables false
set_option linter.unusedSimpArgs false
def Tab (w : World) : Prop := Lib.TabIs Tryz.prog w "internal/strconv.uint64pow10" .u64 Lib.pow10Tab
theorem tab_below {w w' : World} (h : Tab w) (hb : Below w.heap.size w w') : Tab w':=by
  have hg : Tryz.prog.globalNamed "internal/strconv.uint64pow10" = some (Tryz.laysM173_ren.g 17) := Tryz.laysM173.m17
  unfold Tab Lib.TabIs World.var? at h ⊢
  rw [hg] at h ⊢
  simp only [Option.bind_some] at h ⊢
  have hlt : Tryz.laysM173_ren.g 17 < w.heap.size:=by
    rcases Nat.lt_or_ge (Tryz.laysM173_ren.g 17) w.heap.size with h' | h'
    · exact h'
    · rw [Array.getElem?_eq_none h'] at h; cases h
  rw [hb.block _ hlt]
  exact h
def its (n : Int) : ByteArray:=⟨(Lib.itoa n).toArray⟩
theorem formatInt (n : Int) (h0 : -9223372036854775808 ≤ n) (h1 : n ≤ 9223372036854775807) (w : World) (htab : Tab w) :
    Calls Tryz.prog 109 #[.int .i64 n,.int .i64 10] w fun e w'=>e = .returned (.string (its n)) ∧ Below w.heap.size w w':=by
  refine (Any.strconv_FormatInt_10 Tryz.laysM173 n h0 h1 w htab).mono ?_
  rintro e w' ⟨rfl,k,os,rfl⟩
  exact ⟨rfl,Lib.below_grow _ _ (Nat.le_refl _) _ _⟩
theorem info9 : (Tryz.prog.info? 9).map (fun i=>(i.zero,i.size,i.bytes)) = some (some (.string ByteArray.empty),1,16):=by kernel_rfl
theorem Tryz.extra156 : Builder.Extra Tryz.prog Tryz.lays156_ren:={
  sizeBuilder:=by kernel_rfl
  liesBuilder:=by kernel_rfl
  t5:=Tryz.underlying5
  a5:=Tryz.isAgg5
  z5:=Tryz.sizeOf5
  v5:=Tryz.zeroValue5
  infoByte:=by kernel_rfl
  cellsByte:=by kernel_rfl
  sizeByte:=by kernel_rfl
  neB5:=by decide }
theorem decimal_calls (n : Int) (h0 : -9223372036854775808 ≤ n) (h1 : n ≤ 9223372036854775807) (w : World) (htab : Tab w) :
    Calls Tryz.prog 70 #[.int .i64 n] w fun e w'=>e = .returned (.string (its n)) ∧ Below w.heap.size w w':=by
  go_enter Tryz.func70,Tryz.ntmps70
  go_wp2_with (go_at_call 109; refine (formatInt n h0 h1 _ htab).mono ?_; rintro e w' ⟨rfl,hb⟩)
  go_ret
  exact ⟨rfl,hb⟩
theorem stringsJoin (bk c : Nat) (xs : List ByteArray) (w : World) (hcells : ∀ (j : Nat) x,xs[j]? = some x → w.cell? ⟨bk,0 + j,none⟩ = some (.string x))
    (hbk : bk < w.heap.size) (hN : xs.length ≤ 140737488355328) (hcap : xs.length ≤ c) (hlen : (Lib.join (xs.map (·.data.toList)) [32]).length ≤ 140737488355328) :
    Calls Tryz.prog 111 #[.slice (some ⟨bk,0,none⟩) xs.length c,.string ⟨#[32]⟩] w fun e w'=>e = .returned (.string ⟨(Lib.join (xs.map (·.data.toList)) [32]).toArray⟩) ∧ Below w.heap.size w w':=
  Any.strings_Join Tryz.lays156 Tryz.extra156 bk 0 c xs ⟨#[32]⟩ w hcells hbk hN hcap hlen
def stateOf (l : List Int) (j : Nat) : List ByteArray:=(l.take j).map its ++ List.replicate (l.length - j) ByteArray.empty
theorem stateOf_length (l : List Int) {j : Nat} (h : j ≤ l.length) : (stateOf l j).length = l.length:=by
  unfold stateOf
  rw [List.length_append,List.length_map,List.length_take,List.length_replicate]
  omega
theorem stateOf_next (l : List Int) (i : Int) (h0 : 0 ≤ i) (h1 : i < (l.length : Int)) : (stateOf l i.toNat).set i.toNat (its (rd l i)) = stateOf l (i + 1).toNat:=by
  obtain ⟨j,rfl⟩:=Int.eq_ofNat_of_zero_le h0
  have hj : j < l.length:=by omega
  rw [show ((j : Int)).toNat = j from rfl,show ((j : Int) + 1).toNat = j + 1 by omega]
  have hr : rd l (j : Int) = l[j]:=by
    unfold rd
    simp [hj]
  unfold stateOf
  rw [hr,List.set_append_right _ _ (by rw [List.length_map,List.length_take]; omega),List.take_succ_eq_append_getElem hj,List.map_append,List.length_map,List.length_take,show j - min j l.length = 0 by omega,
    show l.length - j = (l.length - (j + 1)) + 1 by omega,List.replicate_succ]
  simp
theorem its_data (l : List Int) : (l.map its).map (·.data.toList) = l.map Lib.itoa:=by
  rw [List.map_map]
  exact List.map_congr_left fun n _=>by simp [its]
theorem join_len_le (Y : List (List UInt8)) (c : UInt8) : (Lib.join Y [c]).length ≤ Lib.lens Y + Y.length:=by
  cases Y with
  | nil=>simp [Lib.join_nil]
  | cons x r=>
    rw [Lib.join_length]
    simp
    omega
theorem join_its_short (l : List Int) (hl : l.length ≤ 100) (hin : ∀ i : Int,0 ≤ i → i < (l.length : Int) → -9223372036854775808 ≤ rd l i ∧ rd l i ≤ 9223372036854775807) : (Lib.join ((l.map its).map (·.data.toList)) [32]).length ≤ 140737488355328:=by
  rw [its_data]
  have one : ∀ x ∈ l,(Lib.itoa x).length ≤ 21:=fun x hx=>by
    obtain ⟨j,hj,rfl⟩:=List.getElem_of_mem hx
    have:=hin (j : Int) (by omega) (by omega)
    have e : rd l (j : Int) = l[j]:=by
      unfold rd
      simp [hj]
    rw [e] at this
    exact Lib.itoa_length_le _ this.1 this.2
  have h1:=join_len_le (l.map Lib.itoa) 32
  have h2 : ∀ l : List Int,(∀ x ∈ l,(Lib.itoa x).length ≤ 21) → Lib.lens (l.map Lib.itoa) ≤ 21 * l.length:=fun l=>by
    induction l with
    | nil=>intro _; simp [Lib.lens]
    | cons a l ih=>
      intro h
      have q1:=ih fun x hx=>h x (List.mem_cons_of_mem _ hx)
      have q2:=h a (List.mem_cons_self ..)
      simp only [List.map_cons,Lib.lens,List.length_cons] at q1 ⊢
      simp only [List.map_cons,List.sum_cons] at q1 ⊢
      omega
  have h3:=h2 l one
  rw [List.length_map] at h1
  omega
set_option maxHeartbeats 8000000 in
set_option maxRecDepth 100000 in
theorem joined_calls (A0 : Option Addr) (c0 : Nat) (l0 : List Int) (w : World) (hr0 : Kd.C (Kd.int .i64) w A0 l0.length l0) (hc0 : l0.length ≤ c0) (hl : 0 < l0.length) (hl2 : l0.length ≤ 100)
    (hin : ∀ i : Int,0 ≤ i → i < (l0.length : Int) → -9223372036854775808 ≤ rd l0 i ∧ rd l0 i ≤ 9223372036854775807) (htab : Tab w) :
    Calls Tryz.prog 72 #[.slice A0 l0.length c0] w fun e w'=>e = .returned (.string ⟨(Lib.join (l0.map Lib.itoa) [32]).toArray⟩) ∧ Below w.heap.size w w':=by
  have HR0:=Aside0.mk hr0
  have HC0:=Aside0.mk hc0
  have HT:=Aside0.mk htab
  have HL:=Aside0.mk hl
  have HL2:=Aside0.mk hl2
  have HI:=Aside0.mk hin
  clear hr0 hc0 htab hl hl2 hin
  have HB:=Aside0.mk (Below.refl w.heap.size w)
  have c2b0 : (0 ≤ (l0.length : Int)) = True:=eq_true (by omega)
  have c2b1 : decide (0 ≤ (l0.length : Int)) = true:=decide_eq_true (by omega)
  have c3b1 : decide (((l0.length : Int) : Int).toNat ≤ 17592186044416) = true:=decide_eq_true (by have:=HL2.out; omega)
  obtain ⟨y125,hy125⟩ : ∃ y_ : List ByteArray,y_ = (List.replicate ((l0.length : Int) : Int).toNat ByteArray.empty):=⟨_,rfl⟩
  have Ny125:=Aside0.mk hy125
  clear hy125
  obtain ⟨k,hk⟩ : ∃ k,k = l0.length + 1:=⟨_,rfl⟩
  have HK:=Aside0.mk hk
  clear hk
  go_enter Tryz.func72,Tryz.ntmps72
  go_wp2_with (first | ((with_reducible refine gate_dst (N:=8) rfl ?_); refine Kd.R_make Kd.string _ 9 rfl (N:=8) rfl 74 _ _ rfl (l0.length : Int) rfl rfl Tryz.underlying74 (.string ByteArray.empty) 16 info9 rfl (by decide) (by omega) ByteArray.empty (ok:=fun _=>True) (okp:=fun _=>True) ?hM (fun _ hk=>hk) trivial (of_decide_eq_true (by first | (with_reducible assumption) | assumption)) (Nat.le_trans (Nat.mul_le_mul_right _ (of_decide_eq_true (by first | (with_reducible assumption) | assumption) : (l0.length : Int).toNat ≤ 17592186044416)) (by omega)) (Below.refl _ _) (Nat.le_refl _) ?_; (case hM=>exact rfl); intro v126 w4 ho5 hb hg_ hnew_; clear hg_ hnew_; (first | rw [← Ny125.out] at ho5 | (simp only [Int.reduceToNat] at ho5; rw [← Ny125.out] at ho5)); have n0_:=Aside0.mk (Kd.R_lower ho5 (below_size (by repeat (first | (with_reducible first | exact HB.out | apply below_alloc | apply pw_below_drewN | apply below_drew1) | exact HB.out)))); have n1_:=Aside0.mk (below_step (by repeat (first | (with_reducible first | exact HB.out | apply below_alloc | apply pw_below_drewN | apply below_drew1) | exact HB.out)) hb); clear HB; have HO127:=n0_; have HB:=n1_; clear n0_ n1_; clear hb ho5))
  go_loopg [11] k (fun kq v11 w'=>∃ (x3_1 : List ByteArray) (x4_1 : Int),v11 = .int .i64 x4_1 ∧ Aside0 (0 ≤ x4_1 ∧ x4_1 ≤ (l0.length : Int) ∧ (kq : Int) + x4_1 = l0.length + 1 ∧ x3_1 = stateOf l0 x4_1.toNat) ∧ Aside0 (kq ≤ k) ∧ Aside0 (Kd.R Kd.string 9 w' w.heap.size (fun _=>True) v126 x3_1) ∧ Aside0 (Below w.heap.size w w'))
  case atStart=>exact ⟨y125,0,rfl,⟨Int.le_refl _,by omega,by have:=HK.out; omega,by rw [Ny125.out]; unfold stateOf; simp⟩,⟨Nat.le_refl _⟩,⟨by (with_reducible repeat (first | apply Kd.R_alloc | apply Kd.R_drewN | apply Kd.R_drew)); exact HO127.out⟩,⟨(by repeat (first | (with_reducible first | exact HB.out | apply below_alloc | apply pw_below_drewN | apply below_drew1) | exact HB.out))⟩⟩
  case round=>
    try clear c2b0
    try clear c2b1
    try clear c3b1
    try clear p2
    obtain ⟨x3_1,x4_1,rfl,HA,HK1,HO_3,HB⟩:=hrel
    have ha0 : 0 ≤ x4_1:=HA.out.1
    have ha3 : x4_1 ≤ (l0.length : Int):=HA.out.2.1
    have ha1 : (gk : Int) + x4_1 = l0.length + 1:=HA.out.2.2.1
    have ha2 : x3_1 = stateOf l0 x4_1.toNat:=HA.out.2.2.2
    clear HA
    have HA2:=Aside0.mk ha2
    by_cases c6 : x4_1 < (l0.length : Int)
    · have hlen : x3_1.length = l0.length:=by rw [ha2]; exact stateOf_length _ (by omega)
      clear ha2
      have c6b0 : decide (x4_1 < (l0.length : Int)) = true:=decide_eq_true c6
      have c7b0 : decide (0 ≤ x4_1) = true:=decide_eq_true ha0
      have c9b0 : decide (x4_1 < (x3_1.length : Int)) = true:=decide_eq_true (by omega)
      have HW:=Aside0.mk (show wrap64 (x4_1 + 1) = x4_1 + 1 by have:=HL2.out; unfold wrap64; omega)
      obtain ⟨k1,hk1⟩ : ∃ k1,gk = k1 + 1:=⟨gk - 1,by omega⟩
      subst hk1
      have HX:=Aside0.mk ha1
      obtain ⟨hi0,hi1⟩:=HI.out x4_1 ha0 c6
      have HI0:=Aside0.mk hi0
      have HI1:=Aside0.mk hi1
      have HA0:=Aside0.mk ha0
      have HC6:=Aside0.mk c6
      clear hi0 hi1 ha1 hlen ha0 c6 ha3
      obtain ⟨y131,hy131⟩ : ∃ y_ : List ByteArray,y_ = x3_1.set (x4_1 : Int).toNat (its (rd l0 x4_1)):=⟨_,rfl⟩
      have Ny131:=Aside0.mk hy131
      clear hy131
      have p128 : 0 ≤ (x4_1 : Int):=of_decide_eq_true (by first | (with_reducible assumption) | assumption)
      have q128 : x4_1 < (l0.length : Int):=of_decide_eq_true (by first | (with_reducible assumption) | assumption)
      obtain ⟨ad128,e128,hx128_0⟩:=Kd.at_int HR0.out x4_1 p128 q128
      cases e128
      replace hx128_0:=(HB.out.cell (World.block_lt_of_cell? w _ hx128_0)).trans hx128_0
      replace p128:=eq_true p128
      replace q128:=eq_true q128
      go_wp2_with (first | ((with_reducible refine gate_callee (f:=70) rfl ?_); refine goesL_ (some 19) rfl rfl Tryz.func70 (by kernel_rfl) rfl #[.int .i64 (rd l0 x4_1)] rfl (by (try simp only [List.map_toArray,List.map_cons,List.map_nil]); first | done | rfl) ?_; (with_reducible refine (decimal_calls (rd l0 x4_1) HI0.out HI1.out _ (tab_below HT.out (by repeat (first | (with_reducible first | exact HB.out | apply below_alloc | apply pw_below_drewN | apply below_drew1) | exact HB.out)))).mono ?_); rintro e w11 ⟨rfl,hb⟩; refine ⟨_,rfl,?_⟩; have n0_:=Aside0.mk (Kd.R_below (by (with_reducible repeat (first | apply Kd.R_alloc | apply Kd.R_drewN | apply Kd.R_drew)); exact HO_3.out) hb); have n1_:=Aside0.mk (below_step (by repeat (first | (with_reducible first | exact HB.out | apply below_alloc | apply pw_below_drewN | apply below_drew1) | exact HB.out)) hb); clear HO_3; clear HB; have HO_3:=n0_; have HB:=n1_; clear n0_ n1_; (try clear hb); have p10 : 0 ≤ (x4_1 : Int):=of_decide_eq_true (by first | (with_reducible assumption) | assumption); have q10 : (x4_1 : Int) < ((x3_1.length : Int) : Int):=of_decide_eq_true (by first | (with_reducible assumption) | assumption); obtain ⟨go10,co10,eo10,gb10,gl10,cl10,HG10⟩:=Kd.R_form HO_3.out (by omega); (first | cases eo10 | (injection eo10 with ea_ en_ ec_; (first | subst ea_ | (injection ea_ with ea_; subst ea_)); subst ec_; clear en_)); have GB10:=Aside0.mk gb10; clear gb10 gl10 HG10; obtain ⟨hx10,hf10⟩:=Kd.R_cell ByteArray.empty HO_3.out x4_1 p10 q10; have HP12:=Kd.R_putg HO_3.out x4_1 (its (rd l0 x4_1)); replace p10:=eq_true p10; replace q10:=eq_true q10) | ((with_reducible refine gate_store (t:=9) (p:=20) rfl ?_); refine store_event (t:=9) (p:=20) (v:=?vo_w13) (w1:=(w11.setCell ⟨go10,(x4_1 : Int).toNat,none⟩ (.string (its (rd l0 x4_1))))) ?hg ?ho ?hn ?hr ?_; (case ho=>rfl); (case hg=>rfl); (case hn=>rfl); (case hr=>first | (go_simp; done) | (go_simp; rfl)); intro w13 hw; have hp_ : Kd.R Kd.string 9 w13 w.heap.size (fun _=>True) (.slice (some ⟨go10,0,none⟩) x3_1.length co10) y131:=(by rw [hw,Ny131.out]; exact HP12.1); clear HP12; have n0_:=Aside0.mk (hp_); have n1_:=Aside0.mk ((by rw [hw]; exact below_set (HB.out) GB10.out : Below w.heap.size w w13)); clear HO_3; clear HB; have HO_3:=n0_; have HB:=n1_; clear n0_ n1_; clear hw hp_))
      go_roundg k1
      case measure=>have:=HK1.out; omega
      case rel=>exact ⟨y131,(wrap64 (x4_1 + 1)),(by first | rfl | (simp; done) | (simp [*]; done)),⟨by rw [HW.out]; have:=HA0.out; omega,by rw [HW.out]; have:=HC6.out; omega,by rw [HW.out]; have:=HX.out; omega,by rw [HW.out,Ny131.out,HA2.out]; exact stateOf_next l0 x4_1 HA0.out HC6.out⟩,⟨by have:=HK1.out; omega⟩,⟨by (with_reducible repeat (first | apply Kd.R_alloc | apply Kd.R_drewN | apply Kd.R_drew)); exact HO_3.out⟩,⟨(by repeat (first | (with_reducible first | exact HB.out | apply below_alloc | apply pw_below_drewN | apply below_drew1) | exact HB.out))⟩⟩
    · have he : x3_1 = l0.map its:=by
        rw [ha2]
        unfold stateOf
        rw [List.take_of_length_le (by omega),show l0.length - x4_1.toNat = 0 by omega]
        simp
      have HE:=Aside0.mk he
      clear he
      have c6b0 : decide (x4_1 < (l0.length : Int)) = false:=decide_eq_false c6
      have hpos : 0 < x3_1.length:=by rw [HE.out,List.length_map]; exact HL.out
      obtain ⟨go10,co10,eo10,gb10,gl10,cl10,HG10⟩:=Kd.R_form HO_3.out hpos
      subst eo10
      clear HG10 ha2 ha1 ha0 ha3 c6
      have HG:=Aside0.mk gl10
      clear gl10 gb10
      have hcap : x3_1.length ≤ co10:=(Kd.R_reads' HO_3.out).2.1
      have HC:=Aside0.mk hcap
      clear hcap hpos
      have HCells:=Aside0.mk (show ∀ (j : Nat) x,x3_1[j]? = some x → wr.cell? ⟨go10,0 + j,none⟩ = some (.string x) from fun j x hj=>by
        obtain ⟨hlt,hx⟩:=List.getElem?_eq_some_iff.1 hj
        have:=(Kd.R_cell ByteArray.empty HO_3.out (j : Int) (by omega) (by omega)).1
        rw [show ((j : Int)).toNat = j from rfl] at this
        rw [Nat.zero_add,this]
        unfold rdOf
        simp [hlt,hx])
      have HN:=Aside0.mk (show x3_1.length ≤ 140737488355328 by rw [HE.out,List.length_map]; have:=HL2.out; omega)
      have HS:=Aside0.mk (show (Lib.join (x3_1.map (·.data.toList)) [32]).length ≤ 140737488355328 by rw [HE.out]; exact join_its_short l0 HL2.out HI.out)
      go_wp2_with (go_at_call 111; refine (stringsJoin go10 co10 x3_1 _ HCells.out HG.out HN.out HC.out HS.out).mono ?_; rintro e w9 ⟨rfl,hb⟩)
      go_ret
      refine ⟨?_,?_⟩
      · rw [HE.out,its_data]
        rfl
      · exact below_step HB.out hb
set_option maxHeartbeats 8000000 in
set_option maxRecDepth 100000 in
theorem shiftText_calls (a0 : Int) (a1 : Int) (a2 : Int) (a3 : Int) (a4 : Int) (a5 : Int) (a6 : Int) (ha0 : -9223372036854775808 ≤ a0 ∧ a0 ≤ 9223372036854775807) (ha1 : -9223372036854775808 ≤ a1 ∧ a1 ≤ 9223372036854775807) (ha2 : -9223372036854775808 ≤ a2 ∧ a2 ≤ 9223372036854775807) (ha3 : -9223372036854775808 ≤ a3 ∧ a3 ≤ 9223372036854775807) (ha4 : -9223372036854775808 ≤ a4 ∧ a4 ≤ 9223372036854775807) (ha5 : -9223372036854775808 ≤ a5 ∧ a5 ≤ 9223372036854775807) (ha6 : -9223372036854775808 ≤ a6 ∧ a6 ≤ 9223372036854775807) (w : World) (htab : Tab w) :
    Calls Tryz.prog 33 #[.agg #[.int .i64 a0,.int .i64 a1,.int .i64 a2,.int .i64 a3,.int .i64 a4,.int .i64 a5,.int .i64 a6]] w fun e w'=>e = .returned (.string ⟨(Lib.join (([a0,a1,a2,a3,a4,a5,a6] : List Int).map Lib.itoa) [32]).toArray⟩) ∧ Below w.heap.size w w':=by
  have hu25:=Tryz.underlying25
  have HT:=Aside0.mk htab
  have HB:=Aside0.mk (Below.refl w.heap.size w)
  obtain ⟨y,hy⟩ : ∃ y_ : List Int,y_ = ([a0,a1,a2,a3,a4,a5,a6] : List Int):=⟨_,rfl⟩
  have HL:=Aside0.mk (show 0 < y.length by rw [hy]; simp)
  have HL2:=Aside0.mk (show y.length ≤ 100 by rw [hy]; simp)
  have HI:=Aside0.mk (show ∀ i : Int,0 ≤ i → i < (y.length : Int) → -9223372036854775808 ≤ rd y i ∧ rd y i ≤ 9223372036854775807 by
    intro i h0 h1
    rw [hy] at h1 ⊢
    obtain ⟨j,rfl⟩:=Int.eq_ofNat_of_zero_le h0
    simp only [List.length_cons,List.length_nil] at h1
    have h2 : j = 0 ∨ j = 1 ∨ j = 2 ∨ j = 3 ∨ j = 4 ∨ j = 5 ∨ j = 6:=by omega
    rcases h2 with rfl | rfl | rfl | rfl | rfl | rfl | rfl
    · exact ha0
    · exact ha1
    · exact ha2
    · exact ha3
    · exact ha4
    · exact ha5
    · exact ha6)
  have Ny:=Aside0.mk hy
  clear hy ha0 ha1 ha2 ha3 ha4 ha5 ha6 htab
  go_enter Tryz.func33,Tryz.ntmps33
  go_wp2_with (first | ((with_reducible refine gate_dst (N:=1) rfl ?_); refine box_event ?hg (N:=1) ?hd (cs:=#[.int .i64 a0,.int .i64 a1,.int .i64 a2,.int .i64 a3,.int .i64 a4,.int .i64 a5,.int .i64 a6]) (t:=25) ?hr ?_; (case hd=>rfl); (case hg=>rfl); (case hr=>first | (go_simp; done) | (go_simp; rfl)); intro gb hg w7 hbox hb; have n0_:=Aside0.mk (below_step (by repeat (first | (with_reducible first | exact HB.out | apply below_alloc | apply pw_below_drewN | apply below_drew1) | exact HB.out)) hb); have n1_:=Aside0.mk (hbox); have n2_:=Aside0.mk ((by rw [hg]; exact (below_size (by repeat (first | (with_reducible first | exact HB.out | apply below_alloc | apply pw_below_drewN | apply below_drew1) | exact HB.out))) : w.heap.size ≤ gb)); clear HB; have HB:=n0_; have BK:=n1_; have GE:=n2_; clear n0_ n1_ n2_; clear hb hbox hg; have hcz_0 : w7.cell? ⟨gb,0,none⟩ = some (.int .i64 a0):=(blk_cell BK.out 0).trans rfl; have hcz_1 : w7.cell? ⟨gb,1,none⟩ = some (.int .i64 a1):=(blk_cell BK.out 1).trans rfl; have hcz_2 : w7.cell? ⟨gb,2,none⟩ = some (.int .i64 a2):=(blk_cell BK.out 2).trans rfl; have hcz_3 : w7.cell? ⟨gb,3,none⟩ = some (.int .i64 a3):=(blk_cell BK.out 3).trans rfl; have hcz_4 : w7.cell? ⟨gb,4,none⟩ = some (.int .i64 a4):=(blk_cell BK.out 4).trans rfl; have hcz_5 : w7.cell? ⟨gb,5,none⟩ = some (.int .i64 a5):=(blk_cell BK.out 5).trans rfl; have hcz_6 : w7.cell? ⟨gb,6,none⟩ = some (.int .i64 a6):=(blk_cell BK.out 6).trans rfl) | ((with_reducible refine gate_dst (N:=17) rfl ?_); refine Kd.R_lit (Kd.int .i64) _ 2 ?hg (N:=17) ?hd (xs:=([a0,a1,a2,a3,a4,a5,a6] : List Int)) (inner:=[.int .i64 a0,.int .i64 a1,.int .i64 a2,.int .i64 a3,.int .i64 a4,.int .i64 a5,.int .i64 a6]) (ok:=fun _=>True) (okp:=fun _=>True) ?hr ?hp (fun _ hk=>hk) trivial (Below.refl _ _) (Nat.le_refl _) (by simp) ?_; (case hd=>rfl); (case hg=>rfl); (case hr=>first | (go_simp; done) | (go_simp; rfl)); (case hp=>exact (Reps.one (show Kd.M (Kd.int .i64) _ _ _ a0 [.int .i64 a0] from rfl) (Reps.one (show Kd.M (Kd.int .i64) _ _ _ a1 [.int .i64 a1] from rfl) (Reps.one (show Kd.M (Kd.int .i64) _ _ _ a2 [.int .i64 a2] from rfl) (Reps.one (show Kd.M (Kd.int .i64) _ _ _ a3 [.int .i64 a3] from rfl) (Reps.one (show Kd.M (Kd.int .i64) _ _ _ a4 [.int .i64 a4] from rfl) (Reps.one (show Kd.M (Kd.int .i64) _ _ _ a5 [.int .i64 a5] from rfl) (Reps.one (show Kd.M (Kd.int .i64) _ _ _ a6 [.int .i64 a6] from rfl) (Reps.none _ _))))))))); intro v1 w9 ho hb hg_ hnew_; clear hg_ hnew_; (first | rw [← Ny.out] at ho | (simp only [Int.reduceToNat] at ho; rw [← Ny.out] at ho)); have n0_:=Aside0.mk (Kd.R_lower ho (below_size (by repeat (first | (with_reducible first | exact HB.out | apply below_alloc | apply pw_below_drewN | apply below_drew1 | refine below_set ?_ GE.out) | exact HB.out)))); have n2_:=Aside0.mk (below_step (by repeat (first | (with_reducible first | exact HB.out | apply below_alloc | apply pw_below_drewN | apply below_drew1 | refine below_set ?_ GE.out) | exact HB.out)) hb); clear HB; have HO:=n0_; have HB:=n2_; clear n0_ n2_; clear hb ho; obtain ⟨Ao,co,eo⟩:=Kd.R_slice HO.out; subst eo) | (go_at_call 72; refine (joined_calls _ _ y _ ?side1 ?side2 HL.out HL2.out HI.out (tab_below HT.out (by repeat (first | (with_reducible first | exact HB.out | apply below_alloc | apply pw_below_drewN | apply below_drew1 | refine below_set ?_ GE.out) | exact HB.out)))).mono ?_; (case side1=>repeat (first | exact (Kd.R_reads' HO.out).2.2 | (with_reducible refine Kd.C_alloc ?_ _) | (with_reducible refine Kd.C_drewN ?_ _) | (with_reducible refine Kd.C_drew ?_))); (case side2=>exact (Kd.R_reads' HO.out).2.1); rintro e w11 ⟨rfl,hb⟩))
  go_ret
  refine ⟨?_,?_⟩
  · rw [← Ny.out]
    rfl
  · exact below_step (by repeat (first | (with_reducible first | exact HB.out | apply below_alloc | apply pw_below_drewN | apply below_drew1 | refine below_set ?_ GE.out) | exact HB.out)) hb
def inB (L x : Int) : Bool:=decide (-L ≤ x) && decide (x ≤ L)
theorem within_f {L x : Int} (hL : 0 ≤ L ∧ L ≤ 4611686018427387904) : impl_within.f x (wrap64 (-L)) L = some (inB L x):=by
  have hw : wrap64 (-L) = -L:=by unfold wrap64; omega
  unfold impl_within.f inB
  rw [hw]
  by_cases h : x ≥ -L
  · rw [if_pos h,decide_eq_true (show -L ≤ x from h),Bool.true_and]
  · rw [if_neg h,decide_eq_false (show ¬ -L ≤ x from h),Bool.false_and]
theorem areWithin_step {L : Int} (hL : 0 ≤ L ∧ L ≤ 4611686018427387904) (k : Nat) (l : List Int) (i : Nat) (hi : i < l.length) (hl : l.length ≤ 100) :
    impl_areWithin.l0 (k + 1) L l (l.length : Int) (i : Int) = if inB L (rd l (i : Int)) = true then impl_areWithin.l0 k L l (l.length : Int) ((i + 1 : Nat) : Int) else some false:=by
  have hw : wrap64 ((i : Int) + 1) = ((i + 1 : Nat) : Int):=by unfold wrap64; omega
  conv=>lhs; unfold impl_areWithin.l0
  rw [if_pos (by omega : (i : Int) < (l.length : Int)),if_pos (by omega : 0 ≤ (i : Int)),if_pos (by omega : (i : Int) < (l.length : Int)),within_f hL,Option.bind_some,hw]
theorem areWithin_end {L : Int} (k : Nat) (l : List Int) : impl_areWithin.l0 (k + 1) L l (l.length : Int) (l.length : Int) = some true:=by
  unfold impl_areWithin.l0
  rw [if_neg (by omega)]
theorem areWithin3 {L : Int} (hL : 0 ≤ L ∧ L ≤ 4611686018427387904) (x y z : Int) : impl_areWithin.f 10 L [x,y,z] = some (inB L x && (inB L y && inB L z)):=by
  have s0:=areWithin_step hL 9 [x,y,z] 0 (by simp) (by simp)
  have s1:=areWithin_step hL 8 [x,y,z] 1 (by simp) (by simp)
  have s2:=areWithin_step hL 7 [x,y,z] 2 (by simp) (by simp)
  have e:=areWithin_end (L:=L) 6 [x,y,z]
  unfold impl_areWithin.f
  refine s0.trans ?_
  rw [s1,s2,show (((2 + 1 : Nat)) : Int) = (([x,y,z] : List Int).length : Int) from rfl,e]
  show (if inB L x = true then (if inB L y = true then (if inB L z = true then some true else some false) else some false) else some false) = _
  cases inB L x <;> cases inB L y <;> cases inB L z <;> rfl
theorem areWithin1 {L : Int} (hL : 0 ≤ L ∧ L ≤ 4611686018427387904) (x : Int) : impl_areWithin.f 10 L [x] = some (inB L x):=by
  have s0:=areWithin_step hL 9 [x] 0 (by simp) (by simp)
  have e:=areWithin_end (L:=L) 8 [x]
  unfold impl_areWithin.f
  refine s0.trans ?_
  rw [show (((0 + 1 : Nat)) : Int) = (([x] : List Int).length : Int) from rfl,e]
  show (if inB L x = true then some true else some false) = _
  cases inB L x <;> rfl
def okV (a0 : Int) (a1 : Int) (a2 : Int) (a3 : Int) (a4 : Int) (a5 : Int) (a6 : Int) : Bool:=(inB 10000000 a0 && (inB 10000000 a1 && inB 10000000 a2)) && ((inB 100000000 a3 && (inB 100000000 a4 && inB 100000000 a5)) && inB 1000000 a6)
theorem valid_f (a0 : Int) (a1 : Int) (a2 : Int) (a3 : Int) (a4 : Int) (a5 : Int) (a6 : Int) (ha0 : -9223372036854775808 ≤ a0 ∧ a0 ≤ 9223372036854775807) (ha1 : -9223372036854775808 ≤ a1 ∧ a1 ≤ 9223372036854775807) (ha2 : -9223372036854775808 ≤ a2 ∧ a2 ≤ 9223372036854775807) (ha3 : -9223372036854775808 ≤ a3 ∧ a3 ≤ 9223372036854775807) (ha4 : -9223372036854775808 ≤ a4 ∧ a4 ≤ 9223372036854775807) (ha5 : -9223372036854775808 ≤ a5 ∧ a5 ≤ 9223372036854775807) (ha6 : -9223372036854775808 ≤ a6 ∧ a6 ≤ 9223372036854775807) : impl_ValidShift.f 10 a0 a1 a2 a3 a4 a5 a6 = some (okV a0 a1 a2 a3 a4 a5 a6):=by
  unfold impl_ValidShift.f
  unfold okV
  rw [areWithin3 (by omega),areWithin3 (by omega),areWithin1 (by omega)]
  simp only [Option.bind_some]
  cases inB 10000000 a0 <;> cases inB 100000000 a3 <;> cases inB 10000000 a1 <;> cases inB 100000000 a4 <;> cases inB 10000000 a2 <;> cases inB 100000000 a5 <;> rfl
def textOf (a0 : Int) (a1 : Int) (a2 : Int) (a3 : Int) (a4 : Int) (a5 : Int) (a6 : Int) : ByteArray:=if okV a0 a1 a2 a3 a4 a5 a6 = true then ⟨(Lib.join (([a0,a1,a2,a3,a4,a5,a6] : List Int).map Lib.itoa) [32]).toArray⟩ else ⟨#[]⟩
set_option maxHeartbeats 8000000 in
set_option maxRecDepth 100000 in
theorem impl_ShiftText_calls (a0 : Int) (a1 : Int) (a2 : Int) (a3 : Int) (a4 : Int) (a5 : Int) (a6 : Int) (ha0 : -9223372036854775808 ≤ a0 ∧ a0 ≤ 9223372036854775807) (ha1 : -9223372036854775808 ≤ a1 ∧ a1 ≤ 9223372036854775807) (ha2 : -9223372036854775808 ≤ a2 ∧ a2 ≤ 9223372036854775807) (ha3 : -9223372036854775808 ≤ a3 ∧ a3 ≤ 9223372036854775807) (ha4 : -9223372036854775808 ≤ a4 ∧ a4 ≤ 9223372036854775807) (ha5 : -9223372036854775808 ≤ a5 ∧ a5 ≤ 9223372036854775807) (ha6 : -9223372036854775808 ≤ a6 ∧ a6 ≤ 9223372036854775807) (w : World) (htab : Tab w) :
    Calls Tryz.prog 12 #[.agg #[.int .i64 a0,.int .i64 a1,.int .i64 a2,.int .i64 a3,.int .i64 a4,.int .i64 a5,.int .i64 a6]] w fun e w'=>e = .returned (.string (textOf a0 a1 a2 a3 a4 a5 a6)) ∧ Below w.heap.size w w':=by
  have hu25:=Tryz.underlying25
  have HT:=Aside0.mk htab
  have HV:=Aside0.mk (valid_f a0 a1 a2 a3 a4 a5 a6 ha0 ha1 ha2 ha3 ha4 ha5 ha6)
  have HB:=Aside0.mk (Below.refl w.heap.size w)
  have HR:=Aside0.mk (And.intro ha0 (And.intro ha1 (And.intro ha2 (And.intro ha3 (And.intro ha4 (And.intro ha5 ha6))))))
  clear htab ha0 ha1 ha2 ha3 ha4 ha5 ha6
  unfold textOf
  generalize okV a0 a1 a2 a3 a4 a5 a6 = b at *
  cases b with
  | true=>
    go_enter Tryz.func12,Tryz.ntmps12
    go_wp2_with (first | ((with_reducible refine gate_dst (N:=1) rfl ?_); refine box_event ?hg (N:=1) ?hd (cs:=#[.int .i64 a0,.int .i64 a1,.int .i64 a2,.int .i64 a3,.int .i64 a4,.int .i64 a5,.int .i64 a6]) (t:=25) ?hr ?_; (case hd=>rfl); (case hg=>rfl); (case hr=>first | (go_simp; done) | (go_simp; rfl)); intro gb hg w7 hbox hb; have n0_:=Aside0.mk (below_step (by repeat (first | (with_reducible first | exact HB.out | apply below_alloc | apply pw_below_drewN | apply below_drew1) | exact HB.out)) hb); have n1_:=Aside0.mk (hbox); have n2_:=Aside0.mk ((by rw [hg]; exact (below_size (by repeat (first | (with_reducible first | exact HB.out | apply below_alloc | apply pw_below_drewN | apply below_drew1) | exact HB.out))) : w.heap.size ≤ gb)); clear HB; have HB:=n0_; have BK:=n1_; have GE:=n2_; clear n0_ n1_ n2_; clear hb hbox hg; have hcz_0 : w7.cell? ⟨gb,0,none⟩ = some (.int .i64 a0):=(blk_cell BK.out 0).trans rfl; have hcz_1 : w7.cell? ⟨gb,1,none⟩ = some (.int .i64 a1):=(blk_cell BK.out 1).trans rfl; have hcz_2 : w7.cell? ⟨gb,2,none⟩ = some (.int .i64 a2):=(blk_cell BK.out 2).trans rfl; have hcz_3 : w7.cell? ⟨gb,3,none⟩ = some (.int .i64 a3):=(blk_cell BK.out 3).trans rfl; have hcz_4 : w7.cell? ⟨gb,4,none⟩ = some (.int .i64 a4):=(blk_cell BK.out 4).trans rfl; have hcz_5 : w7.cell? ⟨gb,5,none⟩ = some (.int .i64 a5):=(blk_cell BK.out 5).trans rfl; have hcz_6 : w7.cell? ⟨gb,6,none⟩ = some (.int .i64 a6):=(blk_cell BK.out 6).trans rfl) | (go_at_call 26; refine (impl_ValidShift.calls 10 a0 a1 a2 a3 a4 a5 a6 true _ HV.out).mono ?_; rintro e w9 ⟨rfl,hb⟩; have n3_:=Aside0.mk (blk_below (g:=gb) (o:=.cells #[.int .i64 a0,.int .i64 a1,.int .i64 a2,.int .i64 a3,.int .i64 a4,.int .i64 a5,.int .i64 a6] 25 (0,0)) (by (with_reducible repeat (first | refine blk_drewN ?_ _ | refine blk_drew ?_ | refine blk_alloc ?_ _)); exact BK.out) hb); have n0_:=Aside0.mk (below_step (by repeat (first | (with_reducible first | exact HB.out | apply below_alloc | apply pw_below_drewN | apply below_drew1 | refine below_set ?_ GE.out) | exact HB.out)) hb); clear HB; clear BK; have HB:=n0_; have BK:=n3_; clear n0_ n3_; clear hb; have hcya_0 : w9.cell? ⟨gb,0,none⟩ = some (.int .i64 a0):=(blk_cell BK.out 0).trans rfl; have hcya_1 : w9.cell? ⟨gb,1,none⟩ = some (.int .i64 a1):=(blk_cell BK.out 1).trans rfl; have hcya_2 : w9.cell? ⟨gb,2,none⟩ = some (.int .i64 a2):=(blk_cell BK.out 2).trans rfl; have hcya_3 : w9.cell? ⟨gb,3,none⟩ = some (.int .i64 a3):=(blk_cell BK.out 3).trans rfl; have hcya_4 : w9.cell? ⟨gb,4,none⟩ = some (.int .i64 a4):=(blk_cell BK.out 4).trans rfl; have hcya_5 : w9.cell? ⟨gb,5,none⟩ = some (.int .i64 a5):=(blk_cell BK.out 5).trans rfl; have hcya_6 : w9.cell? ⟨gb,6,none⟩ = some (.int .i64 a6):=(blk_cell BK.out 6).trans rfl) | (go_at_call 33; refine (shiftText_calls a0 a1 a2 a3 a4 a5 a6 HR.out.1 HR.out.2.1 HR.out.2.2.1 HR.out.2.2.2.1 HR.out.2.2.2.2.1 HR.out.2.2.2.2.2.1 HR.out.2.2.2.2.2.2 _ (tab_below HT.out (by repeat (first | (with_reducible first | exact HB.out | apply below_alloc | apply pw_below_drewN | apply below_drew1 | refine below_set ?_ GE.out) | exact HB.out)))).mono ?_; rintro e w11 ⟨rfl,hb⟩))
    go_ret
    exact ⟨rfl,below_step (by repeat (first | (with_reducible first | exact HB.out | apply below_alloc | apply pw_below_drewN | apply below_drew1 | refine below_set ?_ GE.out) | exact HB.out)) hb⟩
  | false=>
    go_enter Tryz.func12,Tryz.ntmps12
    go_wp2_with (first | ((with_reducible refine gate_dst (N:=1) rfl ?_); refine box_event ?hg (N:=1) ?hd (cs:=#[.int .i64 a0,.int .i64 a1,.int .i64 a2,.int .i64 a3,.int .i64 a4,.int .i64 a5,.int .i64 a6]) (t:=25) ?hr ?_; (case hd=>rfl); (case hg=>rfl); (case hr=>first | (go_simp; done) | (go_simp; rfl)); intro gb hg w7 hbox hb; have n0_:=Aside0.mk (below_step (by repeat (first | (with_reducible first | exact HB.out | apply below_alloc | apply pw_below_drewN | apply below_drew1) | exact HB.out)) hb); have n1_:=Aside0.mk (hbox); have n2_:=Aside0.mk ((by rw [hg]; exact (below_size (by repeat (first | (with_reducible first | exact HB.out | apply below_alloc | apply pw_below_drewN | apply below_drew1) | exact HB.out))) : w.heap.size ≤ gb)); clear HB; have HB:=n0_; have BK:=n1_; have GE:=n2_; clear n0_ n1_ n2_; clear hb hbox hg; have hcz_0 : w7.cell? ⟨gb,0,none⟩ = some (.int .i64 a0):=(blk_cell BK.out 0).trans rfl; have hcz_1 : w7.cell? ⟨gb,1,none⟩ = some (.int .i64 a1):=(blk_cell BK.out 1).trans rfl; have hcz_2 : w7.cell? ⟨gb,2,none⟩ = some (.int .i64 a2):=(blk_cell BK.out 2).trans rfl; have hcz_3 : w7.cell? ⟨gb,3,none⟩ = some (.int .i64 a3):=(blk_cell BK.out 3).trans rfl; have hcz_4 : w7.cell? ⟨gb,4,none⟩ = some (.int .i64 a4):=(blk_cell BK.out 4).trans rfl; have hcz_5 : w7.cell? ⟨gb,5,none⟩ = some (.int .i64 a5):=(blk_cell BK.out 5).trans rfl; have hcz_6 : w7.cell? ⟨gb,6,none⟩ = some (.int .i64 a6):=(blk_cell BK.out 6).trans rfl) | (go_at_call 26; refine (impl_ValidShift.calls 10 a0 a1 a2 a3 a4 a5 a6 false _ HV.out).mono ?_; rintro e w9 ⟨rfl,hb⟩))
    go_ret
    exact ⟨rfl,below_step (by repeat (first | (with_reducible first | exact HB.out | apply below_alloc | apply pw_below_drewN | apply below_drew1 | refine below_set ?_ GE.out) | exact HB.out)) hb⟩
end Go.Proofs.YtfhnlkinjbakgaaGreatDoor.PFnShifts
namespace Go.Proofs.YtfhnlkinjbakgaaGreatDoor.PFnShifts
open Go.RowKit Go.Proofs.YtfhnlkinjbakgaaGreatDoorW.PrintWords Go.Proofs.YtfhnlkinjbakgaaGreatDoorW.PrintLast Go.Proofs.YtfhnlkinjbakgaaGreatDoorW.PrintMore
set_option linter.unusedVariables false
set_option linter.unusedSimpArgs false
def Errs (w : World) : Prop := (∃ tp p, w.var? Tryz.prog "strconv.ErrSyntax" = some #[.iface tp p]) ∧ ∃ tp p, w.var? Tryz.prog "strconv.ErrRange" = some #[.iface tp p]
theorem var_below {w w' : World} {n : String} {cs : Array Value} (h : w.var? Tryz.prog n = some cs) (hb : Below w.heap.size w w') : w'.var? Tryz.prog n = some cs:=by
  rw [← h]
  unfold World.var? at h ⊢
  cases hg : Tryz.prog.globalNamed n with
  | none=>rw [hg] at h; cases h
  | some g=>
    rw [hg] at h
    simp only [Option.bind_some] at h ⊢
    have hlt : g < w.heap.size:=by
      rcases Nat.lt_or_ge g w.heap.size with h' | h'
      · exact h'
      · rw [Array.getElem?_eq_none h'] at h; cases h
    rw [hb.block _ hlt]
theorem errs_below {w w' : World} (h : Errs w) (hb : Below w.heap.size w w') : Errs w':=by
  obtain ⟨⟨t1,p1,h1⟩,t2,p2,h2⟩:=h
  exact ⟨⟨t1,p1,var_below h1 hb⟩,t2,p2,var_below h2 hb⟩
theorem parseInt (s : ByteArray) (hs : s.size ≤ 1048576) (w : World) (he : Errs w) :
    Calls Tryz.prog 69 #[.string s,.int .i64 10,.int .i64 64] w fun e w'=>(match Lib.parseIntB 64 s.data.toList with
      | .ok v=>e = .returned (.tuple #[.int .i64 v,.nilIface])
      | _=>∃ n N,e = .returned (.tuple #[.int .i64 n,.iface (Tryz.laysC174_ren.t 168) (.pointer (some ⟨N,0,none⟩))])) ∧ Below w.heap.size w w':=by
  obtain ⟨⟨t1,p1,h1⟩,t2,p2,h2⟩:=he
  rcases h : Lib.parseIntB 64 s.data.toList with v | _ | _
  · refine (Any.strconv_ParseInt_10_at64_ok Tryz.laysC174 s (by omega) v h w).mono ?_
    rintro e w' ⟨rfl,hw⟩
    refine ⟨rfl,?_⟩
    rcases hw with rfl | ⟨t,rfl⟩
    · exact Below.refl _ _
    · exact Lib.bytesWorld_below _ _ _
  · refine (Any.strconv_ParseInt_10_at64_syntax_var Tryz.laysC174 s (by omega) h t1 p1 w h1).mono ?_
    rintro e w' ⟨N,rfl,_,_,hb⟩
    exact ⟨⟨_,N,rfl⟩,hb⟩
  · refine (Any.strconv_ParseInt_10_at64_range_var Tryz.laysC174 s (by omega) h t2 p2 w h2).mono ?_
    rintro e w' ⟨N,rfl,_,_,hb⟩
    exact ⟨⟨_,N,rfl⟩,hb⟩
def dec (s t : ByteArray) : Int × Bool:=match Lib.parseIntB 64 s.data.toList with
  | .ok v=>if (its v).toList = s.toList then (if (t.size : Int) > 18 then (0,false) else (v,true)) else (0,false)
  | _=>(0,false)
theorem parse_range {s : ByteArray} {v : Int} (h : Lib.parseIntB 64 s.data.toList = .ok v) : -9223372036854775808 ≤ v ∧ v ≤ 9223372036854775807:=by
  have:=Lib.parseIntB_bounds h
  have e : ((2 ^ (64 - 1) : Nat) : Int) = 9223372036854775808:=by decide
  rw [e] at this
  omega
set_option maxHeartbeats 8000000 in
set_option maxRecDepth 100000 in
theorem readDecimal_calls (s t : ByteArray) (hs : s.size ≤ 1048576) (ht : strings_TrimPrefix.f s ⟨#[45]⟩ = some t) (w : World) (htab : Tab w) (he : Errs w) :
    Calls Tryz.prog 32 #[.string s] w fun e w'=>e = .returned (.tuple #[.int .i64 (dec s t).1,.bool (dec s t).2]) ∧ Below w.heap.size w w':=by
  have HT:=Aside0.mk htab
  have HE:=Aside0.mk he
  have HTr:=Aside0.mk ht
  have HB:=Aside0.mk (Below.refl w.heap.size w)
  clear htab he ht
  have hp:=fun w9 he9=>parseInt s hs w9 he9
  have hr:=@parse_range s
  unfold dec
  rcases h : Lib.parseIntB 64 s.data.toList with v | _ | _
  · rw [h] at hp hr
    have hv:=hr rfl
    have HP:=Aside0.mk (show ∀ w9 : World,Errs w9 → Calls Tryz.prog 69 #[.string s,.int .i64 10,.int .i64 64] w9 fun e w'=>e = .returned (.tuple #[.int .i64 v,.nilIface]) ∧ Below w9.heap.size w9 w' from hp)
    obtain ⟨d,hd⟩ : ∃ d,d = its v:=⟨_,rfl⟩
    have HD:=Aside0.mk (show ∀ w9 : World,Tab w9 → Calls Tryz.prog 70 #[.int .i64 v] w9 fun e w'=>e = .returned (.string d) ∧ Below w9.heap.size w9 w' from fun w9 h9=>by rw [hd]; exact decimal_calls v hv.1 hv.2 w9 h9)
    simp only
    rw [← hd]
    clear hd hp hr h hv
    by_cases c1 : d.toList = s.toList
    · rw [if_pos c1]
      have c1b0 : (d.toList == s.toList) = true:=beq_iff_eq.mpr c1
      have c1b1 : (d.toList != s.toList) = false:=bne_eq_false_iff_eq.mpr c1
      clear c1
      by_cases c2 : (t.size : Int) > 18
      · rw [if_pos c2]
        have c2b0 : decide (18 < (t.size : Int)) = true:=decide_eq_true c2
        clear c2
        go_enter Tryz.func32,Tryz.ntmps32
        go_wp2_with (first | (go_at_call 69; refine (HP.out _ (errs_below HE.out (by repeat (first | (with_reducible first | exact HB.out | apply below_alloc | apply pw_below_drewN | apply below_drew1) | exact HB.out)))).mono ?_; rintro e w9 ⟨rfl,hb⟩; have n0_:=Aside0.mk (below_step (by repeat (first | (with_reducible first | exact HB.out | apply below_alloc | apply pw_below_drewN | apply below_drew1) | exact HB.out)) hb); clear HB; have HB:=n0_; clear n0_; clear hb) | (go_at_call 70; refine (HD.out _ (tab_below HT.out (by repeat (first | (with_reducible first | exact HB.out | apply below_alloc | apply pw_below_drewN | apply below_drew1) | exact HB.out)))).mono ?_; rintro e w11 ⟨rfl,hb⟩; have n0_:=Aside0.mk (below_step (by repeat (first | (with_reducible first | exact HB.out | apply below_alloc | apply pw_below_drewN | apply below_drew1) | exact HB.out)) hb); clear HB; have HB:=n0_; clear n0_; clear hb) | (go_at_call 71; refine (strings_TrimPrefix.calls s ⟨#[45]⟩ t _ HTr.out).mono ?_; rintro e w13 ⟨rfl,⟨nd,rfl⟩⟩))
        go_ret2
        exact ⟨rfl,(by repeat (first | (with_reducible first | exact HB.out | apply below_alloc | apply pw_below_drewN | apply below_drew1) | exact HB.out))⟩
      · rw [if_neg c2]
        have c2b0 : decide (18 < (t.size : Int)) = false:=decide_eq_false c2
        clear c2
        go_enter Tryz.func32,Tryz.ntmps32
        go_wp2_with (first | (go_at_call 69; refine (HP.out _ (errs_below HE.out (by repeat (first | (with_reducible first | exact HB.out | apply below_alloc | apply pw_below_drewN | apply below_drew1) | exact HB.out)))).mono ?_; rintro e w9 ⟨rfl,hb⟩; have n0_:=Aside0.mk (below_step (by repeat (first | (with_reducible first | exact HB.out | apply below_alloc | apply pw_below_drewN | apply below_drew1) | exact HB.out)) hb); clear HB; have HB:=n0_; clear n0_; clear hb) | (go_at_call 70; refine (HD.out _ (tab_below HT.out (by repeat (first | (with_reducible first | exact HB.out | apply below_alloc | apply pw_below_drewN | apply below_drew1) | exact HB.out)))).mono ?_; rintro e w11 ⟨rfl,hb⟩; have n0_:=Aside0.mk (below_step (by repeat (first | (with_reducible first | exact HB.out | apply below_alloc | apply pw_below_drewN | apply below_drew1) | exact HB.out)) hb); clear HB; have HB:=n0_; clear n0_; clear hb) | (go_at_call 71; refine (strings_TrimPrefix.calls s ⟨#[45]⟩ t _ HTr.out).mono ?_; rintro e w13 ⟨rfl,⟨nd,rfl⟩⟩))
        go_ret2
        exact ⟨rfl,(by repeat (first | (with_reducible first | exact HB.out | apply below_alloc | apply pw_below_drewN | apply below_drew1) | exact HB.out))⟩
    · rw [if_neg c1]
      have c1b0 : (d.toList == s.toList) = false:=beq_eq_false_iff_ne.mpr c1
      have c1b1 : (d.toList != s.toList) = true:=bne_iff_ne.mpr c1
      clear c1
      go_enter Tryz.func32,Tryz.ntmps32
      go_wp2_with (first | (go_at_call 69; refine (HP.out _ (errs_below HE.out (by repeat (first | (with_reducible first | exact HB.out | apply below_alloc | apply pw_below_drewN | apply below_drew1) | exact HB.out)))).mono ?_; rintro e w9 ⟨rfl,hb⟩; have n0_:=Aside0.mk (below_step (by repeat (first | (with_reducible first | exact HB.out | apply below_alloc | apply pw_below_drewN | apply below_drew1) | exact HB.out)) hb); clear HB; have HB:=n0_; clear n0_; clear hb) | (go_at_call 70; refine (HD.out _ (tab_below HT.out (by repeat (first | (with_reducible first | exact HB.out | apply below_alloc | apply pw_below_drewN | apply below_drew1) | exact HB.out)))).mono ?_; rintro e w11 ⟨rfl,hb⟩; have n0_:=Aside0.mk (below_step (by repeat (first | (with_reducible first | exact HB.out | apply below_alloc | apply pw_below_drewN | apply below_drew1) | exact HB.out)) hb); clear HB; have HB:=n0_; clear n0_; clear hb) | (go_at_call 71; refine (strings_TrimPrefix.calls s ⟨#[45]⟩ t _ HTr.out).mono ?_; rintro e w13 ⟨rfl,⟨nd,rfl⟩⟩))
      go_ret2
      exact ⟨rfl,(by repeat (first | (with_reducible first | exact HB.out | apply below_alloc | apply pw_below_drewN | apply below_drew1) | exact HB.out))⟩
  · rw [h] at hp
    have HP:=Aside0.mk (show ∀ w9 : World,Errs w9 → Calls Tryz.prog 69 #[.string s,.int .i64 10,.int .i64 64] w9 fun e w'=>(∃ n N,e = .returned (.tuple #[.int .i64 n,.iface (Tryz.laysC174_ren.t 168) (.pointer (some ⟨N,0,none⟩))])) ∧ Below w9.heap.size w9 w' from hp)
    simp only
    clear hp hr h
    go_enter Tryz.func32,Tryz.ntmps32
    go_wp2_with (first | (go_at_call 69; refine (HP.out _ (errs_below HE.out (by repeat (first | (with_reducible first | exact HB.out | apply below_alloc | apply pw_below_drewN | apply below_drew1) | exact HB.out)))).mono ?_; rintro e w9 ⟨⟨n,N,rfl⟩,hb⟩; have n0_:=Aside0.mk (below_step (by repeat (first | (with_reducible first | exact HB.out | apply below_alloc | apply pw_below_drewN | apply below_drew1) | exact HB.out)) hb); clear HB; have HB:=n0_; clear n0_; clear hb))
    go_ret2
    exact ⟨rfl,(by repeat (first | (with_reducible first | exact HB.out | apply below_alloc | apply pw_below_drewN | apply below_drew1) | exact HB.out))⟩
  · rw [h] at hp
    have HP:=Aside0.mk (show ∀ w9 : World,Errs w9 → Calls Tryz.prog 69 #[.string s,.int .i64 10,.int .i64 64] w9 fun e w'=>(∃ n N,e = .returned (.tuple #[.int .i64 n,.iface (Tryz.laysC174_ren.t 168) (.pointer (some ⟨N,0,none⟩))])) ∧ Below w9.heap.size w9 w' from hp)
    simp only
    clear hp hr h
    go_enter Tryz.func32,Tryz.ntmps32
    go_wp2_with (first | (go_at_call 69; refine (HP.out _ (errs_below HE.out (by repeat (first | (with_reducible first | exact HB.out | apply below_alloc | apply pw_below_drewN | apply below_drew1) | exact HB.out)))).mono ?_; rintro e w9 ⟨⟨n,N,rfl⟩,hb⟩; have n0_:=Aside0.mk (below_step (by repeat (first | (with_reducible first | exact HB.out | apply below_alloc | apply pw_below_drewN | apply below_drew1) | exact HB.out)) hb); clear HB; have HB:=n0_; clear n0_; clear hb))
    go_ret2
    exact ⟨rfl,(by repeat (first | (with_reducible first | exact HB.out | apply below_alloc | apply pw_below_drewN | apply below_drew1) | exact HB.out))⟩
def words (s : ByteArray) : List ByteArray:=Lib.splitB ⟨#[32]⟩ 0 (Lib.countB s ⟨#[32]⟩) s
theorem words_length (s : ByteArray) : (words s).length = Lib.countB s ⟨#[32]⟩ + 1:=Lib.splitB_all ⟨#[32]⟩ (by decide) 0 _ s rfl
theorem split_calls (s : ByteArray) (hs : s.size ≤ 1048576) (w : World) (hm : ∃ m,w.cell? ⟨Tryz.lays146_ren.g 1,0,none⟩ = some (.int .i64 m)) :
    Calls Tryz.prog 31 #[.string s,.string ⟨#[32]⟩] w fun e w'=>∃ g,e = .returned (.slice (some ⟨g,0,none⟩) (words s).length (words s).length) ∧ w.heap.size ≤ g ∧ w'.heap[g]? = some (.cells ((words s).map Value.string).toArray 9 (0,0)) ∧ Below w.heap.size w w':=by
  obtain ⟨m,hm⟩:=hm
  refine (Any.strings_Split Tryz.lays146 info9 s ⟨#[32]⟩ m w (by omega) hm (by decide)).mono ?_
  rintro e w' ⟨rfl,rfl⟩
  rw [← words_length]
  refine ⟨w.heap.size,rfl,Nat.le_refl _,?_,(Below.refl _ _).alloc (Nat.le_refl _) _⟩
  show (w.heap.push (Obj.cells ((words s).map Value.string).toArray 9 (0,0)))[w.heap.size]? = _
  rw [Array.getElem?_push_size]
end Go.Proofs.YtfhnlkinjbakgaaGreatDoor.PFnShifts
namespace Go.Proofs.YtfhnlkinjbakgaaGreatDoor.PFnShifts
open Go.RowKit Go.Proofs.YtfhnlkinjbakgaaGreatDoorW.PrintWords Go.Proofs.YtfhnlkinjbakgaaGreatDoorW.PrintLast Go.Proofs.YtfhnlkinjbakgaaGreatDoorW.PrintMore
set_option linter.unusedVariables false
set_option linter.unusedSimpArgs false
def Lens (w : World) : Prop:=∃ m,w.cell? ⟨Tryz.lays146_ren.g 1,0,none⟩ = some (.int .i64 m)
theorem lens_below {w w' : World} (h : Lens w) (hb : Below w.heap.size w w') : Lens w':=by
  obtain ⟨m,hm⟩:=h
  exact ⟨m,(hb.cell (World.block_lt_of_cell? w _ hm)).trans hm⟩
set_option maxHeartbeats 8000000 in
set_option maxRecDepth 100000 in
theorem readShift_wrong (s : ByteArray) (hs : s.size ≤ 1048576) (w : World) (hm : Lens w) (hl : (words s).length ≠ 7) :
    Calls Tryz.prog 11 #[.string s] w fun e w'=>e = .returned (.tuple #[.agg #[.int .i64 0,.int .i64 0,.int .i64 0,.int .i64 0,.int .i64 0,.int .i64 0,.int .i64 0],.bool false]) ∧ Below w.heap.size w w':=by
  have hu25:=Tryz.underlying25
  have HM:=Aside0.mk hm
  have HB:=Aside0.mk (Below.refl w.heap.size w)
  have hsp:=fun w9 h9=>split_calls s hs w9 h9
  obtain ⟨W,hW⟩ : ∃ W,W = words s:=⟨_,rfl⟩
  rw [← hW] at hsp hl
  have HSp:=Aside0.mk (show ∀ w9 : World,Lens w9 → Calls Tryz.prog 31 #[.string s,.string ⟨#[32]⟩] w9 fun e w'=>∃ g,e = .returned (.slice (some ⟨g,0,none⟩) W.length W.length) ∧ w9.heap.size ≤ g ∧ w'.heap[g]? = some (.cells (W.map Value.string).toArray 9 (0,0)) ∧ Below w9.heap.size w9 w' from hsp)
  have c1 : (W.length : Int) ≠ 7:=by omega
  have c1b0 : ((W.length : Int) == 7) = false:=beq_eq_false_iff_ne.mpr c1
  have c1b1 : ((W.length : Int) != 7) = true:=bne_iff_ne.mpr c1
  clear hm hsp hW hl c1
  go_enter Tryz.func11,Tryz.ntmps11
  go_wp2_with (first | ((with_reducible refine gate_dst (N:=2) rfl ?_); refine box_event ?hg (N:=2) ?hd (cs:=#[.int .i64 0,.int .i64 0,.int .i64 0,.int .i64 0,.int .i64 0,.int .i64 0,.int .i64 0]) (t:=25) ?hr ?_; (case hd=>rfl); (case hg=>rfl); (case hr=>first | (go_simp; done) | (go_simp; rfl)); intro gb2 hg w3 hbox hb; have n0_:=Aside0.mk (below_step (by repeat (first | (with_reducible first | exact HB.out | apply below_alloc | apply pw_below_drewN | apply below_drew1) | exact HB.out)) hb); have n1_:=Aside0.mk (hbox); have n2_:=Aside0.mk ((by rw [hg]; exact (below_size (by repeat (first | (with_reducible first | exact HB.out | apply below_alloc | apply pw_below_drewN | apply below_drew1) | exact HB.out))) : w.heap.size ≤ gb2)); clear HB; have HB:=n0_; have BK2:=n1_; have GE2:=n2_; clear n0_ n1_ n2_; clear hb hbox hg) | (go_at_call 31; refine (HSp.out _ (lens_below HM.out (by repeat (first | (with_reducible first | exact HB.out | apply below_alloc | apply pw_below_drewN | apply below_drew1 | refine below_set ?_ GE2.out) | exact HB.out)))).mono ?_; rintro e w5 ⟨g,rfl,hge,hG,hb⟩; have n3_:=Aside0.mk (blk_below (g:=gb2) (o:=.cells #[.int .i64 0,.int .i64 0,.int .i64 0,.int .i64 0,.int .i64 0,.int .i64 0,.int .i64 0] 25 (0,0)) (by (with_reducible repeat (first | refine blk_drewN ?_ _ | refine blk_drew ?_ | refine blk_alloc ?_ _)); exact BK2.out) hb); have n0_:=Aside0.mk (below_step (by repeat (first | (with_reducible first | exact HB.out | apply below_alloc | apply pw_below_drewN | apply below_drew1 | refine below_set ?_ GE2.out) | exact HB.out)) hb); have n1_:=Aside0.mk hG; have NG2:=Aside0.mk (show g ≠ gb2 from fun e_=>by have:=blk_lt BK2.out; first | omega | (simp only [World.drewN_heap] at hge; omega)); clear HB; clear BK2; have HB:=n0_; have BK2:=n3_; have BKG:=n1_; clear n0_ n3_ n1_; clear hb hG hge; have hca_0 : w5.cell? ⟨gb2,0,none⟩ = some (.int .i64 0):=(blk_cell BK2.out 0).trans rfl; have hca_1 : w5.cell? ⟨gb2,1,none⟩ = some (.int .i64 0):=(blk_cell BK2.out 1).trans rfl; have hca_2 : w5.cell? ⟨gb2,2,none⟩ = some (.int .i64 0):=(blk_cell BK2.out 2).trans rfl; have hca_3 : w5.cell? ⟨gb2,3,none⟩ = some (.int .i64 0):=(blk_cell BK2.out 3).trans rfl; have hca_4 : w5.cell? ⟨gb2,4,none⟩ = some (.int .i64 0):=(blk_cell BK2.out 4).trans rfl; have hca_5 : w5.cell? ⟨gb2,5,none⟩ = some (.int .i64 0):=(blk_cell BK2.out 5).trans rfl; have hca_6 : w5.cell? ⟨gb2,6,none⟩ = some (.int .i64 0):=(blk_cell BK2.out 6).trans rfl; have hfa_0:=blk_frozen BK2.out 0; have hfa_1:=blk_frozen BK2.out 1; have hfa_2:=blk_frozen BK2.out 2; have hfa_3:=blk_frozen BK2.out 3; have hfa_4:=blk_frozen BK2.out 4; have hfa_5:=blk_frozen BK2.out 5; have hfa_6:=blk_frozen BK2.out 6))
  refine bodyPost_ret (results_ct rfl _ _ gb2 25 #[.int .i64 0,.int .i64 0,.int .i64 0,.int .i64 0,.int .i64 0,.int .i64 0,.int .i64 0] (0,0) _ ?hx ?hy Tryz.underlying25 rfl (by kernel_rfl)) rfl ?_
  case hx=>rfl
  case hy=>exact (blk_put (blk_put (blk_put (blk_put (blk_put (blk_put (blk_put BK2.out 0 _ rfl) 1 _ rfl) 2 _ rfl) 3 _ rfl) 4 _ rfl) 5 _ rfl) 6 _ rfl)
  exact ⟨rfl,(by repeat (first | (with_reducible first | exact HB.out | apply below_alloc | apply pw_below_drewN | apply below_drew1 | refine below_set ?_ GE2.out) | exact HB.out))⟩
def tr (x : ByteArray) : ByteArray:=(strings_TrimPrefix.f x ⟨#[45]⟩).getD ⟨#[]⟩
theorem tr_some (x : ByteArray) : strings_TrimPrefix.f x ⟨#[45]⟩ = some (tr x):=by
  have hp : ((⟨#[45]⟩ : ByteArray).size : Int) = 1:=rfl
  have : ∃ t,strings_TrimPrefix.f x ⟨#[45]⟩ = some t:=by
    unfold strings_TrimPrefix.f stringslite_TrimPrefix.f stringslite_HasPrefix.f
    rw [hp]
    by_cases h : (x.size : Int) ≥ 1
    · rw [if_pos h,if_pos (by omega),if_pos (by omega)]
      simp only [Option.bind_some]
      rw [if_pos (by omega : (0 : Int) ≤ 1),if_pos (by omega : (1 : Int) ≤ (x.size : Int))]
      split <;> exact ⟨_,rfl⟩
    · rw [if_neg h]
      simp only [Option.bind_some]
      exact ⟨_,rfl⟩
  obtain ⟨t,ht⟩:=this
  unfold tr
  rw [ht]
  rfl
def dv (x : ByteArray) : Int:=(dec x (tr x)).1
def vals (W : List ByteArray) (i : Nat) : List Int:=(W.take i).map dv ++ List.replicate (7 - i) 0
def vc (W : List ByteArray) (i : Nat) : Array Value:=((vals W i).map (Value.int .i64)).toArray
theorem vc_zero (W : List ByteArray) : vc W 0 = #[.int .i64 0,.int .i64 0,.int .i64 0,.int .i64 0,.int .i64 0,.int .i64 0,.int .i64 0]:=rfl
theorem vc_next (W : List ByteArray) (i : Int) (hW : W.length = 7) (h0 : 0 ≤ i) (h1 : i < 7) : (vc W i.toNat).setIfInBounds i.toNat (.int .i64 (dv (rdOf ByteArray.empty W i))) = vc W (i + 1).toNat:=by
  obtain ⟨j,rfl⟩:=Int.eq_ofNat_of_zero_le h0
  have hj : j < W.length:=by omega
  rw [show ((j : Int)).toNat = j from rfl,show ((j : Int) + 1).toNat = j + 1 by omega]
  have hr : rdOf ByteArray.empty W (j : Int) = W[j]:=by
    unfold rdOf
    simp [hj]
  rw [hr]
  unfold vc vals
  rw [List.setIfInBounds_toArray]
  congr 1
  rw [← List.map_set,List.set_append_right _ _ (by rw [List.length_map,List.length_take]; omega),List.take_succ_eq_append_getElem hj,List.map_append,List.length_map,List.length_take,show j - min j W.length = 0 by omega,
    show 7 - j = (7 - (j + 1)) + 1 by omega,List.replicate_succ]
  simp
  rw [List.take_succ_eq_append_getElem (by rw [List.length_map]; exact hj)]
  simp
theorem vc_at (W : List ByteArray) (i : Int) (hW : W.length = 7) (h0 : 0 ≤ i) (h1 : i < 7) : ∃ n,(vc W i.toNat)[i.toNat]? = some (.int .i64 n):=by
  have hl : (vals W i.toNat).length = 7:=by
    unfold vals
    rw [List.length_append,List.length_map,List.length_take,List.length_replicate]
    omega
  have hi : i.toNat < (vals W i.toNat).length:=by omega
  refine ⟨(vals W i.toNat)[i.toNat],?_⟩
  unfold vc
  simp [hi]
theorem words_short (s : ByteArray) (hs : s.size ≤ 1048576) : ∀ x ∈ words s,x.size ≤ 1048576:=by
  have : ∀ (k : Nat) (s : ByteArray) (n : Nat),s.size ≤ n → ∀ x ∈ Lib.splitB ⟨#[32]⟩ 0 k s,x.size ≤ n:=fun k=>by
    induction k with
    | zero=>
      intro s n h x hx
      rw [Lib.splitB_zero,List.mem_singleton] at hx
      rw [hx]; exact h
    | succ k ih=>
      intro s n h x hx
      unfold Lib.splitB at hx
      split at hx
      · rw [List.mem_singleton] at hx
        rw [hx]; exact h
      · rcases List.mem_cons.1 hx with rfl | hx
        · rw [ByteArray.size_extract]; omega
        · exact ih _ n (by rw [ByteArray.size_extract]; omega) x hx
  exact this _ s _ hs
set_option maxHeartbeats 8000000 in
set_option maxRecDepth 100000 in
theorem readShift_right (s : ByteArray) (hs : s.size ≤ 1048576) (w : World) (htab : Tab w) (he : Errs w) (hm : Lens w) (hl : (words s).length = 7) (a0 : Int) (a1 : Int) (a2 : Int) (a3 : Int) (a4 : Int) (a5 : Int) (a6 : Int) (hA : (words s).map dv = [a0,a1,a2,a3,a4,a5,a6]) (ha0 : -9223372036854775808 ≤ a0 ∧ a0 ≤ 9223372036854775807) (ha1 : -9223372036854775808 ≤ a1 ∧ a1 ≤ 9223372036854775807) (ha2 : -9223372036854775808 ≤ a2 ∧ a2 ≤ 9223372036854775807) (ha3 : -9223372036854775808 ≤ a3 ∧ a3 ≤ 9223372036854775807) (ha4 : -9223372036854775808 ≤ a4 ∧ a4 ≤ 9223372036854775807) (ha5 : -9223372036854775808 ≤ a5 ∧ a5 ≤ 9223372036854775807) (ha6 : -9223372036854775808 ≤ a6 ∧ a6 ≤ 9223372036854775807) :
    Calls Tryz.prog 11 #[.string s] w fun e w'=>e = .returned (if okV a0 a1 a2 a3 a4 a5 a6 = true ∧ (⟨(Lib.join (([a0,a1,a2,a3,a4,a5,a6] : List Int).map Lib.itoa) [32]).toArray⟩ : ByteArray).toList = s.toList then .tuple #[.agg #[.int .i64 a0,.int .i64 a1,.int .i64 a2,.int .i64 a3,.int .i64 a4,.int .i64 a5,.int .i64 a6],.bool true] else .tuple #[.agg #[.int .i64 0,.int .i64 0,.int .i64 0,.int .i64 0,.int .i64 0,.int .i64 0,.int .i64 0],.bool false]) ∧ Below w.heap.size w w':=by
  have hu25:=Tryz.underlying25
  have HT:=Aside0.mk htab
  have HE:=Aside0.mk he
  have HM:=Aside0.mk hm
  have HB:=Aside0.mk (Below.refl w.heap.size w)
  have HV:=Aside0.mk (valid_f a0 a1 a2 a3 a4 a5 a6 ha0 ha1 ha2 ha3 ha4 ha5 ha6)
  obtain ⟨txt,htxt⟩ : ∃ t : ByteArray,t = ⟨(Lib.join (([a0,a1,a2,a3,a4,a5,a6] : List Int).map Lib.itoa) [32]).toArray⟩:=⟨_,rfl⟩
  have HTx:=Aside0.mk (show ∀ w9 : World,Tab w9 → Calls Tryz.prog 33 #[.agg #[.int .i64 a0,.int .i64 a1,.int .i64 a2,.int .i64 a3,.int .i64 a4,.int .i64 a5,.int .i64 a6]] w9 fun e w'=>e = .returned (.string txt) ∧ Below w9.heap.size w9 w' from fun w9 h9=>by rw [htxt]; exact shiftText_calls a0 a1 a2 a3 a4 a5 a6 ha0 ha1 ha2 ha3 ha4 ha5 ha6 w9 h9)
  rw [← htxt]
  clear htxt ha0 ha1 ha2 ha3 ha4 ha5 ha6
  generalize okV a0 a1 a2 a3 a4 a5 a6 = b at *
  obtain ⟨res,hres⟩ : ∃ res : Value,res = (if b = true ∧ txt.toList = s.toList then .tuple #[.agg #[.int .i64 a0,.int .i64 a1,.int .i64 a2,.int .i64 a3,.int .i64 a4,.int .i64 a5,.int .i64 a6],.bool true] else .tuple #[.agg #[.int .i64 0,.int .i64 0,.int .i64 0,.int .i64 0,.int .i64 0,.int .i64 0,.int .i64 0],.bool false]):=⟨_,rfl⟩
  rw [← hres]
  have HRes:=Aside0.mk hres
  clear hres
  have hsp:=fun w9 h9=>split_calls s hs w9 h9
  have hsh:=words_short s hs
  obtain ⟨W,hW⟩ : ∃ W,W = words s:=⟨_,rfl⟩
  rw [← hW] at hsp hl hsh hA
  have HAs:=Aside0.mk hA
  clear hA
  have HSp:=Aside0.mk (show ∀ w9 : World,Lens w9 → Calls Tryz.prog 31 #[.string s,.string ⟨#[32]⟩] w9 fun e w'=>∃ g,e = .returned (.slice (some ⟨g,0,none⟩) W.length W.length) ∧ w9.heap.size ≤ g ∧ w'.heap[g]? = some (.cells (W.map Value.string).toArray 9 (0,0)) ∧ Below w9.heap.size w9 w' from hsp)
  have HDall:=Aside0.mk (show ∀ (x : ByteArray),x.size ≤ 1048576 → ∃ ok : Bool,∀ w9 : World,Tab w9 → Errs w9 → Calls Tryz.prog 32 #[.string x] w9 fun e w'=>e = .returned (.tuple #[.int .i64 (dv x),.bool ok]) ∧ Below w9.heap.size w9 w' from fun x hx=>⟨(dec x (tr x)).2,fun w9 h1 h2=>readDecimal_calls x (tr x) hx (tr_some x) w9 h1 h2⟩)
  have HL:=Aside0.mk hl
  have HSh:=Aside0.mk hsh
  have c1 : (W.length : Int) = 7:=by omega
  have c1b0 : ((W.length : Int) == 7) = true:=beq_iff_eq.mpr c1
  have c1b1 : ((W.length : Int) != 7) = false:=bne_eq_false_iff_eq.mpr c1
  obtain ⟨k,hk⟩ : ∃ k : Nat,k = 8:=⟨_,rfl⟩
  have HK:=Aside0.mk hk
  have HWs:=Aside0.mk hW
  clear hk hm hsp hl c1 hsh htab he hW
  go_enter Tryz.func11,Tryz.ntmps11
  go_wp2_with (first | ((with_reducible refine gate_dst (N:=2) rfl ?_); refine box_event ?hg (N:=2) ?hd (cs:=#[.int .i64 0,.int .i64 0,.int .i64 0,.int .i64 0,.int .i64 0,.int .i64 0,.int .i64 0]) (t:=25) ?hr ?_; (case hd=>rfl); (case hg=>rfl); (case hr=>first | (go_simp; done) | (go_simp; rfl)); intro gb2 hg w3 hbox hb; have n0_:=Aside0.mk (below_step (by repeat (first | (with_reducible first | exact HB.out | apply below_alloc | apply pw_below_drewN | apply below_drew1) | exact HB.out)) hb); have n1_:=Aside0.mk (hbox); have n2_:=Aside0.mk ((by rw [hg]; exact (below_size (by repeat (first | (with_reducible first | exact HB.out | apply below_alloc | apply pw_below_drewN | apply below_drew1) | exact HB.out))) : w.heap.size ≤ gb2)); clear HB; have HB:=n0_; have BK2:=n1_; have GE2:=n2_; clear n0_ n1_ n2_; clear hb hbox hg) | (go_at_call 31; refine (HSp.out _ (lens_below HM.out (by repeat (first | (with_reducible first | exact HB.out | apply below_alloc | apply pw_below_drewN | apply below_drew1 | refine below_set ?_ GE2.out) | exact HB.out)))).mono ?_; rintro e w5 ⟨g,rfl,hge,hG,hb⟩; have n3_:=Aside0.mk (blk_below (g:=gb2) (o:=.cells #[.int .i64 0,.int .i64 0,.int .i64 0,.int .i64 0,.int .i64 0,.int .i64 0,.int .i64 0] 25 (0,0)) (by (with_reducible repeat (first | refine blk_drewN ?_ _ | refine blk_drew ?_ | refine blk_alloc ?_ _)); exact BK2.out) hb); have n0_:=Aside0.mk (below_step (by repeat (first | (with_reducible first | exact HB.out | apply below_alloc | apply pw_below_drewN | apply below_drew1 | refine below_set ?_ GE2.out) | exact HB.out)) hb); have n1_:=Aside0.mk hG; have NG2:=Aside0.mk (show g ≠ gb2 from fun e_=>by have:=blk_lt BK2.out; first | omega | (simp only [World.drewN_heap] at hge; omega)); clear HB; clear BK2; have HB:=n0_; have BK2:=n3_; have BKG:=n1_; clear n0_ n3_ n1_; clear hb hG hge) | ((with_reducible refine gate_dst (N:=5) rfl ?_); refine box_event ?hg (N:=5) ?hd (cs:=#[.int .i64 0,.int .i64 0,.int .i64 0,.int .i64 0,.int .i64 0,.int .i64 0,.int .i64 0]) (t:=76) ?hr ?_; (case hd=>rfl); (case hg=>rfl); (case hr=>first | (go_simp; done) | (go_simp; rfl)); intro gb5 hg w6 hbox hb; have m0_:=Aside0.mk (blk_below (by (with_reducible repeat (first | refine blk_drewN ?_ _ | refine blk_drew ?_ | refine blk_alloc ?_ _)); exact BK2.out) hb); have m1_:=Aside0.mk (blk_below (by (with_reducible repeat (first | refine blk_drewN ?_ _ | refine blk_drew ?_ | refine blk_alloc ?_ _)); exact BKG.out) hb); have N52:=Aside0.mk (show gb2 ≠ gb5 from by rw [hg]; exact Nat.ne_of_lt (blk_lt BK2.out)); have N5G:=Aside0.mk (show g ≠ gb5 from by rw [hg]; exact Nat.ne_of_lt (blk_lt BKG.out)); have n0_:=Aside0.mk (below_step (by repeat (first | (with_reducible first | exact HB.out | apply below_alloc | apply pw_below_drewN | apply below_drew1 | refine below_set ?_ GE2.out) | exact HB.out)) hb); have n1_:=Aside0.mk (hbox); have n2_:=Aside0.mk ((by rw [hg]; exact (below_size (by repeat (first | (with_reducible first | exact HB.out | apply below_alloc | apply pw_below_drewN | apply below_drew1 | refine below_set ?_ GE2.out) | exact HB.out))) : w.heap.size ≤ gb5)); clear HB BK2 BKG; have HB:=n0_; have BK5:=n1_; have GE5:=n2_; have BK2:=m0_; have BKG:=m1_; clear n0_ n1_ n2_ m0_ m1_; clear hb hbox hg))
  go_loopg [17] k (fun kq v17 w'=>∃ (x17 : Int),v17 = .int .i64 x17 ∧ Aside0 (0 ≤ x17 ∧ x17 ≤ 7 ∧ (kq : Int) + x17 = 8) ∧ Aside0 (kq ≤ k) ∧ Aside0 (w'.heap[gb2]? = some (.cells #[.int .i64 0,.int .i64 0,.int .i64 0,.int .i64 0,.int .i64 0,.int .i64 0,.int .i64 0] 25 (0,0))) ∧ Aside0 (w'.heap[g]? = some (.cells (W.map Value.string).toArray 9 (0,0))) ∧ Aside0 (w'.heap[gb5]? = some (.cells (vc W x17.toNat) 76 (0,0))) ∧ Aside0 (Below w.heap.size w w'))
  case atStart=>exact ⟨0,rfl,⟨Int.le_refl _,by omega,by have:=HK.out; omega⟩,⟨Nat.le_refl _⟩,BK2,BKG,⟨by rw [show (0 : Int).toNat = 0 from rfl,vc_zero]; exact BK5.out⟩,⟨(by repeat (first | (with_reducible first | exact HB.out | apply below_alloc | apply pw_below_drewN | apply below_drew1 | refine below_set ?_ GE2.out | refine below_set ?_ GE5.out) | exact HB.out))⟩⟩
  case round=>
    try clear c1b0
    try clear c1b1
    obtain ⟨x17,rfl,HA,HK1,BK2,BKG,BK5,HB⟩:=hrel
    by_cases c6 : x17 < 7
    · have ha:=HA.out
      have c6b0 : decide (x17 < (W.length : Int)) = true:=decide_eq_true (by have:=HL.out; omega)
      have c6b1 : decide (x17 < 7) = true:=decide_eq_true c6
      have c7b0 : decide (0 ≤ x17) = true:=decide_eq_true ha.1
      have p1 : (0 ≤ x17) = True:=eq_true ha.1
      have q1 : (x17 < (W.length : Int)) = True:=eq_true (by have:=HL.out; omega)
      have q2 : (x17 < 7) = True:=eq_true c6
      have q3 : (7 ≤ x17) = False:=eq_false (by omega)
      have HWr:=Aside0.mk (show wrap64 (x17 + 1) = x17 + 1 by unfold wrap64; omega)
      obtain ⟨k1,hk1⟩ : ∃ k1,gk = k1 + 1:=⟨gk - 1,by omega⟩
      subst hk1
      have HOLD:=Aside0.mk (vc_at W x17 HL.out ha.1 c6)
      obtain ⟨x,hx⟩ : ∃ x,x = rdOf ByteArray.empty W x17:=⟨_,rfl⟩
      have hmem : x ∈ W:=by
        rw [hx]
        unfold rdOf
        have : x17.toNat < W.length:=by have:=HL.out; omega
        rw [List.getD_eq_getElem?_getD,List.getElem?_eq_getElem this]
        exact List.getElem_mem this
      obtain ⟨ok,hdc⟩:=HDall.out x (HSh.out x hmem)
      obtain ⟨d,hd⟩ : ∃ d,d = dv x:=⟨_,rfl⟩
      have HNX:=Aside0.mk (show (vc W x17.toNat).setIfInBounds x17.toNat (.int .i64 d) = vc W (x17 + 1).toNat by rw [hd,hx]; exact vc_next W x17 HL.out ha.1 c6)
      rw [← hd] at hdc
      have HDc:=Aside0.mk hdc
      have hcw : wr.cell? ⟨g,(x17 : Int).toNat,none⟩ = some (.string x):=(blk_cell BKG.out _).trans (by
        have h7 : x17.toNat < W.length:=by have:=HL.out; omega
        rw [hx]
        unfold rdOf
        simp [h7])
      have HA2:=Aside0.mk ha
      have HC6:=Aside0.mk c6
      clear ha c6 hmem hdc hd hx HA
      go_wp2_with (first | (go_at_call 32; refine (HDc.out _ (tab_below HT.out (by repeat (first | (with_reducible first | exact HB.out | apply below_alloc | apply pw_below_drewN | apply below_drew1 | refine below_set ?_ GE2.out | refine below_set ?_ GE5.out) | exact HB.out))) (errs_below HE.out (by repeat (first | (with_reducible first | exact HB.out | apply below_alloc | apply pw_below_drewN | apply below_drew1 | refine below_set ?_ GE2.out | refine below_set ?_ GE5.out) | exact HB.out)))).mono ?_; rintro e w9 ⟨rfl,hb⟩; have m0_:=Aside0.mk (blk_below (by (with_reducible repeat (first | refine blk_drewN ?_ _ | refine blk_drew ?_ | refine blk_alloc ?_ _)); exact BK2.out) hb); have m1_:=Aside0.mk (blk_below (by (with_reducible repeat (first | refine blk_drewN ?_ _ | refine blk_drew ?_ | refine blk_alloc ?_ _)); exact BKG.out) hb); have m2_:=Aside0.mk (blk_below (by (with_reducible repeat (first | refine blk_drewN ?_ _ | refine blk_drew ?_ | refine blk_alloc ?_ _)); exact BK5.out) hb); have n0_:=Aside0.mk (below_step (by repeat (first | (with_reducible first | exact HB.out | apply below_alloc | apply pw_below_drewN | apply below_drew1 | refine below_set ?_ GE2.out | refine below_set ?_ GE5.out) | exact HB.out)) hb); clear HB BK2 BKG BK5; have HB:=n0_; have BK2:=m0_; have BKG:=m1_; have BK5:=m2_; clear n0_ m0_ m1_ m2_; clear hb; have hx5 : w9.cell? ⟨gb5,(x17 : Int).toNat,none⟩ = some (.int .i64 HOLD.out.choose):=(blk_cell BK5.out _).trans HOLD.out.choose_spec; have hf5:=blk_frozen BK5.out (x17 : Int).toNat) | ((with_reducible refine gate_store (t:=2) (p:=28) rfl ?_); refine store_event (t:=2) (p:=28) (v:=?vo_) (w1:=(w9.setCell ⟨gb5,(x17 : Int).toNat,none⟩ (.int .i64 d))) ?hg ?ho ?hn ?hr ?_; (case ho=>rfl); (case hg=>rfl); (case hn=>rfl); (case hr=>first | (go_simp; done) | (go_simp; rfl)); intro w13 hw; have m0_:=Aside0.mk (show w13.heap[gb2]? = some (.cells #[.int .i64 0,.int .i64 0,.int .i64 0,.int .i64 0,.int .i64 0,.int .i64 0,.int .i64 0] 25 (0,0)) from by rw [hw]; exact blk_far BK2.out N52.out _); have m1_:=Aside0.mk (show w13.heap[g]? = some (.cells (W.map Value.string).toArray 9 (0,0)) from by rw [hw]; exact blk_far BKG.out N5G.out _); have m2_:=Aside0.mk (show w13.heap[gb5]? = some (.cells (vc W (x17 + 1).toNat) 76 (0,0)) from by rw [hw]; exact blk_put BK5.out _ _ HNX.out); have n0_:=Aside0.mk ((by rw [hw]; exact below_set (HB.out) GE5.out : Below w.heap.size w w13)); clear HB BK2 BKG BK5; have HB:=n0_; have BK2:=m0_; have BKG:=m1_; have BK5:=m2_; clear n0_ m0_ m1_ m2_; clear hw))
      go_roundg k1
      case measure=>have:=HK1.out; omega
      case rel=>exact ⟨x17 + 1,(by first | rfl | rw [HWr.out]),⟨by have:=HA2.out; omega,by have:=HC6.out; omega,by have:=HA2.out; omega⟩,⟨by have:=HK1.out; omega⟩,BK2,BKG,BK5,⟨(by repeat (first | (with_reducible first | exact HB.out | apply below_alloc | apply pw_below_drewN | apply below_drew1 | refine below_set ?_ GE2.out | refine below_set ?_ GE5.out) | exact HB.out))⟩⟩
    · have ha:=HA.out
      have h7 : x17 = 7:=by omega
      subst h7
      have c6b0 : decide ((7 : Int) < (W.length : Int)) = false:=decide_eq_false (by have:=HL.out; omega)
      have c6b1 : ((7 : Int) < (W.length : Int)) = False:=eq_false (by have:=HL.out; omega)
      have hv : vc W (7 : Int).toNat = #[.int .i64 a0,.int .i64 a1,.int .i64 a2,.int .i64 a3,.int .i64 a4,.int .i64 a5,.int .i64 a6]:=by
        show ((vals W 7).map (Value.int .i64)).toArray = _
        unfold vals
        rw [List.take_of_length_le (by have:=HL.out; omega),HAs.out]
        rfl
      have BK5':=Aside0.mk (show wr.heap[gb5]? = some (.cells #[.int .i64 a0,.int .i64 a1,.int .i64 a2,.int .i64 a3,.int .i64 a4,.int .i64 a5,.int .i64 a6] 76 (0,0)) from by rw [← hv]; exact BK5.out)
      clear BK5 hv ha HA c6
      have BK5:=BK5'
      clear BK5'
      have hcv_0 : wr.cell? ⟨gb5,0,none⟩ = some (.int .i64 a0):=(blk_cell BK5.out 0).trans rfl; have hcv_1 : wr.cell? ⟨gb5,1,none⟩ = some (.int .i64 a1):=(blk_cell BK5.out 1).trans rfl; have hcv_2 : wr.cell? ⟨gb5,2,none⟩ = some (.int .i64 a2):=(blk_cell BK5.out 2).trans rfl; have hcv_3 : wr.cell? ⟨gb5,3,none⟩ = some (.int .i64 a3):=(blk_cell BK5.out 3).trans rfl; have hcv_4 : wr.cell? ⟨gb5,4,none⟩ = some (.int .i64 a4):=(blk_cell BK5.out 4).trans rfl; have hcv_5 : wr.cell? ⟨gb5,5,none⟩ = some (.int .i64 a5):=(blk_cell BK5.out 5).trans rfl; have hcv_6 : wr.cell? ⟨gb5,6,none⟩ = some (.int .i64 a6):=(blk_cell BK5.out 6).trans rfl; have hfv_0:=blk_frozen BK5.out 0; have hfv_1:=blk_frozen BK5.out 1; have hfv_2:=blk_frozen BK5.out 2; have hfv_3:=blk_frozen BK5.out 3; have hfv_4:=blk_frozen BK5.out 4; have hfv_5:=blk_frozen BK5.out 5; have hfv_6:=blk_frozen BK5.out 6
      cases b with
      | false=>
        have hn : ¬ ((false : Bool) = true ∧ txt.toList = s.toList):=fun h=>by cases h.1
        have HRes2:=Aside0.mk (HRes.out.trans (if_neg hn))
        clear hn
        go_wp2_with (first | ((with_reducible refine gate_dst (N:=8) rfl ?_); refine box_event ?hg (N:=8) ?hd (cs:=#[.int .i64 0,.int .i64 0,.int .i64 0,.int .i64 0,.int .i64 0,.int .i64 0,.int .i64 0]) (t:=25) ?hr ?_; (case hd=>rfl); (case hg=>rfl); (case hr=>first | (go_simp; done) | (go_simp; rfl)); intro gb8 hg w6 hbox hb; have m0_:=Aside0.mk (blk_below (by (with_reducible repeat (first | refine blk_drewN ?_ _ | refine blk_drew ?_ | refine blk_alloc ?_ _)); exact BK2.out) hb); have N82:=Aside0.mk (show gb2 ≠ gb8 from by rw [hg]; exact Nat.ne_of_lt (blk_lt BK2.out)); have n0_:=Aside0.mk (below_step (by repeat (first | (with_reducible first | exact HB.out | apply below_alloc | apply pw_below_drewN | apply below_drew1 | refine below_set ?_ GE2.out | refine below_set ?_ GE5.out) | exact HB.out)) hb); have n1_:=Aside0.mk (hbox); have n2_:=Aside0.mk ((by rw [hg]; exact (below_size (by repeat (first | (with_reducible first | exact HB.out | apply below_alloc | apply pw_below_drewN | apply below_drew1 | refine below_set ?_ GE2.out | refine below_set ?_ GE5.out) | exact HB.out))) : w.heap.size ≤ gb8)); clear HB BK2; have HB:=n0_; have BK8:=n1_; have GE8:=n2_; have BK2:=m0_; clear n0_ n1_ n2_ m0_; clear hb hbox hg; have hcp_0 : w6.cell? ⟨gb8,0,none⟩ = some (.int .i64 0):=(blk_cell BK8.out 0).trans rfl; have hcp_1 : w6.cell? ⟨gb8,1,none⟩ = some (.int .i64 0):=(blk_cell BK8.out 1).trans rfl; have hcp_2 : w6.cell? ⟨gb8,2,none⟩ = some (.int .i64 0):=(blk_cell BK8.out 2).trans rfl; have hcp_3 : w6.cell? ⟨gb8,3,none⟩ = some (.int .i64 0):=(blk_cell BK8.out 3).trans rfl; have hcp_4 : w6.cell? ⟨gb8,4,none⟩ = some (.int .i64 0):=(blk_cell BK8.out 4).trans rfl; have hcp_5 : w6.cell? ⟨gb8,5,none⟩ = some (.int .i64 0):=(blk_cell BK8.out 5).trans rfl; have hcp_6 : w6.cell? ⟨gb8,6,none⟩ = some (.int .i64 0):=(blk_cell BK8.out 6).trans rfl; have hfp_0:=blk_frozen BK8.out 0; have hfp_1:=blk_frozen BK8.out 1; have hfp_2:=blk_frozen BK8.out 2; have hfp_3:=blk_frozen BK8.out 3; have hfp_4:=blk_frozen BK8.out 4; have hfp_5:=blk_frozen BK8.out 5; have hfp_6:=blk_frozen BK8.out 6) | (go_at_call 26; refine (impl_ValidShift.calls 10 a0 a1 a2 a3 a4 a5 a6 _ _ HV.out).mono ?_; rintro e w15 ⟨rfl,hb⟩; have m0_:=Aside0.mk (blk_below (o:=.cells #[.int .i64 0,.int .i64 0,.int .i64 0,.int .i64 0,.int .i64 0,.int .i64 0,.int .i64 0] 25 (0,0)) (g:=gb2) (by (with_reducible repeat (first | refine blk_drewN ?_ _ | refine blk_drew ?_ | refine blk_alloc ?_ _)); exact (blk_far (blk_far (blk_far (blk_far (blk_far (blk_far (blk_far BK2.out N82.out _) N82.out _) N82.out _) N82.out _) N82.out _) N82.out _) N82.out _)) hb); have m1_:=Aside0.mk (blk_below (o:=.cells #[.int .i64 a0,.int .i64 a1,.int .i64 a2,.int .i64 a3,.int .i64 a4,.int .i64 a5,.int .i64 a6] 25 (0,0)) (g:=gb8) (by (with_reducible repeat (first | refine blk_drewN ?_ _ | refine blk_drew ?_ | refine blk_alloc ?_ _)); exact (blk_put (blk_put (blk_put (blk_put (blk_put (blk_put (blk_put BK8.out 0 _ rfl) 1 _ rfl) 2 _ rfl) 3 _ rfl) 4 _ rfl) 5 _ rfl) 6 _ rfl)) hb); have n0_:=Aside0.mk (below_step (by repeat (first | (with_reducible first | exact HB.out | apply below_alloc | apply pw_below_drewN | apply below_drew1 | refine below_set ?_ GE2.out | refine below_set ?_ GE5.out | refine below_set ?_ GE8.out) | exact HB.out)) hb); clear HB BK2 BK8; have HB:=n0_; have BK2:=m0_; have BK8:=m1_; clear n0_ m0_ m1_; clear hb; have hcre_0 : w15.cell? ⟨gb8,0,none⟩ = some (.int .i64 a0):=(blk_cell BK8.out 0).trans rfl; have hcre_1 : w15.cell? ⟨gb8,1,none⟩ = some (.int .i64 a1):=(blk_cell BK8.out 1).trans rfl; have hcre_2 : w15.cell? ⟨gb8,2,none⟩ = some (.int .i64 a2):=(blk_cell BK8.out 2).trans rfl; have hcre_3 : w15.cell? ⟨gb8,3,none⟩ = some (.int .i64 a3):=(blk_cell BK8.out 3).trans rfl; have hcre_4 : w15.cell? ⟨gb8,4,none⟩ = some (.int .i64 a4):=(blk_cell BK8.out 4).trans rfl; have hcre_5 : w15.cell? ⟨gb8,5,none⟩ = some (.int .i64 a5):=(blk_cell BK8.out 5).trans rfl; have hcre_6 : w15.cell? ⟨gb8,6,none⟩ = some (.int .i64 a6):=(blk_cell BK8.out 6).trans rfl; have hfre_0:=blk_frozen BK8.out 0; have hfre_1:=blk_frozen BK8.out 1; have hfre_2:=blk_frozen BK8.out 2; have hfre_3:=blk_frozen BK8.out 3; have hfre_4:=blk_frozen BK8.out 4; have hfre_5:=blk_frozen BK8.out 5; have hfre_6:=blk_frozen BK8.out 6; have hcrz_0 : w15.cell? ⟨gb2,0,none⟩ = some (.int .i64 0):=(blk_cell BK2.out 0).trans rfl; have hcrz_1 : w15.cell? ⟨gb2,1,none⟩ = some (.int .i64 0):=(blk_cell BK2.out 1).trans rfl; have hcrz_2 : w15.cell? ⟨gb2,2,none⟩ = some (.int .i64 0):=(blk_cell BK2.out 2).trans rfl; have hcrz_3 : w15.cell? ⟨gb2,3,none⟩ = some (.int .i64 0):=(blk_cell BK2.out 3).trans rfl; have hcrz_4 : w15.cell? ⟨gb2,4,none⟩ = some (.int .i64 0):=(blk_cell BK2.out 4).trans rfl; have hcrz_5 : w15.cell? ⟨gb2,5,none⟩ = some (.int .i64 0):=(blk_cell BK2.out 5).trans rfl; have hcrz_6 : w15.cell? ⟨gb2,6,none⟩ = some (.int .i64 0):=(blk_cell BK2.out 6).trans rfl; have hfrz_0:=blk_frozen BK2.out 0; have hfrz_1:=blk_frozen BK2.out 1; have hfrz_2:=blk_frozen BK2.out 2; have hfrz_3:=blk_frozen BK2.out 3; have hfrz_4:=blk_frozen BK2.out 4; have hfrz_5:=blk_frozen BK2.out 5; have hfrz_6:=blk_frozen BK2.out 6))
        refine bodyPost_ret (results_ct rfl _ _ gb2 25 #[.int .i64 0,.int .i64 0,.int .i64 0,.int .i64 0,.int .i64 0,.int .i64 0,.int .i64 0] (0,0) _ ?hx1 ?hy1 Tryz.underlying25 rfl (by kernel_rfl)) rfl ?_
        case hx1=>rfl
        case hy1=>exact (blk_put (blk_put (blk_put (blk_put (blk_put (blk_put (blk_put BK2.out 0 _ rfl) 1 _ rfl) 2 _ rfl) 3 _ rfl) 4 _ rfl) 5 _ rfl) 6 _ rfl)
        exact ⟨by rw [HRes2.out]; rfl,(by repeat (first | (with_reducible first | exact HB.out | apply below_alloc | apply pw_below_drewN | apply below_drew1 | refine below_set ?_ GE2.out | refine below_set ?_ GE5.out | refine below_set ?_ GE8.out) | exact HB.out))⟩
      | true=>
        by_cases c1 : txt.toList = s.toList
        · have HRes2:=Aside0.mk (HRes.out.trans (if_pos ⟨rfl,c1⟩))
          have c1b0 : (txt.toList == s.toList) = true:=beq_iff_eq.mpr c1
          have c1b1 : (txt.toList != s.toList) = false:=bne_eq_false_iff_eq.mpr c1
          clear c1
          go_wp2_with (first | ((with_reducible refine gate_dst (N:=8) rfl ?_); refine box_event ?hg (N:=8) ?hd (cs:=#[.int .i64 0,.int .i64 0,.int .i64 0,.int .i64 0,.int .i64 0,.int .i64 0,.int .i64 0]) (t:=25) ?hr ?_; (case hd=>rfl); (case hg=>rfl); (case hr=>first | (go_simp; done) | (go_simp; rfl)); intro gb8 hg w6 hbox hb; have m0_:=Aside0.mk (blk_below (by (with_reducible repeat (first | refine blk_drewN ?_ _ | refine blk_drew ?_ | refine blk_alloc ?_ _)); exact BK2.out) hb); have N82:=Aside0.mk (show gb2 ≠ gb8 from by rw [hg]; exact Nat.ne_of_lt (blk_lt BK2.out)); have n0_:=Aside0.mk (below_step (by repeat (first | (with_reducible first | exact HB.out | apply below_alloc | apply pw_below_drewN | apply below_drew1 | refine below_set ?_ GE2.out | refine below_set ?_ GE5.out) | exact HB.out)) hb); have n1_:=Aside0.mk (hbox); have n2_:=Aside0.mk ((by rw [hg]; exact (below_size (by repeat (first | (with_reducible first | exact HB.out | apply below_alloc | apply pw_below_drewN | apply below_drew1 | refine below_set ?_ GE2.out | refine below_set ?_ GE5.out) | exact HB.out))) : w.heap.size ≤ gb8)); clear HB BK2; have HB:=n0_; have BK8:=n1_; have GE8:=n2_; have BK2:=m0_; clear n0_ n1_ n2_ m0_; clear hb hbox hg; have hcp_0 : w6.cell? ⟨gb8,0,none⟩ = some (.int .i64 0):=(blk_cell BK8.out 0).trans rfl; have hcp_1 : w6.cell? ⟨gb8,1,none⟩ = some (.int .i64 0):=(blk_cell BK8.out 1).trans rfl; have hcp_2 : w6.cell? ⟨gb8,2,none⟩ = some (.int .i64 0):=(blk_cell BK8.out 2).trans rfl; have hcp_3 : w6.cell? ⟨gb8,3,none⟩ = some (.int .i64 0):=(blk_cell BK8.out 3).trans rfl; have hcp_4 : w6.cell? ⟨gb8,4,none⟩ = some (.int .i64 0):=(blk_cell BK8.out 4).trans rfl; have hcp_5 : w6.cell? ⟨gb8,5,none⟩ = some (.int .i64 0):=(blk_cell BK8.out 5).trans rfl; have hcp_6 : w6.cell? ⟨gb8,6,none⟩ = some (.int .i64 0):=(blk_cell BK8.out 6).trans rfl; have hfp_0:=blk_frozen BK8.out 0; have hfp_1:=blk_frozen BK8.out 1; have hfp_2:=blk_frozen BK8.out 2; have hfp_3:=blk_frozen BK8.out 3; have hfp_4:=blk_frozen BK8.out 4; have hfp_5:=blk_frozen BK8.out 5; have hfp_6:=blk_frozen BK8.out 6) | (go_at_call 26; refine (impl_ValidShift.calls 10 a0 a1 a2 a3 a4 a5 a6 _ _ HV.out).mono ?_; rintro e w15 ⟨rfl,hb⟩; have m0_:=Aside0.mk (blk_below (o:=.cells #[.int .i64 0,.int .i64 0,.int .i64 0,.int .i64 0,.int .i64 0,.int .i64 0,.int .i64 0] 25 (0,0)) (g:=gb2) (by (with_reducible repeat (first | refine blk_drewN ?_ _ | refine blk_drew ?_ | refine blk_alloc ?_ _)); exact (blk_far (blk_far (blk_far (blk_far (blk_far (blk_far (blk_far BK2.out N82.out _) N82.out _) N82.out _) N82.out _) N82.out _) N82.out _) N82.out _)) hb); have m1_:=Aside0.mk (blk_below (o:=.cells #[.int .i64 a0,.int .i64 a1,.int .i64 a2,.int .i64 a3,.int .i64 a4,.int .i64 a5,.int .i64 a6] 25 (0,0)) (g:=gb8) (by (with_reducible repeat (first | refine blk_drewN ?_ _ | refine blk_drew ?_ | refine blk_alloc ?_ _)); exact (blk_put (blk_put (blk_put (blk_put (blk_put (blk_put (blk_put BK8.out 0 _ rfl) 1 _ rfl) 2 _ rfl) 3 _ rfl) 4 _ rfl) 5 _ rfl) 6 _ rfl)) hb); have n0_:=Aside0.mk (below_step (by repeat (first | (with_reducible first | exact HB.out | apply below_alloc | apply pw_below_drewN | apply below_drew1 | refine below_set ?_ GE2.out | refine below_set ?_ GE5.out | refine below_set ?_ GE8.out) | exact HB.out)) hb); clear HB BK2 BK8; have HB:=n0_; have BK2:=m0_; have BK8:=m1_; clear n0_ m0_ m1_; clear hb; have hcre_0 : w15.cell? ⟨gb8,0,none⟩ = some (.int .i64 a0):=(blk_cell BK8.out 0).trans rfl; have hcre_1 : w15.cell? ⟨gb8,1,none⟩ = some (.int .i64 a1):=(blk_cell BK8.out 1).trans rfl; have hcre_2 : w15.cell? ⟨gb8,2,none⟩ = some (.int .i64 a2):=(blk_cell BK8.out 2).trans rfl; have hcre_3 : w15.cell? ⟨gb8,3,none⟩ = some (.int .i64 a3):=(blk_cell BK8.out 3).trans rfl; have hcre_4 : w15.cell? ⟨gb8,4,none⟩ = some (.int .i64 a4):=(blk_cell BK8.out 4).trans rfl; have hcre_5 : w15.cell? ⟨gb8,5,none⟩ = some (.int .i64 a5):=(blk_cell BK8.out 5).trans rfl; have hcre_6 : w15.cell? ⟨gb8,6,none⟩ = some (.int .i64 a6):=(blk_cell BK8.out 6).trans rfl; have hfre_0:=blk_frozen BK8.out 0; have hfre_1:=blk_frozen BK8.out 1; have hfre_2:=blk_frozen BK8.out 2; have hfre_3:=blk_frozen BK8.out 3; have hfre_4:=blk_frozen BK8.out 4; have hfre_5:=blk_frozen BK8.out 5; have hfre_6:=blk_frozen BK8.out 6; have hcrz_0 : w15.cell? ⟨gb2,0,none⟩ = some (.int .i64 0):=(blk_cell BK2.out 0).trans rfl; have hcrz_1 : w15.cell? ⟨gb2,1,none⟩ = some (.int .i64 0):=(blk_cell BK2.out 1).trans rfl; have hcrz_2 : w15.cell? ⟨gb2,2,none⟩ = some (.int .i64 0):=(blk_cell BK2.out 2).trans rfl; have hcrz_3 : w15.cell? ⟨gb2,3,none⟩ = some (.int .i64 0):=(blk_cell BK2.out 3).trans rfl; have hcrz_4 : w15.cell? ⟨gb2,4,none⟩ = some (.int .i64 0):=(blk_cell BK2.out 4).trans rfl; have hcrz_5 : w15.cell? ⟨gb2,5,none⟩ = some (.int .i64 0):=(blk_cell BK2.out 5).trans rfl; have hcrz_6 : w15.cell? ⟨gb2,6,none⟩ = some (.int .i64 0):=(blk_cell BK2.out 6).trans rfl; have hfrz_0:=blk_frozen BK2.out 0; have hfrz_1:=blk_frozen BK2.out 1; have hfrz_2:=blk_frozen BK2.out 2; have hfrz_3:=blk_frozen BK2.out 3; have hfrz_4:=blk_frozen BK2.out 4; have hfrz_5:=blk_frozen BK2.out 5; have hfrz_6:=blk_frozen BK2.out 6) | (go_at_call 33; refine (HTx.out _ (tab_below HT.out (by repeat (first | (with_reducible first | exact HB.out | apply below_alloc | apply pw_below_drewN | apply below_drew1 | refine below_set ?_ GE2.out | refine below_set ?_ GE5.out | refine below_set ?_ GE8.out) | exact HB.out)))).mono ?_; rintro e w17 ⟨rfl,hb⟩; have m0_:=Aside0.mk (blk_below (o:=.cells #[.int .i64 0,.int .i64 0,.int .i64 0,.int .i64 0,.int .i64 0,.int .i64 0,.int .i64 0] 25 (0,0)) (g:=gb2) (by (with_reducible repeat (first | refine blk_drewN ?_ _ | refine blk_drew ?_ | refine blk_alloc ?_ _)); exact BK2.out) hb); have m1_:=Aside0.mk (blk_below (o:=.cells #[.int .i64 a0,.int .i64 a1,.int .i64 a2,.int .i64 a3,.int .i64 a4,.int .i64 a5,.int .i64 a6] 25 (0,0)) (g:=gb8) (by (with_reducible repeat (first | refine blk_drewN ?_ _ | refine blk_drew ?_ | refine blk_alloc ?_ _)); exact BK8.out) hb); have n0_:=Aside0.mk (below_step (by repeat (first | (with_reducible first | exact HB.out | apply below_alloc | apply pw_below_drewN | apply below_drew1 | refine below_set ?_ GE2.out | refine below_set ?_ GE5.out | refine below_set ?_ GE8.out) | exact HB.out)) hb); clear HB BK2 BK8; have HB:=n0_; have BK2:=m0_; have BK8:=m1_; clear n0_ m0_ m1_; clear hb; have hcse_0 : w17.cell? ⟨gb8,0,none⟩ = some (.int .i64 a0):=(blk_cell BK8.out 0).trans rfl; have hcse_1 : w17.cell? ⟨gb8,1,none⟩ = some (.int .i64 a1):=(blk_cell BK8.out 1).trans rfl; have hcse_2 : w17.cell? ⟨gb8,2,none⟩ = some (.int .i64 a2):=(blk_cell BK8.out 2).trans rfl; have hcse_3 : w17.cell? ⟨gb8,3,none⟩ = some (.int .i64 a3):=(blk_cell BK8.out 3).trans rfl; have hcse_4 : w17.cell? ⟨gb8,4,none⟩ = some (.int .i64 a4):=(blk_cell BK8.out 4).trans rfl; have hcse_5 : w17.cell? ⟨gb8,5,none⟩ = some (.int .i64 a5):=(blk_cell BK8.out 5).trans rfl; have hcse_6 : w17.cell? ⟨gb8,6,none⟩ = some (.int .i64 a6):=(blk_cell BK8.out 6).trans rfl; have hfse_0:=blk_frozen BK8.out 0; have hfse_1:=blk_frozen BK8.out 1; have hfse_2:=blk_frozen BK8.out 2; have hfse_3:=blk_frozen BK8.out 3; have hfse_4:=blk_frozen BK8.out 4; have hfse_5:=blk_frozen BK8.out 5; have hfse_6:=blk_frozen BK8.out 6; have hcsz_0 : w17.cell? ⟨gb2,0,none⟩ = some (.int .i64 0):=(blk_cell BK2.out 0).trans rfl; have hcsz_1 : w17.cell? ⟨gb2,1,none⟩ = some (.int .i64 0):=(blk_cell BK2.out 1).trans rfl; have hcsz_2 : w17.cell? ⟨gb2,2,none⟩ = some (.int .i64 0):=(blk_cell BK2.out 2).trans rfl; have hcsz_3 : w17.cell? ⟨gb2,3,none⟩ = some (.int .i64 0):=(blk_cell BK2.out 3).trans rfl; have hcsz_4 : w17.cell? ⟨gb2,4,none⟩ = some (.int .i64 0):=(blk_cell BK2.out 4).trans rfl; have hcsz_5 : w17.cell? ⟨gb2,5,none⟩ = some (.int .i64 0):=(blk_cell BK2.out 5).trans rfl; have hcsz_6 : w17.cell? ⟨gb2,6,none⟩ = some (.int .i64 0):=(blk_cell BK2.out 6).trans rfl; have hfsz_0:=blk_frozen BK2.out 0; have hfsz_1:=blk_frozen BK2.out 1; have hfsz_2:=blk_frozen BK2.out 2; have hfsz_3:=blk_frozen BK2.out 3; have hfsz_4:=blk_frozen BK2.out 4; have hfsz_5:=blk_frozen BK2.out 5; have hfsz_6:=blk_frozen BK2.out 6))
          refine bodyPost_ret (results_ct rfl _ _ gb2 25 #[.int .i64 a0,.int .i64 a1,.int .i64 a2,.int .i64 a3,.int .i64 a4,.int .i64 a5,.int .i64 a6] (0,0) _ ?hx2 ?hy2 Tryz.underlying25 rfl (by kernel_rfl)) rfl ?_
          case hx2=>rfl
          case hy2=>exact (blk_put (blk_put (blk_put (blk_put (blk_put (blk_put (blk_put BK2.out 0 _ rfl) 1 _ rfl) 2 _ rfl) 3 _ rfl) 4 _ rfl) 5 _ rfl) 6 _ rfl)
          exact ⟨by rw [HRes2.out]; rfl,(by repeat (first | (with_reducible first | exact HB.out | apply below_alloc | apply pw_below_drewN | apply below_drew1 | refine below_set ?_ GE2.out | refine below_set ?_ GE5.out | refine below_set ?_ GE8.out) | exact HB.out))⟩
        · have hn : ¬ ((true : Bool) = true ∧ txt.toList = s.toList):=fun h=>c1 h.2
          have HRes2:=Aside0.mk (HRes.out.trans (if_neg hn))
          clear hn
          have c1b0 : (txt.toList == s.toList) = false:=beq_eq_false_iff_ne.mpr c1
          have c1b1 : (txt.toList != s.toList) = true:=bne_iff_ne.mpr c1
          clear c1
          go_wp2_with (first | ((with_reducible refine gate_dst (N:=8) rfl ?_); refine box_event ?hg (N:=8) ?hd (cs:=#[.int .i64 0,.int .i64 0,.int .i64 0,.int .i64 0,.int .i64 0,.int .i64 0,.int .i64 0]) (t:=25) ?hr ?_; (case hd=>rfl); (case hg=>rfl); (case hr=>first | (go_simp; done) | (go_simp; rfl)); intro gb8 hg w6 hbox hb; have m0_:=Aside0.mk (blk_below (by (with_reducible repeat (first | refine blk_drewN ?_ _ | refine blk_drew ?_ | refine blk_alloc ?_ _)); exact BK2.out) hb); have N82:=Aside0.mk (show gb2 ≠ gb8 from by rw [hg]; exact Nat.ne_of_lt (blk_lt BK2.out)); have n0_:=Aside0.mk (below_step (by repeat (first | (with_reducible first | exact HB.out | apply below_alloc | apply pw_below_drewN | apply below_drew1 | refine below_set ?_ GE2.out | refine below_set ?_ GE5.out) | exact HB.out)) hb); have n1_:=Aside0.mk (hbox); have n2_:=Aside0.mk ((by rw [hg]; exact (below_size (by repeat (first | (with_reducible first | exact HB.out | apply below_alloc | apply pw_below_drewN | apply below_drew1 | refine below_set ?_ GE2.out | refine below_set ?_ GE5.out) | exact HB.out))) : w.heap.size ≤ gb8)); clear HB BK2; have HB:=n0_; have BK8:=n1_; have GE8:=n2_; have BK2:=m0_; clear n0_ n1_ n2_ m0_; clear hb hbox hg; have hcp_0 : w6.cell? ⟨gb8,0,none⟩ = some (.int .i64 0):=(blk_cell BK8.out 0).trans rfl; have hcp_1 : w6.cell? ⟨gb8,1,none⟩ = some (.int .i64 0):=(blk_cell BK8.out 1).trans rfl; have hcp_2 : w6.cell? ⟨gb8,2,none⟩ = some (.int .i64 0):=(blk_cell BK8.out 2).trans rfl; have hcp_3 : w6.cell? ⟨gb8,3,none⟩ = some (.int .i64 0):=(blk_cell BK8.out 3).trans rfl; have hcp_4 : w6.cell? ⟨gb8,4,none⟩ = some (.int .i64 0):=(blk_cell BK8.out 4).trans rfl; have hcp_5 : w6.cell? ⟨gb8,5,none⟩ = some (.int .i64 0):=(blk_cell BK8.out 5).trans rfl; have hcp_6 : w6.cell? ⟨gb8,6,none⟩ = some (.int .i64 0):=(blk_cell BK8.out 6).trans rfl; have hfp_0:=blk_frozen BK8.out 0; have hfp_1:=blk_frozen BK8.out 1; have hfp_2:=blk_frozen BK8.out 2; have hfp_3:=blk_frozen BK8.out 3; have hfp_4:=blk_frozen BK8.out 4; have hfp_5:=blk_frozen BK8.out 5; have hfp_6:=blk_frozen BK8.out 6) | (go_at_call 26; refine (impl_ValidShift.calls 10 a0 a1 a2 a3 a4 a5 a6 _ _ HV.out).mono ?_; rintro e w15 ⟨rfl,hb⟩; have m0_:=Aside0.mk (blk_below (o:=.cells #[.int .i64 0,.int .i64 0,.int .i64 0,.int .i64 0,.int .i64 0,.int .i64 0,.int .i64 0] 25 (0,0)) (g:=gb2) (by (with_reducible repeat (first | refine blk_drewN ?_ _ | refine blk_drew ?_ | refine blk_alloc ?_ _)); exact (blk_far (blk_far (blk_far (blk_far (blk_far (blk_far (blk_far BK2.out N82.out _) N82.out _) N82.out _) N82.out _) N82.out _) N82.out _) N82.out _)) hb); have m1_:=Aside0.mk (blk_below (o:=.cells #[.int .i64 a0,.int .i64 a1,.int .i64 a2,.int .i64 a3,.int .i64 a4,.int .i64 a5,.int .i64 a6] 25 (0,0)) (g:=gb8) (by (with_reducible repeat (first | refine blk_drewN ?_ _ | refine blk_drew ?_ | refine blk_alloc ?_ _)); exact (blk_put (blk_put (blk_put (blk_put (blk_put (blk_put (blk_put BK8.out 0 _ rfl) 1 _ rfl) 2 _ rfl) 3 _ rfl) 4 _ rfl) 5 _ rfl) 6 _ rfl)) hb); have n0_:=Aside0.mk (below_step (by repeat (first | (with_reducible first | exact HB.out | apply below_alloc | apply pw_below_drewN | apply below_drew1 | refine below_set ?_ GE2.out | refine below_set ?_ GE5.out | refine below_set ?_ GE8.out) | exact HB.out)) hb); clear HB BK2 BK8; have HB:=n0_; have BK2:=m0_; have BK8:=m1_; clear n0_ m0_ m1_; clear hb; have hcre_0 : w15.cell? ⟨gb8,0,none⟩ = some (.int .i64 a0):=(blk_cell BK8.out 0).trans rfl; have hcre_1 : w15.cell? ⟨gb8,1,none⟩ = some (.int .i64 a1):=(blk_cell BK8.out 1).trans rfl; have hcre_2 : w15.cell? ⟨gb8,2,none⟩ = some (.int .i64 a2):=(blk_cell BK8.out 2).trans rfl; have hcre_3 : w15.cell? ⟨gb8,3,none⟩ = some (.int .i64 a3):=(blk_cell BK8.out 3).trans rfl; have hcre_4 : w15.cell? ⟨gb8,4,none⟩ = some (.int .i64 a4):=(blk_cell BK8.out 4).trans rfl; have hcre_5 : w15.cell? ⟨gb8,5,none⟩ = some (.int .i64 a5):=(blk_cell BK8.out 5).trans rfl; have hcre_6 : w15.cell? ⟨gb8,6,none⟩ = some (.int .i64 a6):=(blk_cell BK8.out 6).trans rfl; have hfre_0:=blk_frozen BK8.out 0; have hfre_1:=blk_frozen BK8.out 1; have hfre_2:=blk_frozen BK8.out 2; have hfre_3:=blk_frozen BK8.out 3; have hfre_4:=blk_frozen BK8.out 4; have hfre_5:=blk_frozen BK8.out 5; have hfre_6:=blk_frozen BK8.out 6; have hcrz_0 : w15.cell? ⟨gb2,0,none⟩ = some (.int .i64 0):=(blk_cell BK2.out 0).trans rfl; have hcrz_1 : w15.cell? ⟨gb2,1,none⟩ = some (.int .i64 0):=(blk_cell BK2.out 1).trans rfl; have hcrz_2 : w15.cell? ⟨gb2,2,none⟩ = some (.int .i64 0):=(blk_cell BK2.out 2).trans rfl; have hcrz_3 : w15.cell? ⟨gb2,3,none⟩ = some (.int .i64 0):=(blk_cell BK2.out 3).trans rfl; have hcrz_4 : w15.cell? ⟨gb2,4,none⟩ = some (.int .i64 0):=(blk_cell BK2.out 4).trans rfl; have hcrz_5 : w15.cell? ⟨gb2,5,none⟩ = some (.int .i64 0):=(blk_cell BK2.out 5).trans rfl; have hcrz_6 : w15.cell? ⟨gb2,6,none⟩ = some (.int .i64 0):=(blk_cell BK2.out 6).trans rfl; have hfrz_0:=blk_frozen BK2.out 0; have hfrz_1:=blk_frozen BK2.out 1; have hfrz_2:=blk_frozen BK2.out 2; have hfrz_3:=blk_frozen BK2.out 3; have hfrz_4:=blk_frozen BK2.out 4; have hfrz_5:=blk_frozen BK2.out 5; have hfrz_6:=blk_frozen BK2.out 6) | (go_at_call 33; refine (HTx.out _ (tab_below HT.out (by repeat (first | (with_reducible first | exact HB.out | apply below_alloc | apply pw_below_drewN | apply below_drew1 | refine below_set ?_ GE2.out | refine below_set ?_ GE5.out | refine below_set ?_ GE8.out) | exact HB.out)))).mono ?_; rintro e w17 ⟨rfl,hb⟩; have m0_:=Aside0.mk (blk_below (o:=.cells #[.int .i64 0,.int .i64 0,.int .i64 0,.int .i64 0,.int .i64 0,.int .i64 0,.int .i64 0] 25 (0,0)) (g:=gb2) (by (with_reducible repeat (first | refine blk_drewN ?_ _ | refine blk_drew ?_ | refine blk_alloc ?_ _)); exact BK2.out) hb); have m1_:=Aside0.mk (blk_below (o:=.cells #[.int .i64 a0,.int .i64 a1,.int .i64 a2,.int .i64 a3,.int .i64 a4,.int .i64 a5,.int .i64 a6] 25 (0,0)) (g:=gb8) (by (with_reducible repeat (first | refine blk_drewN ?_ _ | refine blk_drew ?_ | refine blk_alloc ?_ _)); exact BK8.out) hb); have n0_:=Aside0.mk (below_step (by repeat (first | (with_reducible first | exact HB.out | apply below_alloc | apply pw_below_drewN | apply below_drew1 | refine below_set ?_ GE2.out | refine below_set ?_ GE5.out | refine below_set ?_ GE8.out) | exact HB.out)) hb); clear HB BK2 BK8; have HB:=n0_; have BK2:=m0_; have BK8:=m1_; clear n0_ m0_ m1_; clear hb; have hcse_0 : w17.cell? ⟨gb8,0,none⟩ = some (.int .i64 a0):=(blk_cell BK8.out 0).trans rfl; have hcse_1 : w17.cell? ⟨gb8,1,none⟩ = some (.int .i64 a1):=(blk_cell BK8.out 1).trans rfl; have hcse_2 : w17.cell? ⟨gb8,2,none⟩ = some (.int .i64 a2):=(blk_cell BK8.out 2).trans rfl; have hcse_3 : w17.cell? ⟨gb8,3,none⟩ = some (.int .i64 a3):=(blk_cell BK8.out 3).trans rfl; have hcse_4 : w17.cell? ⟨gb8,4,none⟩ = some (.int .i64 a4):=(blk_cell BK8.out 4).trans rfl; have hcse_5 : w17.cell? ⟨gb8,5,none⟩ = some (.int .i64 a5):=(blk_cell BK8.out 5).trans rfl; have hcse_6 : w17.cell? ⟨gb8,6,none⟩ = some (.int .i64 a6):=(blk_cell BK8.out 6).trans rfl; have hfse_0:=blk_frozen BK8.out 0; have hfse_1:=blk_frozen BK8.out 1; have hfse_2:=blk_frozen BK8.out 2; have hfse_3:=blk_frozen BK8.out 3; have hfse_4:=blk_frozen BK8.out 4; have hfse_5:=blk_frozen BK8.out 5; have hfse_6:=blk_frozen BK8.out 6; have hcsz_0 : w17.cell? ⟨gb2,0,none⟩ = some (.int .i64 0):=(blk_cell BK2.out 0).trans rfl; have hcsz_1 : w17.cell? ⟨gb2,1,none⟩ = some (.int .i64 0):=(blk_cell BK2.out 1).trans rfl; have hcsz_2 : w17.cell? ⟨gb2,2,none⟩ = some (.int .i64 0):=(blk_cell BK2.out 2).trans rfl; have hcsz_3 : w17.cell? ⟨gb2,3,none⟩ = some (.int .i64 0):=(blk_cell BK2.out 3).trans rfl; have hcsz_4 : w17.cell? ⟨gb2,4,none⟩ = some (.int .i64 0):=(blk_cell BK2.out 4).trans rfl; have hcsz_5 : w17.cell? ⟨gb2,5,none⟩ = some (.int .i64 0):=(blk_cell BK2.out 5).trans rfl; have hcsz_6 : w17.cell? ⟨gb2,6,none⟩ = some (.int .i64 0):=(blk_cell BK2.out 6).trans rfl; have hfsz_0:=blk_frozen BK2.out 0; have hfsz_1:=blk_frozen BK2.out 1; have hfsz_2:=blk_frozen BK2.out 2; have hfsz_3:=blk_frozen BK2.out 3; have hfsz_4:=blk_frozen BK2.out 4; have hfsz_5:=blk_frozen BK2.out 5; have hfsz_6:=blk_frozen BK2.out 6))
          refine bodyPost_ret (results_ct rfl _ _ gb2 25 #[.int .i64 0,.int .i64 0,.int .i64 0,.int .i64 0,.int .i64 0,.int .i64 0,.int .i64 0] (0,0) _ ?hx3 ?hy3 Tryz.underlying25 rfl (by kernel_rfl)) rfl ?_
          case hx3=>rfl
          case hy3=>exact (blk_put (blk_put (blk_put (blk_put (blk_put (blk_put (blk_put BK2.out 0 _ rfl) 1 _ rfl) 2 _ rfl) 3 _ rfl) 4 _ rfl) 5 _ rfl) 6 _ rfl)
          exact ⟨by rw [HRes2.out]; rfl,(by repeat (first | (with_reducible first | exact HB.out | apply below_alloc | apply pw_below_drewN | apply below_drew1 | refine below_set ?_ GE2.out | refine below_set ?_ GE5.out | refine below_set ?_ GE8.out) | exact HB.out))⟩
end Go.Proofs.YtfhnlkinjbakgaaGreatDoor.PFnShifts
namespace Go.Proofs.YtfhnlkinjbakgaaGreatDoor.PFnShifts
open Go.RowKit Go.Proofs.YtfhnlkinjbakgaaGreatDoorW.PrintWords Go.Proofs.YtfhnlkinjbakgaaGreatDoorW.PrintLast Go.Proofs.YtfhnlkinjbakgaaGreatDoorW.PrintMore
set_option linter.unusedVariables false
set_option linter.unusedSimpArgs false
theorem index_at (c : UInt8) : ∀ (p q : List UInt8),(∀ b ∈ p,b ≠ c) → Lib.index (p ++ c :: q) [c] = p.length
  | [],q,_=>by simp [Lib.index,List.isPrefixOf]
  | b :: p,q,h=>by
    have ih:=index_at c p q (fun x hx=>h x (List.mem_cons_of_mem _ hx))
    have hb : ([c] : List UInt8).isPrefixOf (b :: (p ++ c :: q)) = false:=by simp [List.isPrefixOf,Ne.symm (h b (List.mem_cons_self))]
    rw [List.cons_append,Lib.index,hb,ih]
    have : ((p.length : Int) == -1) = false:=by rw [beq_eq_false_iff_ne]; omega
    simp [this]
theorem index_no (c : UInt8) : ∀ (p : List UInt8),(∀ b ∈ p,b ≠ c) → Lib.index p [c] = -1
  | [],_=>by simp [Lib.index]
  | b :: p,h=>by
    have ih:=index_no c p (fun x hx=>h x (List.mem_cons_of_mem _ hx))
    have hb : ([c] : List UInt8).isPrefixOf (b :: p) = false:=by simp [List.isPrefixOf,Ne.symm (h b (List.mem_cons_self))]
    rw [Lib.index,hb,ih]
    rfl
theorem split_at (c : UInt8) (p q : List UInt8) (h : ∀ b ∈ p,b ≠ c) : Lib.split (p ++ c :: q) [c] = p :: Lib.split q [c]:=by
  have hi:=index_at c p q h
  unfold Lib.split
  rw [Lib.count_hit (by simp) hi,Nat.add_comm,Lib.splitK,hi,if_neg (by rw [beq_iff_eq]; omega)]
  simp only [Int.toNat_natCast,Nat.add_zero,List.take_left,List.length_cons,List.length_nil]
  congr 2
  · rw [List.drop_append,List.drop_of_length_le (by omega)]; simp
  · rw [List.drop_append,List.drop_of_length_le (by omega)]; simp
theorem split_no (c : UInt8) (p : List UInt8) (h : ∀ b ∈ p,b ≠ c) : Lib.split p [c] = [p]:=by
  have hi:=index_no c p h
  unfold Lib.split
  rw [Lib.count_miss hi,Lib.splitK]
theorem split_join (c : UInt8) : ∀ (r : List (List UInt8)) (x : List UInt8),(∀ y ∈ x :: r,∀ b ∈ y,b ≠ c) → Lib.split (Lib.join (x :: r) [c]) [c] = x :: r
  | [],x,h=>by rw [Lib.join_one,split_no c x (h x (by simp))]
  | y :: r,x,h=>by
    have ih:=split_join c r y (fun z hz=>h z (List.mem_cons_of_mem _ hz))
    rw [Lib.join_cons] at ih ⊢
    have e : Lib.joinTail [c] (y :: r) = c :: (y ++ Lib.joinTail [c] r):=by simp [Lib.joinTail]
    rw [e,split_at c x _ (h x (by simp)),ih]
theorem dec_digits : ∀ u : Nat,∀ b ∈ Lib.decDigits u,48 ≤ b.toNat ∧ b.toNat ≤ 57:=by
  intro u
  induction u using Nat.strongRecOn with
  | _ u ih=>
    intro b hb
    rw [Lib.decDigits] at hb
    by_cases h : u < 10
    · rw [dif_pos h,List.mem_singleton] at hb
      rw [hb,UInt8.toNat_ofNat']
      omega
    · rw [dif_neg h] at hb
      rcases List.mem_append.1 hb with hb | hb
      · exact ih (u / 10) (by omega) b hb
      · rw [List.mem_singleton] at hb
        rw [hb,UInt8.toNat_ofNat']
        omega
theorem dec_ne (u : Nat) : ∃ c r,Lib.decDigits u = c :: r:=by
  cases h : Lib.decDigits u with
  | nil=>
    rw [Lib.decDigits] at h
    split at h
    · cases h
    · exact absurd h (by simp)
  | cons c r=>exact ⟨c,r,rfl⟩
theorem itoa_bytes (v : Int) : ∀ b ∈ Lib.itoa v,b.toNat = 45 ∨ 48 ≤ b.toNat ∧ b.toNat ≤ 57:=by
  intro b hb
  unfold Lib.itoa at hb
  split at hb
  · rcases List.mem_cons.1 hb with rfl | hb
    · exact Or.inl rfl
    · exact Or.inr (dec_digits _ b hb)
  · exact Or.inr (dec_digits _ b hb)
theorem itoa_blank (v : Int) : ∀ b ∈ Lib.itoa v,b ≠ 32:=by
  intro b hb e
  subst e
  have:=itoa_bytes v 32 hb
  exact absurd this (by decide)
theorem lst (x : ByteArray) : x.toList = x.data.toList:=ByteArray.toList_eq x
theorem bytes_eq {x y : ByteArray} (h : x.data.toList = y.data.toList) : x = y:=by
  cases x; cases y; congr; exact Array.toList_inj.1 h
theorem len_sz (x : ByteArray) : x.data.toList.length = x.size:=rfl
theorem its_d (v : Int) : (its v).data.toList = Lib.itoa v:=rfl
theorem extract_d (x : ByteArray) (a b : Nat) : (x.extract a b).data.toList = (x.data.toList.take b).drop a:=by
  rw [ByteArray.data_extract]; simp [Array.toList_extract,List.extract,List.drop_take]
theorem tr_minus {x : ByteArray} {r : List UInt8} (h : x.data.toList = 45 :: r) : (tr x).data.toList = r ∧ tr x = x.extract 1 x.size:=by
  have hs : x.size = r.length + 1:=by rw [← len_sz,h]; rfl
  have hp : ((⟨#[45]⟩ : ByteArray).size : Int) = 1:=rfl
  have hl : (⟨#[45]⟩ : ByteArray).toList = [45]:=by rw [lst]
  have e : tr x = x.extract 1 x.size:=by
    unfold tr strings_TrimPrefix.f stringslite_TrimPrefix.f stringslite_HasPrefix.f
    rw [hp,if_pos (by omega),if_pos (by omega),if_pos (by omega),hl,lst,extract_d,h]
    simp only [Option.bind_some]
    rw [if_pos (by rfl),if_pos (by omega),if_pos (by omega)]
    rfl
  refine ⟨?_,e⟩
  rw [e,extract_d,h,hs]
  simp
theorem tr_plain {x : ByteArray} {c : UInt8} {r : List UInt8} (h : x.data.toList = c :: r) (hc : c ≠ 45) : tr x = x:=by
  have hs : x.size = r.length + 1:=by rw [← len_sz,h]; rfl
  have hp : ((⟨#[45]⟩ : ByteArray).size : Int) = 1:=rfl
  have hl : (⟨#[45]⟩ : ByteArray).toList = [45]:=by rw [lst]
  unfold tr strings_TrimPrefix.f stringslite_TrimPrefix.f stringslite_HasPrefix.f
  rw [hp,if_pos (by omega),if_pos (by omega),if_pos (by omega),hl,lst,extract_d,h]
  simp only [Option.bind_some]
  rw [if_neg (by simpa using hc)]
  rfl
theorem uintB {l : List UInt8} (h : l ≠ []) : Lib.parseUintB 64 l = Lib.parseUintM 18446744073709551615 0 l:=by
  unfold Lib.parseUintB
  rw [if_neg h]
theorem its_eq (v : Int) (x : ByteArray) : ((its v).toList = x.toList) = (Lib.itoa v = x.data.toList):=by rw [lst,lst,its_d]
theorem e63 : (2 : Nat) ^ (64 - 1) = 9223372036854775808:=by decide
def bl : ByteArray:=⟨#[32]⟩
theorem words_data (s : ByteArray) : (words s).map (·.data.toList) = Lib.split s.data.toList [32]:=Lib.splitB_data bl 0 _ s
theorem dec_cases (x : ByteArray) : (∃ v,dec x (tr x) = (v,true) ∧ Lib.itoa v = x.data.toList ∧ -9223372036854775808 ≤ v ∧ v ≤ 9223372036854775807) ∨ dec x (tr x) = (0,false):=by
  unfold dec
  rcases hv : Lib.parseIntB 64 x.data.toList with v | _ | _
  · simp only
    by_cases e : (its v).toList = x.toList
    · rw [if_pos e]
      by_cases e2 : ((tr x).size : Int) > 18
      · rw [if_pos e2]; exact Or.inr rfl
      · rw [if_neg e2]
        rw [its_eq] at e
        exact Or.inl ⟨v,rfl,e,parse_range hv⟩
    · rw [if_neg e]; exact Or.inr rfl
  · exact Or.inr rfl
  · exact Or.inr rfl
theorem dv_range (x : ByteArray) : -9223372036854775808 ≤ dv x ∧ dv x ≤ 9223372036854775807:=by
  unfold dv
  rcases dec_cases x with ⟨v,e,_,r⟩ | e
  · rw [e]; exact r
  · rw [e]; decide
theorem parse_snoc (M : Nat) (c : UInt8) (hc : 48 ≤ c.toNat ∧ c.toNat ≤ 57) : ∀ (l : List UInt8) (acc u : Nat),Lib.parseUintM M acc l = .ok u → u < 1844674407370955162 → u * 10 + (c.toNat - 48) ≤ M → Lib.parseUintM M acc (l ++ [c]) = .ok (u * 10 + (c.toNat - 48))
  | [],acc,u,h,h1,h2=>by
    simp only [Lib.parseUintM] at h
    injection h with h
    subst h
    rw [List.nil_append]
    simp only [Lib.parseUintM]
    rw [if_pos hc,if_neg (by omega),if_neg (by omega)]
  | b :: r,acc,u,h,h1,h2=>by
    rw [List.cons_append]
    simp only [Lib.parseUintM] at h ⊢
    split at h
    · next q=>
      split at h
      · cases h
      · next q2=>
        split at h
        · cases h
        · next q3=>
          rw [if_pos q,if_neg q2,if_neg q3]
          exact parse_snoc M c hc r _ u h h1 h2
    · cases h
theorem parse_dec : ∀ (u : Nat),u ≤ 1000000000 → Lib.parseUintM 18446744073709551615 0 (Lib.decDigits u) = .ok u:=by
  intro u
  induction u using Nat.strongRecOn with
  | _ u ih=>
    intro h
    by_cases h1 : u < 10
    · rw [Lib.decDigits_one h1]
      have e : (UInt8.ofNat (48 + u)).toNat = 48 + u:=by rw [UInt8.toNat_ofNat']; omega
      simp only [Lib.parseUintM,e]
      rw [if_pos (by omega),if_neg (by omega),if_neg (by omega)]
      congr 1
      omega
    · rw [Lib.decDigits,dif_neg h1]
      have e : (UInt8.ofNat (48 + u % 10)).toNat = 48 + u % 10:=by rw [UInt8.toNat_ofNat']; omega
      rw [parse_snoc _ _ (by rw [e]; omega) _ _ (u / 10) (ih (u / 10) (by omega) (by omega)) (by omega) (by rw [e]; omega),e]
      congr 1
      omega
theorem nd_le : ∀ (k u : Nat),u < 10 ^ (k + 1) → Lib.nDigits u ≤ k + 1
  | 0,u,h=>by rw [Lib.nDigits_small (by simpa using h)]; exact Nat.le_refl _
  | k + 1,u,h=>by
    by_cases q : u < 10
    · rw [Lib.nDigits_small q]; omega
    · rw [Lib.nDigits_big q]
      have:=nd_le k (u / 10) (by rw [Nat.pow_succ] at h; omega)
      omega
theorem dv_its (v : Int) (h : -1000000000 ≤ v ∧ v ≤ 1000000000) : dv (its v) = v:=by
  have key : Lib.parseIntB 64 (its v).data.toList = .ok v ∧ (tr (its v)).size ≤ 18:=by
    by_cases hn : v < 0
    · obtain ⟨u,rfl⟩ : ∃ u : Nat,v = -(u : Int):=⟨v.natAbs,by omega⟩
      have hi : (its (-(u : Int))).data.toList = 45 :: Lib.decDigits u:=by rw [its_d,Lib.itoa_neg u (by omega)]
      have hne : Lib.decDigits u ≠ []:=by
        obtain ⟨c,r,e⟩:=dec_ne u
        rw [e]
        simp
      obtain ⟨ht,_⟩:=tr_minus hi
      refine ⟨?_,?_⟩
      · rw [hi,Lib.parseIntB_minus,uintB hne,parse_dec u (by omega)]
        simp only [Lib.signedC,e63]
        rw [if_neg (by omega)]
      · rw [← len_sz,ht,Lib.decDigits_length]
        have:=nd_le 17 u (by omega)
        omega
    · obtain ⟨u,rfl⟩ : ∃ u : Nat,v = (u : Int):=⟨v.toNat,by omega⟩
      have hi : (its (u : Int)).data.toList = Lib.decDigits u:=by rw [its_d,Lib.itoa_nonneg u]
      obtain ⟨c,r,e⟩:=dec_ne u
      have hd:=dec_digits u c (by rw [e]; simp)
      have hi2:=hi.trans e
      have hc : c ≠ 45:=fun q=>by rw [q] at hd; exact absurd hd (by decide)
      refine ⟨?_,?_⟩
      · rw [hi2,Lib.parseIntB_plain 64 c r (by omega) (by omega),uintB (by simp),← e,parse_dec u (by omega)]
        simp only [Lib.signlessC,e63]
        rw [if_neg (by omega)]
      · rw [tr_plain hi2 hc,← len_sz,hi,Lib.decDigits_length]
        have:=nd_le 17 u (by omega)
        omega
  unfold dv dec
  rw [key.1]
  simp only
  rw [if_pos trivial,if_neg (by have:=key.2; omega)]
theorem back_b (x : ByteArray) : (⟨x.data.toList.toArray⟩ : ByteArray) = x:=bytes_eq (by simp)
theorem words_text (a : Int) (L : List Int) : words ⟨(Lib.join ((a :: L).map Lib.itoa) [32]).toArray⟩ = (a :: L).map its:=by
  have h:=words_data ⟨(Lib.join ((a :: L).map Lib.itoa) [32]).toArray⟩
  have hs:=split_join 32 (L.map Lib.itoa) (Lib.itoa a) (by
    intro y hy b hb
    obtain ⟨v,_,rfl⟩:=List.mem_map.1 (show y ∈ (a :: L).map Lib.itoa from hy)
    exact itoa_blank v b hb)
  have h2:=h.trans hs
  have h3:=congrArg (List.map fun l : List UInt8=>(⟨l.toArray⟩ : ByteArray)) h2
  rw [List.map_map] at h3
  have e : (words ⟨(Lib.join ((a :: L).map Lib.itoa) [32]).toArray⟩).map ((fun l : List UInt8=>(⟨l.toArray⟩ : ByteArray)) ∘ (·.data.toList)) = words ⟨(Lib.join ((a :: L).map Lib.itoa) [32]).toArray⟩:=by
    conv=>rhs; rw [← List.map_id (words _)]
    exact List.map_congr_left fun x _=>back_b x
  rw [e] at h3
  rw [h3,List.map_cons,List.map_cons,List.map_map]
  rfl
theorem inB_p {L x : Int} (h : inB L x = true) : -L ≤ x ∧ x ≤ L:=by
  unfold inB at h
  simpa using h
theorem okV_p {a0 a1 a2 a3 a4 a5 a6 : Int} (h : okV a0 a1 a2 a3 a4 a5 a6 = true) : ((-10000000 ≤ a0 ∧ a0 ≤ 10000000) ∧ (-10000000 ≤ a1 ∧ a1 ≤ 10000000) ∧ (-10000000 ≤ a2 ∧ a2 ≤ 10000000)) ∧ ((-100000000 ≤ a3 ∧ a3 ≤ 100000000) ∧ (-100000000 ≤ a4 ∧ a4 ≤ 100000000) ∧ (-100000000 ≤ a5 ∧ a5 ≤ 100000000)) ∧ (-1000000 ≤ a6 ∧ a6 ≤ 1000000):=by
  unfold okV at h
  simp only [Bool.and_eq_true] at h
  obtain ⟨⟨p0,p1,p2⟩,⟨p3,p4,p5⟩,p6⟩:=h
  exact ⟨⟨inB_p p0,inB_p p1,inB_p p2⟩,⟨inB_p p3,inB_p p4,inB_p p5⟩,inB_p p6⟩
theorem text_back {a0 a1 a2 a3 a4 a5 a6 : Int} (h : okV a0 a1 a2 a3 a4 a5 a6 = true) : (words (textOf a0 a1 a2 a3 a4 a5 a6)).map dv = [a0,a1,a2,a3,a4,a5,a6]:=by
  obtain ⟨⟨p0,p1,p2⟩,⟨p3,p4,p5⟩,p6⟩:=okV_p h
  unfold textOf
  rw [if_pos h,words_text,List.map_map]
  simp only [List.map_cons,List.map_nil,Function.comp]
  rw [dv_its a0 (by omega),dv_its a1 (by omega),dv_its a2 (by omega),dv_its a3 (by omega),dv_its a4 (by omega),dv_its a5 (by omega),dv_its a6 (by omega)]
theorem text_short (a0 a1 a2 a3 a4 a5 a6 : Int) : (textOf a0 a1 a2 a3 a4 a5 a6).size ≤ 1048576:=by
  unfold textOf
  split
  · next h=>
    obtain ⟨⟨p0,p1,p2⟩,⟨p3,p4,p5⟩,p6⟩:=okV_p h
    show (Lib.join (([a0,a1,a2,a3,a4,a5,a6] : List Int).map Lib.itoa) [32]).toArray.size ≤ 1048576
    have h1:=join_len_le (([a0,a1,a2,a3,a4,a5,a6] : List Int).map Lib.itoa) 32
    have q0:=Lib.itoa_length_le a0 (by omega) (by omega)
    have q1:=Lib.itoa_length_le a1 (by omega) (by omega)
    have q2:=Lib.itoa_length_le a2 (by omega) (by omega)
    have q3:=Lib.itoa_length_le a3 (by omega) (by omega)
    have q4:=Lib.itoa_length_le a4 (by omega) (by omega)
    have q5:=Lib.itoa_length_le a5 (by omega) (by omega)
    have q6:=Lib.itoa_length_le a6 (by omega) (by omega)
    simp only [List.map_cons,List.map_nil,Lib.lens,List.sum_cons,List.sum_nil,List.length_cons,List.length_nil] at h1
    rw [List.size_toArray]
    simp only [List.map_cons,List.map_nil]
    omega
  · decide
end Go.Proofs.YtfhnlkinjbakgaaGreatDoor.PFnShifts
