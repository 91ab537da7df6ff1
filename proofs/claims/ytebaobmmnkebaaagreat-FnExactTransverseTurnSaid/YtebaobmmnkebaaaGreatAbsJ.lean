/- The abstract machine: a region that draws its order, whose store may go ahead of what doesn't look at memory. -/
import Derived.Test.YtebaobmmnkebaaaGreatAbsG
namespace Go.Proofs.YtebaobmmnkebaaaGreat.Abs
open Go Go.RowKit

def isSt (o : Oper) : Bool := (match o.op with | .store .. => true | _ => false) && o.guard.isNone && o.dst.isNone

/-- A load out of a slot that no operation of the head writes. -/
def isLd (ops : Array Oper) (n : Nat) (o : Oper) : Option Tmp :=
  match o.op with
  | .load _ (.tmp d) => if (List.range n).all (fun j => match ops[j]? with | some oj => decide (oj.dst ≠ some d) | none => true) then some d else none
  | _ => none

/-- Waits for it, in the end. -/
def waitsT (ops : Array Oper) : Nat → Nat → Nat → Bool
  | 0, i, k => Region.waitsFor .any ops i k
  | f + 1, i, k => Region.waitsFor .any ops i k || (List.range i).any fun j => Region.waitsFor .any ops i j && waitsT ops f j k

/-- It may come behind the store. -/
def behind (ops : Array Oper) (n k : Nat) (o : Oper) : Bool := !opFree o && !waitsT ops 6 n k

def lateB (ops : Array Oper) (n : Nat) : Bool :=
  Region.noSelect ops && decide (n + 1 < ops.size) && Region.sinkB .any ops (n + 1) && Region.chainB .any ops (n + 1) && Region.seqB .any ops (ops.size - (n + 1)) (n + 1) (listedN (n + 1) ops.size) &&
  ((List.range n).all fun k => match ops[k]? with
    | some o => (o.after.toList.all fun e => !Region.binds .any e || decide (e.on < k)) && ((List.range n).all fun j => floatAt ops j k o) && (!behind ops n k o || (isLd ops n o).isSome)
    | none => false) &&
  (match ops[n]? with
    | some o => isSt o && (o.after.toList.all fun e => !Region.binds .any e || decide (e.on < n)) && (List.range n).all fun j => match ops[j]? with
        | some oj => match oj.dst with | some d => !(readsT ops o).contains d || Region.waitsFor .any ops n j | none => true
        | none => true
    | none => false)

section
variable {P : Program} {ops : Array Oper} {w0 : World}

structure LateOk (ops : Array Oper) (n : Nat) (S : Oper) : Prop extends FloatBase ops n where
  lt2 : n + 1 < ops.size
  sink : Region.sinkB .any ops (n + 1) = true
  chain : Region.chainB .any ops (n + 1) = true
  seq : Region.seqB .any ops (ops.size - (n + 1)) (n + 1) (listedN (n + 1) ops.size) = true
  free : ∀ k o, k < n → ops[k]? = some o → behind ops n k o = true → (isLd ops n o).isSome = true
  at_ : ops[n]? = some S
  st : isSt S = true
  backS : ∀ e ∈ S.after, Region.binds .any e = true → e.on < n
  readsS : ∀ j oj d, j < n → ops[j]? = some oj → oj.dst = some d → d ∈ readsT ops S → Region.waitsFor .any ops n j = true

theorem lateB_spec {n : Nat} (h : lateB ops n = true) : ∃ S, LateOk ops n S := by
  unfold lateB at h
  simp only [Bool.and_eq_true, decide_eq_true_eq] at h
  obtain ⟨⟨⟨⟨⟨⟨h1, h2⟩, h3⟩, h4⟩, h5⟩, h6⟩, h7⟩ := h
  have hk : ∀ k o, k < n → ops[k]? = some o → ((o.after.toList.all fun e => !Region.binds .any e || decide (e.on < k)) = true ∧ ∀ j, j < n → floatAt ops j k o = true) ∧ (behind ops n k o = false ∨ (isLd ops n o).isSome = true) := fun k o hk ho => by
    have := List.all_eq_true.1 h6 k (List.mem_range.2 hk)
    simp only [ho, Bool.and_eq_true, Bool.or_eq_true, Bool.not_eq_true'] at this
    exact ⟨⟨this.1.1, fun j hj => List.all_eq_true.1 this.1.2 j (List.mem_range.2 hj)⟩, this.2⟩
  cases hS : ops[n]? with
  | none => simp [hS] at h7
  | some S =>
    simp only [hS, Bool.and_eq_true] at h7
    obtain ⟨⟨k1, k2⟩, k3⟩ := h7
    have hf := floatAt_spec (n := n) fun k o hkn ho => (hk k o hkn ho).1.2
    refine ⟨S, ⟨⟨h1, by omega, fun k o hkn ho e he hb => back_spec (hk k o hkn ho).1.1 e he hb, hf.1, hf.2⟩, h2, h3, h4, h5, fun k o hkn ho hfr => ?_, hS, k1, fun e he hb => back_spec k2 e he hb, fun j oj d hj hoj hd hr => ?_⟩⟩
    · rcases (hk k o hkn ho).2 with q | q
      · rw [hfr] at q; cases q
      · exact q
    · have := List.all_eq_true.1 k3 j (List.mem_range.2 hj)
      simp only [hoj, hd, Bool.or_eq_true] at this
      rcases this with q | q
      · have : (readsT ops S).contains d = true := by simpa using hr
        rw [this] at q; cases q
      · exact q

theorem InvF.congr {n : Nat} {c : Nat → Array Value} {l l2 : Array Bool} {s : Array Value} {w : World} {js : Nat → Nat} (inv : InvF P ops w0 n c l s w js) (h : ∀ j, j < n → l2.getD j false = l.getD j false) : InvF P ops w0 n c l2 s w js :=
  ⟨inv.size, fun d hd => inv.old d fun j o hj hl => hd j o hj (by rw [h j hj]; exact hl), fun j o d hj hl => inv.new j o d hj (by rw [← h j hj]; exact hl), fun j o d T hj hl => inv.al j o d T hj (by rw [← h j hj]; exact hl),
    fun j k oj ok hj hk hl hl2 => inv.dis j k oj ok hj hk (by rw [← h j hj]; exact hl) (by rw [← h k hk]; exact hl2), inv.below⟩

theorem left_congr {l l2 : Array Bool} : ∀ n, (∀ j, j < n → l2.getD j false = l.getD j false) → left n l2 = left n l
  | 0, _ => rfl
  | n + 1, h => by
    have e : ∀ l : Array Bool, left (n + 1) l = left n l + (if l.getD n false = true then 0 else 1) := fun l => by
      simp only [left, List.range_succ, List.countP_append, List.countP_singleton]
      cases l.getD n false <;> rfl
    rw [e, e, left_congr n fun j hj => h j (by omega), h n (by omega)]

/-- What the store reads is there as soon as the store may go. -/
theorem InvF.same {n : Nat} {c : Nat → Array Value} {l l2 : Array Bool} {s s2 : Array Value} {w w2 : World} {js : Nat → Nat} {S : Oper} (L : LateOk ops n S) (inv : InvF P ops w0 n c l s w js) (inv2 : InvF P ops w0 n c l2 s2 w2 js)
    (h1 : ∀ j, j < n → Region.waitsFor .any ops n j = true → l.getD j false = true) (h2 : ∀ j, j < n → l.getD j false = true → l2.getD j false = true) : execOp (act s).eval S = execOp (act s2).eval S := by
  refine execOp_congr S (fun cs b => Region.noSelect_spec L.sel n S cs b L.at_) fun x hx => ?_
  cases x with
  | tmp d =>
    have hd : d ∈ readsT ops S := by
      unfold readsT
      exact List.mem_append_left _ (List.mem_filterMap.2 ⟨.tmp d, by simpa using hx, rfl⟩)
    have e : s[d]? = s2[d]? := by
      by_cases q : ∃ j oj, j < n ∧ ops[j]? = some oj ∧ oj.dst = some d
      · obtain ⟨j, oj, hj, hoj, hdj⟩ := q
        have hl := h1 j hj (L.readsS j oj d hj hoj hdj hd)
        cases ha : alT oj with
        | none => rw [inv.new j oj d hj hl hoj ha hdj, inv2.new j oj d hj (h2 j hj hl) hoj ha hdj]
        | some p =>
          obtain ⟨d', T⟩ := p
          have : d' = d := Option.some.inj ((alT_spec ha).2.2.symm.trans hdj)
          subst this
          by_cases hlt : d' < s.size
          · rw [(inv.al j oj d' T hj hl hoj ha).1 hlt, (inv2.al j oj d' T hj (h2 j hj hl) hoj ha).1 (by rw [inv2.size, ← inv.size]; exact hlt)]
          · rw [Array.getElem?_eq_none (Nat.le_of_not_lt hlt), Array.getElem?_eq_none (by rw [inv2.size, ← inv.size]; exact Nat.le_of_not_lt hlt)]
      · have hno : ∀ j oj, j < n → ops[j]? = some oj → oj.dst ≠ some d := fun j oj hj hoj hdj => q ⟨j, oj, hj, hoj, hdj⟩
        rw [inv.old d fun j oj hj _ hoj => hno j oj hj hoj, inv2.old d fun j oj hj _ hoj => hno j oj hj hoj]
    show s.getD d undef = s2.getD d undef
    simp only [Array.getD_eq_getD_getElem?, e]
  | _ => rfl

theorem isLd_spec {n : Nat} {o : Oper} {d : Tmp} (h : isLd ops n o = some d) : (∃ T, o.op = .load T (.tmp d)) ∧ ∀ j oj, j < n → ops[j]? = some oj → oj.dst ≠ some d := by
  unfold isLd at h
  split at h
  · rename_i T d' ho
    split at h
    · rename_i hall
      cases h
      refine ⟨⟨T, ho⟩, fun j oj hj hoj => ?_⟩
      have := List.all_eq_true.1 hall j (List.mem_range.2 hj)
      simp only [hoj, decide_eq_true_eq] at this
      exact this
    · cases h
  · cases h

theorem alT_of_free {o : Oper} (h : opFree o = true) : alT o = none := by
  cases q : alT o with
  | none => rfl
  | some p =>
    obtain ⟨d, T⟩ := p
    simp [opFree, (alT_spec q).1] at h

theorem alT_of_ld {n : Nat} {o : Oper} {d : Tmp} (h : isLd ops n o = some d) : alT o = none := by
  obtain ⟨⟨T, ho⟩, _⟩ := isLd_spec h
  unfold alT
  simp [ho]

theorem waitsT_listed {N : Nat} {listed : Array Bool} (hd : HeadInv .any ops N listed) : ∀ (f i k : Nat), listed.getD i false = true → waitsT ops f i k = true → listed.getD k false = true
  | 0, i, k, hi, h => by
    obtain ⟨o, ho, e, he, hb, hon⟩ := Region.waitsFor_spec h
    have := hd.closed i o ho hi e he hb
    rwa [hon] at this
  | f + 1, i, k, hi, h => by
    simp only [waitsT, Bool.or_eq_true] at h
    rcases h with h | h
    · exact waitsT_listed hd 0 i k hi h
    · obtain ⟨j, _, hj⟩ := List.any_eq_true.1 h
      simp only [Bool.and_eq_true] at hj
      exact waitsT_listed hd f j k (waitsT_listed hd 0 i j hi hj.1) hj.2

/-- What is not listed though the store is ready to go. -/
theorem LateOk.rest {n : Nat} {S : Oper} (L : LateOk ops n S) {N : Nat} {listed : Array Bool} (hd : HeadInv .any ops N listed) (hr : ∀ e ∈ S.after, Region.binds .any e = true → listed.getD e.on false = true) {j : Nat} {o : Oper} (hj : j < n) (ho : ops[j]? = some o) (hl : listed.getD j false = false) :
    opFree o = true ∨ ∃ d, isLd ops n o = some d := by
  cases q : opFree o with
  | true => exact .inl rfl
  | false =>
    right
    have hw : waitsT ops 6 n j = false := by
      cases hw : waitsT ops 6 n j with
      | false => rfl
      | true =>
        have direct : ∀ i, Region.waitsFor .any ops n i = true → listed.getD i false = true := fun i hi => by
          obtain ⟨o2, ho2, e, he, hb, hon⟩ := Region.waitsFor_spec hi
          have : o2 = S := Option.some.inj (ho2.symm.trans L.at_)
          subst this
          have := hr e he hb
          rwa [hon] at this
        have : listed.getD j false = true := by
          have h2 : waitsT ops (5 + 1) n j = true := hw
          simp only [waitsT.eq_2, Bool.or_eq_true] at h2
          rcases h2 with h2 | h2
          · exact direct j h2
          · obtain ⟨i, _, hi⟩ := List.any_eq_true.1 h2
            simp only [Bool.and_eq_true] at hi
            exact waitsT_listed hd 5 i j (direct i hi.1) hi.2
        rw [hl] at this; cases this
    exact Option.isSome_iff_exists.1 (L.free j o hj ho (by simp [behind, q, hw]))

/-- What is left looks at no memory that the store turns: it could be done at once. -/
theorem InvF.complete {n : Nat} {c : Nat → Array Value} {S : Oper} (L : LateOk ops n S) (hc : ∀ k o, k < n → ops[k]? = some o → StepF P ops w0 o (c k) (c (k + 1))) :
    ∀ (f : Nat) (listed : Array Bool) (s : Array Value) (w : World) (js : Nat → Nat), listed.size = ops.size → left n listed = f → (∀ j o, j < n → ops[j]? = some o → listed.getD j false = false → alT o = none) → InvF P ops w0 n c listed s w js →
      ∃ s2 l2, InvF P ops w0 n c l2 s2 w js ∧ (∀ j, j < n → l2.getD j false = true)
  | 0, listed, s, w, js, _, hf, _, inv => ⟨s, listed, inv, left_zero n hf⟩
  | f + 1, listed, s, w, js, hsz, hf, hfr, inv => by
    obtain ⟨i, hi, hu, hmin⟩ := left_pos n (by omega : left n listed ≠ 0)
    have hlt := L.lt
    have ho : ops[i]? = some ops[i] := Array.getElem?_eq_getElem (by omega)
    have hr : i ∈ Region.ready .any ops listed := mem_ready.2 ⟨getD_in (by omega) hu, _, ho, fun e he hb => hmin _ (L.back i _ hi ho e he hb)⟩
    have hleft : left n (listed.setIfInBounds i true) = f := by have := (left_set hu (by omega : i < listed.size) n).1 hi; omega
    have al := hfr i _ hi ho hu
    rcases hc i _ hi ho with ⟨ha, _⟩ | ⟨_, v, hv, _⟩
    · rw [al] at ha; cases ha
    · exact InvF.complete L hc f _ _ w js (by simp [hsz]) hleft (fun j o hj hoj hl => hfr j o hj hoj (by
        by_cases e : i = j
        · subst e; exact hu
        · rwa [getD_set_ne false e] at hl)) (inv.put L.toFloatBase hc hsz hi ho al hv (Below.refl _ _))

theorem St.alone {S : Oper} (h : isSt S = true) : S.guard = none ∧ S.dst = none ∧ opFree S = false ∧ alT S = none := by
  unfold isSt at h
  simp only [Bool.and_eq_true, Option.isNone_iff_eq_none] at h
  obtain ⟨⟨h1, h2⟩, h3⟩ := h
  refine ⟨h2, h3, ?_, ?_⟩
  · cases ho : S.op <;> simp [ho] at h1 <;> simp [opFree, ho]
  · unfold alT
    rw [h2, h3]
    split <;> simp_all

/-- The store went through. -/
def Ran (P : Program) (S : Oper) (s : Array Value) (w w' : World) : Prop := (execOp (act s).eval S).run P w = .ok .skip w' ∨ ∃ v, (execOp (act s).eval S).run P w = .ok (.value v) w'

theorem Ran.fn {S : Oper} {s : Array Value} {w a b : World} (h : Ran P S s w a) (k : Ran P S s w b) : a = b := by
  rcases h with h | ⟨v, h⟩ <;> rcases k with k | ⟨u, k⟩ <;> rw [h] at k <;> cases k <;> rfl

theorem wpAny_after {n : Nat} {c : Nat → Array Value} {Q : Exit → Act → World → Prop} {S : Oper} (L : LateOk ops n S) (hc : ∀ k o, k < n → ops[k]? = some o → StepF P ops w0 o (c k) (c (k + 1)))
    {φ : World → World → Prop} (hld : ∀ k o d, k < n → ops[k]? = some o → opFree o = false → isLd ops n o = some d → waitsT ops 6 n k = false → ∃ j off, (c k)[d]? = some (.pointer (some ⟨j, off, none⟩)) ∧ ∀ w1 w', φ w1 w' → w'.heap[j]? = w1.heap[j]?)
    (hQ : ∀ s w js l, InvF P ops w0 n c l s w js → (∀ j, j < n → l.getD j false = true) → ∃ w', Ran P S s w w' ∧ φ w w' ∧ wpAny P .any ops Q (ops.size - (n + 1)) (listedN (n + 1) ops.size) (act s) w') :
    ∀ (f : Nat) (listed : Array Bool) (s : Array Value) (w1 w' : World) (js : Nat → Nat), HeadInv .any ops (n + 1) listed → listed.getD n false = true → left n listed = f → InvF P ops w0 n c listed s w1 js → Ran P S s w1 w' → φ w1 w' → wpAny P .any ops Q (f + (ops.size - (n + 1))) listed (act s) w'
  | 0, listed, s, w1, w', js, hd, hn, hf, inv, hr, _ => by
    have e : listed = listedN (n + 1) ops.size := by
      refine Array.ext (by rw [hd.size]; simp [listedN]) fun i h1 h2 => ?_
      simp only [listedN, List.getElem_toArray, List.getElem_map, List.getElem_range]
      by_cases hi : i < n
      · have := left_zero n hf i hi
        have h3 : i < n + 1 := by omega
        simp only [h3, decide_true]
        simpa [Array.getD, h1] using this
      · by_cases hi2 : i = n
        · subst hi2
          simp only [Nat.lt_add_one, decide_true]
          simpa [Array.getD, h1] using hn
        · have := hd.tail i (by omega) (by rw [← hd.size]; exact h1)
          have h3 : ¬ i < n + 1 := by omega
          simp only [h3, decide_false]
          simpa [Array.getD, h1] using this
    obtain ⟨w2, h2, _, h3⟩ := hQ s w1 js listed inv (left_zero n hf)
    rw [Nat.zero_add, e, hr.fn h2]
    exact h3
  | f + 1, listed, s, w1, w', js, hd, hn, hf, inv, hr, hφ => by
    obtain ⟨i0, hi0, hu0, hmin⟩ := left_pos n (by omega : left n listed ≠ 0)
    have hsz := hd.size
    have hlt := L.lt2
    have ho0 : ops[i0]? = some ops[i0] := Array.getElem?_eq_getElem (by omega)
    have r0 : i0 ∈ Region.ready .any ops listed := mem_ready.2 ⟨getD_in (by omega) hu0, _, ho0, fun e he hb => hmin _ (L.back i0 _ hi0 ho0 e he hb)⟩
    rw [show f + 1 + (ops.size - (n + 1)) = (f + (ops.size - (n + 1))) + 1 by omega]
    refine ⟨fun h => (by rw [h] at r0; cases r0), fun i hi => ?_⟩
    have hin1 : i < n + 1 := by
      rcases Nat.lt_or_ge i (n + 1) with h | h
      · exact h
      · exact absurd hi (tail_waits L.sink L.chain L.lt2 hd _ i0 rfl (by omega) (getD_in (by omega) hu0) i h)
    obtain ⟨hiu, o, ho, hall⟩ := mem_ready.1 hi
    have hu := getD_both hiu
    have hin : i < n := by
      rcases Nat.lt_or_ge i n with h | h
      · exact h
      · have : i = n := by omega
        subst this
        rw [hn] at hu; cases hu
    have deps : ∀ j, Region.waitsFor .any ops n j = true → listed.getD j false = true := fun j hj => by
      obtain ⟨oS, hoS, e, he, hb, hon⟩ := Region.waitsFor_spec hj
      have := hd.closed n oS hoS hn e he hb
      rwa [hon] at this
    have hrest := L.rest hd (fun e he hb => hd.closed n S L.at_ hn e he hb) hin ho hu
    have al : alT o = none := by
      rcases hrest with q | ⟨d, q⟩
      · exact alT_of_free q
      · exact alT_of_ld q
    have hleft : left n (listed.setIfInBounds i true) = f := by have := (left_set hu (by omega : i < listed.size) n).1 hin; omega
    have hev := inv.evals L.toFloatBase hc hin ho hi
    have hw : Region.wanted o (yielded ops (act s).tmps) = Region.wanted o (yielded ops (c i)) := hev.2
    unfold wpOp
    simp only [ho]
    rcases hc i o hin ho with ⟨ha, _⟩ | ⟨_, v, hv, hx⟩
    · rw [al] at ha; cases ha
    · have inv2 := inv.put L.toFloatBase hc hsz hin ho al hv (Below.refl _ w1)
      have hsame : execOp (act s).eval S = execOp (act (putA s o.dst v)).eval S := inv.same L inv2 (fun j _ hj => deps j hj) (fun j _ hj => getD_set_true hj)
      have hr2 : Ran P S (putA s o.dst v) w1 w' := by unfold Ran at hr ⊢; rw [← hsame]; exact hr
      have go : wpAny P .any ops Q (f + (ops.size - (n + 1))) (listed.setIfInBounds i true) (act (putA s o.dst v)) w' :=
        wpAny_after L hc hld hQ f _ _ w1 w' js (hd.set hi hin1) (getD_set_true hn) hleft inv2 hr2 hφ
      rcases hx with ⟨hw1, _, hall2⟩ | ⟨hw1, rfl⟩
      · rw [if_pos (hw.trans hw1)]
        left
        unfold Oper.wp
        have hrun : (execOp (act (c i)).eval o).run P w' = .ok (.value v) w' := by
          cases qf : opFree o with
          | true => exact hall2.1 qf w'
          | false =>
            obtain ⟨d, hd1⟩ : ∃ d, isLd ops n o = some d := by
              rcases hrest with q | q
              · rw [qf] at q; cases q
              · exact q
            have hw6 : waitsT ops 6 n i = false := by
              cases hw6 : waitsT ops 6 n i with
              | false => rfl
              | true => rw [waitsT_listed hd 6 n i hn hw6] at hu; cases hu
            obtain ⟨j, off, hp, hsame2⟩ := hld i o d hin ho qf hd1 hw6
            obtain ⟨⟨T, hop⟩, _⟩ := isLd_spec hd1
            refine hall2.2 T (.tmp d) j off hop ?_ w1 w' inv.below (hsame2 w1 w' hφ)
            show (c i).getD d undef = _
            simp [Array.getD_eq_getD_getElem?, hp]
        rw [hev.1, hrun, Oper.upon_value, act_put]
        exact go
      · rw [if_neg (by rw [hw, hw1]; simp), act_put]
        exact go

theorem wpAny_late {n : Nat} {c : Nat → Array Value} {Q : Exit → Act → World → Prop} {S : Oper} (L : LateOk ops n S) (hc : ∀ k o, k < n → ops[k]? = some o → StepF P ops w0 o (c k) (c (k + 1)))
    (hz : ∀ k o d T, k < n → ops[k]? = some o → alT o = some (d, T) → ∃ z, tzero P T = some z)
    {φ : World → World → Prop} (hld : ∀ k o d, k < n → ops[k]? = some o → opFree o = false → isLd ops n o = some d → waitsT ops 6 n k = false → ∃ j off, (c k)[d]? = some (.pointer (some ⟨j, off, none⟩)) ∧ ∀ w1 w', φ w1 w' → w'.heap[j]? = w1.heap[j]?)
    (hQ : ∀ s w js l, InvF P ops w0 n c l s w js → (∀ j, j < n → l.getD j false = true) → ∃ w', Ran P S s w w' ∧ φ w w' ∧ wpAny P .any ops Q (ops.size - (n + 1)) (listedN (n + 1) ops.size) (act s) w') :
    ∀ (f : Nat) (listed : Array Bool) (s : Array Value) (w : World) (js : Nat → Nat), HeadInv .any ops (n + 1) listed → listed.getD n false = false → left n listed = f → InvF P ops w0 n c listed s w js → wpAny P .any ops Q (f + 1 + (ops.size - (n + 1))) listed (act s) w := by
  intro f
  induction f with
  | zero =>
    intro listed s w js hd hn hf inv
    have hsz := hd.size
    have hlt := L.lt2
    have hall0 := left_zero n hf
    have rn : n ∈ Region.ready .any ops listed := mem_ready.2 ⟨getD_in (by omega) hn, S, L.at_, fun e he hb => hall0 _ (L.backS e he hb)⟩
    rw [show 0 + 1 + (ops.size - (n + 1)) = (ops.size - (n + 1)) + 1 by omega]
    refine ⟨fun h => (by rw [h] at rn; cases rn), fun i hi => ?_⟩
    have hin1 : i < n + 1 := by
      rcases Nat.lt_or_ge i (n + 1) with h | h
      · exact h
      · exact absurd hi (tail_waits L.sink L.chain L.lt2 hd _ n rfl (by omega) (getD_in (by omega) hn) i h)
    have hin : i = n := by
      rcases Nat.lt_or_ge i n with h | h
      · have h1 := getD_both (mem_ready.1 hi).1
        have h2 := hall0 i h
        rw [h1] at h2; cases h2
      · omega
    subst hin
    obtain ⟨w', hr, hφ, _⟩ := hQ s w js listed inv hall0
    have g := wpAny_after L hc hld hQ 0 (listed.setIfInBounds i true) s w w' js (hd.set hi hin1) (by simp [hsz, show i < ops.size by omega]) ((left_congr i fun j hj => getD_set_ne false (by omega)).trans hf) (inv.congr fun j hj => getD_set_ne false (by omega)) hr hφ
    rw [Nat.zero_add] at g
    obtain ⟨hg, hdst, _, _⟩ := St.alone L.st
    unfold wpOp
    simp only [L.at_]
    rw [if_pos (by simp [Region.wanted, hg])]
    left
    unfold Oper.wp
    rcases hr with hr | ⟨v, hr⟩
    · rw [hr, Oper.upon_skip, act_put, hdst]; exact g
    · rw [hr, Oper.upon_value, act_put, hdst]; exact g
  | succ f ih =>
    intro listed s w js hd hn hf inv
    obtain ⟨i0, hi0, hu0, hmin⟩ := left_pos n (by omega : left n listed ≠ 0)
    have hsz := hd.size
    have hlt := L.lt2
    have ho0 : ops[i0]? = some ops[i0] := Array.getElem?_eq_getElem (by omega)
    have r0 : i0 ∈ Region.ready .any ops listed := mem_ready.2 ⟨getD_in (by omega) hu0, _, ho0, fun e he hb => hmin _ (L.back i0 _ hi0 ho0 e he hb)⟩
    rw [show f + 1 + 1 + (ops.size - (n + 1)) = (f + 1 + (ops.size - (n + 1))) + 1 by omega]
    refine ⟨fun h => (by rw [h] at r0; cases r0), fun i hi => ?_⟩
    have hin1 : i < n + 1 := by
      rcases Nat.lt_or_ge i (n + 1) with h | h
      · exact h
      · exact absurd hi (tail_waits L.sink L.chain L.lt2 hd _ i0 rfl (by omega) (getD_in (by omega) hu0) i h)
    obtain ⟨hiu, o, ho, hall⟩ := mem_ready.1 hi
    have hu := getD_both hiu
    have hnext := hd.set hi hin1
    by_cases hin : i < n
    · have hleft : left n (listed.setIfInBounds i true) = f := by have := (left_set hu (by omega : i < listed.size) n).1 hin; omega
      have hn2 : (listed.setIfInBounds i true).getD n false = false := by rw [getD_set_ne false (by omega)]; exact hn
      have go : ∀ s2 w2 js2, InvF P ops w0 n c (listed.setIfInBounds i true) s2 w2 js2 → wpAny P .any ops Q (f + 1 + (ops.size - (n + 1))) (listed.setIfInBounds i true) (act s2) w2 := fun s2 w2 js2 inv2 =>
        ih _ s2 w2 js2 hnext hn2 hleft inv2
      unfold wpOp
      simp only [ho]
      have hev := inv.evals L.toFloatBase hc hin ho hi
      have hw : Region.wanted o (yielded ops (act s).tmps) = Region.wanted o (yielded ops (c i)) := hev.2
      rcases hc i o hin ho with ⟨ha, _⟩ | ⟨ha, v, hv, hx⟩
      · obtain ⟨⟨d, T⟩, hT⟩ := Option.isSome_iff_exists.1 ha
        obtain ⟨z, hz'⟩ := hz i o d T hin ho hT
        obtain ⟨hop, hg, hdst⟩ := alT_spec hT
        rw [if_pos (by simp [Region.wanted, hg])]
        left
        unfold Oper.wp
        have hrun : (execOp (act s).eval o).run P w = .ok (.value (.pointer (some ⟨w.heap.size, 0, none⟩))) (w.alloc (.cells z.cells T)) := by
          simp only [execOp, hop, Instr.alloc, Sem.run_bind, run_zeroValue hz' w, Result.andThen_ok]
          rfl
        rw [hrun, Oper.upon_value, act_put]
        exact go _ _ _ (inv.make L.toFloatBase hsz hin ho hT hz' hu)
      · rcases hx with ⟨hw1, hst, _⟩ | ⟨hw1, rfl⟩
        · rw [if_pos (hw.trans hw1)]
          left
          unfold Oper.wp
          rw [hev.1]
          rcases hst w inv.below with hr | ⟨g, args, hr, hcall⟩
          · rw [hr, Oper.upon_value, act_put]
            exact go _ _ _ (inv.put L.toFloatBase hc hsz hin ho ha hv (Below.refl _ _))
          · rw [hr]
            refine hcall.mono ?_
            rintro e w2 ⟨rfl, hb⟩
            show wpAny P .any ops Q (f + 1 + (ops.size - (n + 1))) (listed.setIfInBounds i true) ((act s).put o.dst v) w2
            rw [act_put]
            exact go _ _ _ (inv.put L.toFloatBase hc hsz hin ho ha hv hb)
        · rw [if_neg (by rw [hw, hw1]; simp), act_put]
          exact go _ _ _ (inv.put L.toFloatBase hc hsz hin ho ha hv (Below.refl _ _))
    · have hi2 : i = n := by omega
      subst hi2
      have : o = S := Option.some.inj (ho.symm.trans L.at_)
      subst this
      have deps : ∀ j, j < i → Region.waitsFor .any ops i j = true → listed.getD j false = true := fun j _ hj => by
        obtain ⟨oS, hoS, e, he, hb, hon⟩ := Region.waitsFor_spec hj
        have : oS = o := Option.some.inj (hoS.symm.trans ho)
        subst this
        have := hall e he hb
        rwa [hon] at this
      obtain ⟨s2, l2, inv2, hl2⟩ := InvF.complete L hc (f + 1) listed s w js hsz hf (fun j oj hj hoj hl => by
        rcases L.rest hd hall hj hoj hl with q | ⟨d, q⟩
        · exact alT_of_free q
        · exact alT_of_ld q) inv
      obtain ⟨w', hr, hφ, _⟩ := hQ s2 w js l2 inv2 hl2
      have hr2 : Ran P o s w w' := by
        have := inv.same L inv2 deps (fun j hj _ => hl2 j hj)
        unfold Ran at hr ⊢
        rw [this]; exact hr
      have g := wpAny_after L hc hld hQ (f + 1) (listed.setIfInBounds i true) s w w' js hnext (by simp [hsz, show i < ops.size by omega]) ((left_congr i fun j hj => getD_set_ne false (by omega)).trans hf) (inv.congr fun j hj => getD_set_ne false (by omega)) hr2 hφ
      obtain ⟨hg, hdst, _, _⟩ := St.alone L.st
      unfold wpOp
      simp only [ho]
      rw [if_pos (by simp [Region.wanted, hg])]
      left
      unfold Oper.wp
      rcases hr2 with hr2 | ⟨v, hr2⟩
      · rw [hr2, Oper.upon_skip, act_put, hdst]; exact g
      · rw [hr2, Oper.upon_value, act_put, hdst]; exact g

end

section
variable {P : Program} {E : Eqs} {f : FuncId}

theorem fill_done {ops : Array Oper} {n : Nat} {m : List Nat} {H H2 : List Blk} {t t' t2 s2 : Array Value} {w1 w' : World} {c : Nat → Array Value} {l : Array Bool} {js : Nat → Nat} (F : FloatBase ops n)
    (hA' : ∀ x ∈ allocsOf ops n, ∃ z, tzero P x.2.2 = some z ∧ z.cells.toList.all flat1 = true) (hH1 : RH m H w1) (ht : RA m t t') (hcn : c n = t') (hchain : ∀ k o, k < n → ops[k]? = some o → StepF P ops w1 o (c k) (c (k + 1)))
    (inv : InvF P ops w1 n c l s2 w' js) (hl : ∀ j, j < n → l.getD j false = true) (hfill : fillA P (allocsOf ops n) t H = some (t2, H2)) :
    RA (m ++ (allocsOf ops n).map fun x => js x.1) t2 s2 ∧ RH (m ++ (allocsOf ops n).map fun x => js x.1) H2 w' ∧ ∀ j ∈ (allocsOf ops n).map fun x => js x.1, w1.heap.size ≤ j := by
  have hsz : n ≤ ops.size := Nat.le_of_lt F.lt
  have fresh : ∀ j ∈ (allocsOf ops n).map fun x => js x.1, w1.heap.size ≤ j := fun j hj => by
    obtain ⟨x, hx, rfl⟩ := List.mem_map.1 hj
    obtain ⟨hxn, o, ho, hal⟩ := mem_allocsOf.1 hx
    obtain ⟨_, z, _, _, h4⟩ := inv.al x.1 o x.2.1 x.2.2 hxn (hl _ hxn) ho hal
    exact h4
  have hgo := fillA_run (s := s2) (w := w') (js := js) (allocsOf ops n) t H m t2 H2 hfill (by rw [ht.size, ← hcn, chain_size hchain hsz n (Nat.le_refl _), inv.size]) (fun d v v' h1 h2 h3 => ?_) (hH1.below inv.below) (fun x hx => ?_) (fun x hx hmem => ?_) ?_
  · exact ⟨hgo.1, hgo.2, fresh⟩
  · refine ht.at_ d v v' h1 ?_
    rw [← h2, ← hcn]
    by_cases hx : ∃ j oj, j < n ∧ ops[j]? = some oj ∧ oj.dst = some d
    · obtain ⟨j, oj, hj, hoj, hdj⟩ := hx
      have hal : alT oj = none := by
        cases q : alT oj with
        | none => rfl
        | some p =>
          obtain ⟨d', T'⟩ := p
          have e : d' = d := Option.some.inj ((alT_spec q).2.2.symm.trans hdj)
          exact absurd e (h3 (j, d', T') (mem_allocsOf.2 ⟨hj, oj, hoj, q⟩))
      rw [inv.new j oj d hj (hl j hj) hoj hal hdj]
      exact chain_far hchain n (by omega) (Nat.le_refl _) (fun k ok q1 q2 hk => by
        by_cases q : ok.dst = some d
        · have := F.one j k oj ok d hj q2 hoj hk hdj q
          omega
        · exact .inl q) hsz
    · have hno : ∀ j oj, j < n → ops[j]? = some oj → oj.dst ≠ some d := fun j oj hj hoj hdj => hx ⟨j, oj, hj, hoj, hdj⟩
      rw [inv.old d fun j oj hj _ hoj => hno j oj hj hoj]
      exact chain_far hchain n (Nat.zero_le _) (Nat.le_refl _) (fun k ok q1 q2 hk => .inl (hno k ok q2 hk)) hsz
  · obtain ⟨hxn, o, ho, hal⟩ := mem_allocsOf.1 hx
    obtain ⟨k1, z, k2, k3, _⟩ := inv.al x.1 o x.2.1 x.2.2 hxn (hl _ hxn) ho hal
    obtain ⟨z', q1, q2⟩ := hA' x hx
    have : z' = z := Option.some.inj (q1.symm.trans k2)
    subst this
    exact ⟨k1, z', k2, q2, k3⟩
  · have h4 := fresh (js x.1) (List.mem_map.2 ⟨x, hx, rfl⟩)
    have := hH1.lt_of_mem hmem
    omega
  · have hp : (allocsOf ops n).Pairwise fun x y => x.1 ≠ y.1 := by
      unfold allocsOf
      rw [List.pairwise_filterMap]
      refine List.Pairwise.imp ?_ (List.nodup_range (n := n))
      intro a b hab x hx y hy
      simp only [Option.map_eq_some_iff] at hx hy
      obtain ⟨_, _, rfl⟩ := hx
      obtain ⟨_, _, rfl⟩ := hy
      exact hab
    rw [List.Nodup, List.pairwise_map]
    refine List.Pairwise.imp_of_mem ?_ hp
    intro x y hx hy hxy he
    obtain ⟨hxn, o, ho, hal⟩ := mem_allocsOf.1 hx
    obtain ⟨hyn, o2, ho2, hal2⟩ := mem_allocsOf.1 hy
    exact hxy (inv.dis x.1 y.1 o o2 hxn hyn (hl _ hxn) (hl _ hyn) ho ho2 (by rw [hal]; rfl) (by rw [hal2]; rfl) he)

def lates (P : Program) (ops : Array Oper) (n : Nat) : Bool := ops.toList.any writes && !Region.sinkB .any ops n && lateB ops n && allocsOk P ops n

/-- The block that a slot points into, if no operation of the head writes the slot. -/
def ptrAt (ops : Array Oper) (n : Nat) (t : Array Value) (d : Tmp) : Option Nat :=
  if (List.range n).all (fun j => match ops[j]? with | some oj => decide (oj.dst ≠ some d) | none => true) then
    match t[d]? with
    | some (.pointer (some ⟨i, _, none⟩)) => some i
    | _ => none
  else none

def stAt (S : Oper) : Option Tmp :=
  match S.op with
  | .store _ (.tmp d) _ => some d
  | _ => none

def anyBehind (ops : Array Oper) (n : Nat) : Bool := (List.range n).any fun k => match ops[k]? with | some o => behind ops n k o | none => false

/-- The loads that may come behind the store are of other blocks. -/
def apartB (ops : Array Oper) (n : Nat) (t : Array Value) : Bool :=
  !anyBehind ops n ||
  match (ops[n]?).bind stAt with
  | some d => match ptrAt ops n t d with
    | some i => (List.range n).all fun k => match ops[k]? with
      | some o => !behind ops n k o || (match (isLd ops n o).bind (ptrAt ops n t) with | some j => decide (j ≠ i) | none => false)
      | none => true
    | none => false
  | none => false

def regionJ (P : Program) (E : Eqs) (ops : Array Oper) (draw : Bool) (K : Array Value → List Blk → T) (t : Array Value) (H : List Blk) : T :=
  if (draw && (lates P ops (headLen ops) && apartB ops (headLen ops) t)) = true then opsF P E ops H (tailF P E ops K (headLen ops) H) (ops.toList.take (headLen ops)) t
  else regionG P E ops draw K t H

theorem store_kind {S : Oper} (hS : isSt S = true) (t : Array Value) (H : List Blk) : (∃ v G, opA P E S t H = .mem v G) ∨ opA P E S t H = .bad := by
  unfold isSt at hS
  simp only [Bool.and_eq_true] at hS
  obtain ⟨⟨hS, _⟩, _⟩ := hS
  split at hS
  · rename_i T a x ho
    unfold opA
    simp only [ho]
    split
    · split
      · exact .inl ⟨_, _, rfl⟩
      · exact .inr rfl
    · exact .inr rfl
  · cases hS

theorem store_first {m : List Nat} {t t' : Array Value} {H : List Blk} {w : World} {R : Value → List Blk → Prop} {ops : Array Oper} {K : Array Value → List Blk → T} {S : Oper} {l : List Oper} (hS : isSt S = true) (ht : RA m t t') (hH : RH m H w) (h : Run P f R (opsN P E ops K (S :: l) t H)) :
    ∃ w' v t2 t2' n G, Ran P S t' w w' ∧ t2' = t' ∧ t2 = putA t S.dst v ∧ RA (m ++ n) t2 t2' ∧ RH (m ++ n) G w' ∧ (∀ j ∈ n, w.heap.size ≤ j) ∧ Kept m w w' ∧ (∀ d j off, stAt S = some d → t'[d]? = some (.pointer (some ⟨j, off, none⟩)) → ∀ k, k ≠ j → w'.heap[k]? = w.heap[k]?) ∧ Run P f R (opsN P E ops K l t2 G) := by
  obtain ⟨hg, hdst, _, _⟩ := St.alone hS
  rcases store_kind (P := P) (E := E) hS t H with ⟨u, H2, hu⟩ | hu
  · simp only [opsN, guarded, hg, stepN, hu] at h
    have hS2 := hS
    unfold isSt at hS2
    simp only [Bool.and_eq_true] at hS2
    obtain ⟨⟨hS2, _⟩, _⟩ := hS2
    split at hS2
    · rename_i T a x ho
      unfold opA at hu
      simp only [ho] at hu
      split at hu
      · rename_i ua ux ha hx
        split at hu
        · rename_i G' hG
          injection hu with h1 h2
          subst h1; subst h2
          obtain ⟨w', hr, hH', hk, hfar⟩ := storeA_run hH (ev_rel ht ha) (ev_rel ht hx) hG
          refine ⟨w', undef, _, t', [], G', .inl ?_, rfl, rfl, ?_, by simpa using hH', by simp, hk, fun d j off hd hp => hfar j off ?_, h⟩
          · simp only [execOp, ho, Sem.run_bind, hr, Result.andThen_ok, Sem.run_pure]
          · rw [hdst, List.append_nil]; exact ht
          · unfold stAt at hd
            simp only [ho] at hd
            split at hd
            · rename_i T2 d2 x2 he
              cases hd
              cases he
              show t'.getD d undef = _
              simp [Array.getD_eq_getD_getElem?, hp]
            · cases hd
        · cases hu
      · cases hu
    · cases hS2
  · simp only [opsN, guarded, hg, stepN, hu] at h
    exact (run_fail h).elim

theorem ptrAt_spec {ops : Array Oper} {n : Nat} {t : Array Value} {d : Tmp} {i : Nat} (h : ptrAt ops n t d = some i) : (∀ j oj, j < n → ops[j]? = some oj → oj.dst ≠ some d) ∧ ∃ off, t[d]? = some (.pointer (some ⟨i, off, none⟩)) := by
  unfold ptrAt at h
  split at h
  · rename_i hall
    refine ⟨fun j oj hj hoj => ?_, ?_⟩
    · have := List.all_eq_true.1 hall j (List.mem_range.2 hj)
      simp only [hoj, decide_eq_true_eq] at this
      exact this
    · split at h
      · rename_i i' off ht
        cases h
        exact ⟨off, ht⟩
      · cases h
  · cases h

theorem regionJ_run (hE : EqsOk P E) (hm : P.follows .mixedOrders = true) {id : Nat} {ops : Array Oper} {draw : Bool} {K : Array Value → List Blk → T} {R : Value → List Blk → Prop} {m : List Nat} {t t' : Array Value} {H : List Blk} {w : World}
    (ht : RA m t t') (hH : RH m H w) (h : Run P f R (regionJ P E ops draw K t H)) : (Code.region id ops draw).wp P (QN P f m w K R) (act t') w := by
  unfold regionJ at h
  by_cases hc : (draw && (lates P ops (headLen ops) && apartB ops (headLen ops) t)) = true
  case neg => rw [if_neg hc] at h; exact regionG_run hE hm ht hH h
  rw [if_pos hc] at h
  simp only [lates, Bool.and_eq_true] at hc
  obtain ⟨rfl, ⟨⟨_, hB⟩, hA⟩, hapart⟩ := hc
  generalize headLen ops = n at *
  obtain ⟨S, L⟩ := lateB_spec hB
  have hlt := L.lt2
  have hA' : ∀ x ∈ allocsOf ops n, ∃ z, tzero P x.2.2 = some z ∧ z.cells.toList.all flat1 = true := fun x hx => by
    have := List.all_eq_true.1 hA x hx
    cases hz : tzero P x.2.2 with
    | none => simp [hz] at this
    | some z => simp only [hz] at this; exact ⟨z, rfl, this⟩
  have hH1 : RH m H { w with drawn := w.drawn + 1 } := ⟨hH.len, hH.nodup, hH.blk⟩
  -- what the store turns, and what the loads behind it read
  obtain ⟨φ, hφ1, hφ2⟩ : ∃ φ : World → World → Prop, (∀ w1 w', (∀ d j off, stAt S = some d → (∀ j oj, j < n → ops[j]? = some oj → oj.dst ≠ some d) → t'[d]? = some (.pointer (some ⟨j, off, none⟩)) → ∀ k, k ≠ j → w'.heap[k]? = w1.heap[k]?) → φ w1 w') ∧
      ∀ k o d, k < n → ops[k]? = some o → opFree o = false → isLd ops n o = some d → waitsT ops 6 n k = false → (∀ j oj, j < n → ops[j]? = some oj → oj.dst ≠ some d) ∧ ∃ j off, t'[d]? = some (.pointer (some ⟨j, off, none⟩)) ∧ ∀ w1 w', φ w1 w' → w'.heap[j]? = w1.heap[j]? := by
    unfold apartB at hapart
    simp only [Bool.or_eq_true, Bool.not_eq_true'] at hapart
    rcases hapart with hn | hap
    · refine ⟨fun _ _ => True, fun _ _ _ => trivial, fun k o d hk ho hfr _ hw => ?_⟩
      have hb : behind ops n k o = true := by simp [behind, hfr, hw]
      have : anyBehind ops n = true := List.any_eq_true.2 ⟨k, List.mem_range.2 hk, by simp only [ho]; exact hb⟩
      rw [hn] at this; cases this
    · simp only [L.at_, Option.bind_some] at hap
      cases hst : stAt S with
      | none => simp only [hst] at hap; cases hap
      | some dS =>
        simp only [hst] at hap
        cases hp : ptrAt ops n t dS with
        | none => simp only [hp] at hap; cases hap
        | some i =>
          simp only [hp] at hap
          obtain ⟨hnw, off, hti⟩ := ptrAt_spec hp
          obtain ⟨vS, hvS, hvr⟩ := ht.slot hti
          cases hvr with
          | pl _ h' => simp [flat1] at h'
          | ptr _ jS _ _ hjS =>
          refine ⟨fun w1 w' => ∀ k, k ≠ jS → w'.heap[k]? = w1.heap[k]?, fun w1 w' h => h dS jS off rfl hnw hvS, fun k o d hk ho hfr hld hw => ?_⟩
          have hb : behind ops n k o = true := by simp [behind, hfr, hw]
          have := List.all_eq_true.1 hap k (List.mem_range.2 hk)
          simp only [ho, hb, Bool.not_true, Bool.false_or, hld, Option.bind_some] at this
          cases hpd : ptrAt ops n t d with
          | none => simp only [hpd] at this; cases this
          | some j0 =>
            simp only [hpd, decide_eq_true_eq] at this
            obtain ⟨hnw2, off2, htj⟩ := ptrAt_spec hpd
            obtain ⟨vL, hvL, hvr2⟩ := ht.slot htj
            cases hvr2 with
            | pl _ h' => simp [flat1] at h'
            | ptr _ jL _ _ hjL =>
            exact ⟨hnw2, jL, off2, hvL, fun w1 w' h => h jL fun e => this (by subst e; exact nodup_inj hH.nodup hjL hjS)⟩
  have hF := opsF_run (Q := fun t' => ∀ (c : Nat → Array Value), c n = t' → (∀ k o, k < n → ops[k]? = some o → StepF P ops { w with drawn := w.drawn + 1 } o (c k) (c (k + 1))) →
      ∀ s w2 js l, InvF P ops { w with drawn := w.drawn + 1 } n c l s w2 js → (∀ j, j < n → l.getD j false = true) → ∃ w', Ran P S s w2 w' ∧ (∀ d j off, stAt S = some d → s[d]? = some (.pointer (some ⟨j, off, none⟩)) → ∀ k, k ≠ j → w'.heap[k]? = w2.heap[k]?) ∧ wpList P ops (QN P f m w K R) (ops.toList.drop (n + 1)) (act s) w')
    hE hH1 (fun t t' ht h c hcn hchain s w2 js l inv hl => ?_) _ t t' ht h
  · obtain ⟨c, h0, hQ, hc⟩ := wpF_chain _ _ hF
    have hln : (ops.toList.take n).length = n := by rw [List.length_take, Array.length_toList]; omega
    have hc' : ∀ k o, k < n → ops[k]? = some o → StepF P ops { w with drawn := w.drawn + 1 } o (c k) (c (k + 1)) := fun k o hk ho => hc k o (by rw [List.getElem?_take_of_lt hk, Array.getElem?_toList]; exact ho)
    rw [hln] at hQ
    refine wp_region_any hm ?_
    have rep : ∀ j, (Array.replicate ops.size false).getD j false = false := fun j => getD_replicate_false _ _
    have Hh := wpAny_late (Q := QN P f m w K R) L hc' (fun k o d T hk ho hal => by
        obtain ⟨z, hz, _⟩ := hA' (k, d, T) (mem_allocsOf.2 ⟨hk, o, ho, hal⟩)
        exact ⟨z, hz⟩) (φ := φ) (fun k o d hk ho hfr hld hw => by
        obtain ⟨hnw, j, off, hp, hsame⟩ := hφ2 k o d hk ho hfr hld hw
        refine ⟨j, off, ?_, hsame⟩
        rw [chain_far hc' k (Nat.zero_le _) (by omega) (fun j2 o2 _ h2 ho2 => .inl (hnw j2 o2 (by omega) ho2)) (by omega), h0]
        exact hp) (fun s2 w2 js l inv hl => by
        obtain ⟨w', hr, hfar, hw⟩ := hQ c rfl hc' s2 w2 js l inv hl
        have hφ3 : φ w2 w' := hφ1 w2 w' fun d j off hst hnw hp => hfar d j off hst (by
          rw [inv.old d fun j2 o2 hj2 _ ho2 => hnw j2 o2 hj2 ho2, h0]
          exact hp)
        have := wpAny_of_seq (md := .any) (Q' := QN P f m w K R) (P := P) (ops.toList.drop (n + 1)) (n + 1) (listedN (n + 1) ops.size) (act s2) w' (fun j => by rw [List.getElem?_drop, Array.getElem?_toList]) (by rw [List.length_drop, Array.length_toList]; exact L.seq) hw
        rw [List.length_drop, Array.length_toList] at this
        exact ⟨w', hr, hφ3, this⟩) n (Array.replicate ops.size false) t' { w with drawn := w.drawn + 1 } (fun _ => 0)
      ⟨by simp, fun j oj _ hl => (by rw [rep] at hl; cases hl), fun t _ ht => getD_in (by simpa using ht) (rep _)⟩ (rep _)
      (by
        have : ∀ k, left k (Array.replicate ops.size false) = k := fun k => by
          induction k with
          | zero => rfl
          | succ k ih =>
            have e : left (k + 1) (Array.replicate ops.size false) = left k (Array.replicate ops.size false) + 1 := by
              simp only [left, List.range_succ, List.countP_append, List.countP_singleton, rep]
              rfl
            rw [e, ih]
        exact this n)
      ⟨by rw [h0], fun d _ => by rw [h0], fun j o d hj hl => (by rw [rep] at hl; cases hl), fun j o d T hj hl => (by rw [rep] at hl; cases hl), fun j k oj ok hj hk hl => (by rw [rep] at hl; cases hl), Below.refl _ _⟩
    rw [show n + 1 + (ops.size - (n + 1)) = ops.size by omega] at Hh
    exact Hh
  · unfold tailF at h
    cases hfill : fillA P (allocsOf ops n) t H with
    | none => simp only [hfill] at h; exact (run_fail h).elim
    | some p =>
      obtain ⟨t2, H2⟩ := p
      simp only [hfill] at h
      obtain ⟨hra, hrh, hfr⟩ := fill_done L.toFloatBase hA' hH1 ht hcn hchain inv hl hfill
      have hdrop : ops.toList.drop n = S :: ops.toList.drop (n + 1) := by
        rw [List.drop_eq_getElem_cons (by rw [Array.length_toList]; omega)]
        congr 1
        have := L.at_
        rw [Array.getElem?_eq_getElem (by omega)] at this
        simpa using Option.some.inj this
      rw [hdrop] at h
      obtain ⟨w', v, t3, t3', n', G, hr, rfl, rfl, hra2, hrh2, hn2, hk2, hfar, h2⟩ := store_first L.st hra hrh h
      refine ⟨w', hr, hfar, ?_⟩
      have k1 : Kept m w w2 := ⟨inv.below.os, inv.below.tape, inv.below.output, inv.below.size, fun k hk _ => inv.below.block k hk⟩
      rw [List.append_assoc] at hra2 hrh2
      refine opsN_run hE _ _ _ t3' G w' hra2 hrh2 (fun j hj => ?_) (k1.trans hk2 hfr) h2
      rcases List.mem_append.1 hj with hj | hj
      · exact hfr j hj
      · exact Nat.le_trans inv.below.size (hn2 j hj)

end

end Go.Proofs.YtebaobmmnkebaaaGreat.Abs
