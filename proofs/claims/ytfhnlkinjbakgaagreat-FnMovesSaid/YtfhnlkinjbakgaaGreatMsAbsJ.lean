/- The abstract machine: a region that draws its order, whose stores may go ahead of what doesn't look at memory. -/
import Derived.Test.YtfhnlkinjbakgaaGreatMsAbsG
namespace Go.Proofs.YtfhnlkinjbakgaaGreat.Abs
open Go Go.RowKit
def isSt (o : Oper) : Bool:=(match o.op with | .store ..=>true | _=>false) && o.guard.isNone && o.dst.isNone
def isLd (_ : Array Oper) (_ : Nat) (o : Oper) : Option Tmp:=
  match o.op with
  | .load _ (.tmp d)=>some d
  | _=>none
def waitsT (ops : Array Oper) : Nat → Nat → Nat → Bool
  | 0,i,k=>Region.waitsFor .any ops i k
  | f + 1,i,k=>Region.waitsFor .any ops i k || (List.range i).any fun j=>Region.waitsFor .any ops i j && waitsT ops f j k
def behind (ops : Array Oper) (n k : Nat) (o : Oper) : Bool:=!opFree o && !waitsT ops 6 n k
def stLen (ops : Array Oper) (n : Nat) : Nat:=((ops.toList.drop n).takeWhile isSt).length
def lateB (ops : Array Oper) (n k : Nat) : Bool:=
  Region.noSelect ops && decide (0 < k) && decide (n + k ≤ ops.size) && (decide (n + k = ops.size) || (Region.sinkB .any ops (n + k) && Region.chainB .any ops (n + k))) && Region.seqB .any ops (ops.size - (n + k)) (n + k) (listedN (n + k) ops.size) &&
  ((List.range n).all fun k=>match ops[k]? with
    | some o=>(o.after.toList.all fun e=>!Region.binds .any e || decide (e.on < k)) && ((List.range n).all fun j=>floatAt ops j k o) && (!behind ops n k o || (isLd ops n o).isSome)
    | none=>false) &&
  ((List.range k).all fun q=>match ops[n + q]? with
    | some o=>isSt o && (o.after.toList.all fun e=>!Region.binds .any e || decide (e.on < n + q)) && (decide (q = 0) || Region.waitsFor .any ops (n + q) (n + q - 1)) && (List.range n).all fun j=>match ops[j]? with
        | some oj=>match oj.dst with | some d=>!(readsT ops o).contains d || Region.waitsFor .any ops (n + q) j | none=>true
        | none=>true
    | none=>false)
section
variable {P : Program} {ops : Array Oper} {w0 : World}
structure StOk (ops : Array Oper) (n q : Nat) (S : Oper) : Prop where
  at_ : ops[n + q]? = some S
  st : isSt S = true
  back : ∀ e ∈ S.after,Region.binds .any e = true → e.on < n + q
  prev : q = 0 ∨ Region.waitsFor .any ops (n + q) (n + q - 1) = true
  reads : ∀ j oj d,j < n → ops[j]? = some oj → oj.dst = some d → d ∈ readsT ops S → Region.waitsFor .any ops (n + q) j = true
structure LateOk (ops : Array Oper) (n k : Nat) : Prop extends FloatBase ops n where
  pos : 0 < k
  lt2 : n + k ≤ ops.size
  tail : n + k = ops.size ∨ (Region.sinkB .any ops (n + k) = true ∧ Region.chainB .any ops (n + k) = true)
  seq : Region.seqB .any ops (ops.size - (n + k)) (n + k) (listedN (n + k) ops.size) = true
  free : ∀ k o,k < n → ops[k]? = some o → behind ops n k o = true → (isLd ops n o).isSome = true
  sts : ∀ q,q < k → ∃ S,StOk ops n q S
theorem lateB_spec {n k : Nat} (h : lateB ops n k = true) : LateOk ops n k:=by
  unfold lateB at h
  simp only [Bool.and_eq_true,Bool.or_eq_true,decide_eq_true_eq] at h
  obtain ⟨⟨⟨⟨⟨⟨h1,h2⟩,h3⟩,h4⟩,h5⟩,h6⟩,h7⟩:=h
  have hk : ∀ k o,k < n → ops[k]? = some o → ((o.after.toList.all fun e=>!Region.binds .any e || decide (e.on < k)) = true ∧ ∀ j,j < n → floatAt ops j k o = true) ∧ (behind ops n k o = false ∨ (isLd ops n o).isSome = true):=fun k o hk ho=>by
    have:=List.all_eq_true.1 h6 k (List.mem_range.2 hk)
    simp only [ho,Bool.and_eq_true,Bool.or_eq_true,Bool.not_eq_true'] at this
    exact ⟨⟨this.1.1,fun j hj=>List.all_eq_true.1 this.1.2 j (List.mem_range.2 hj)⟩,this.2⟩
  have hf:=floatAt_spec (n:=n) fun k o hkn ho=>(hk k o hkn ho).1.2
  refine ⟨⟨h1,by omega,fun k o hkn ho e he hb=>back_spec (hk k o hkn ho).1.1 e he hb,hf.1,hf.2⟩,h2,h3,h4,h5,fun k o hkn ho hfr=>?_,fun q hq=>?_⟩
  · rcases (hk k o hkn ho).2 with q | q
    · rw [hfr] at q; cases q
    · exact q
  · have:=List.all_eq_true.1 h7 q (List.mem_range.2 hq)
    cases hS : ops[n + q]? with
    | none=>simp [hS] at this
    | some S=>
      simp only [hS,Bool.and_eq_true,Bool.or_eq_true,decide_eq_true_eq] at this
      obtain ⟨⟨⟨k1,k2⟩,k3⟩,k4⟩:=this
      refine ⟨S,hS,k1,fun e he hb=>back_spec k2 e he hb,k3,fun j oj d hj hoj hd hr=>?_⟩
      have:=List.all_eq_true.1 k4 j (List.mem_range.2 hj)
      simp only [hoj,hd,Bool.or_eq_true] at this
      rcases this with q | q
      · have : (readsT ops S).contains d = true:=by simpa using hr
        rw [this] at q; cases q
      · exact q
theorem InvF.congr {n : Nat} {c : Nat → Array Value} {l l2 : Array Bool} {s : Array Value} {w : World} {js : Nat → Nat} (inv : InvF P ops w0 n c l s w js) (h : ∀ j,j < n → l2.getD j false = l.getD j false) : InvF P ops w0 n c l2 s w js:=
  ⟨inv.size,fun d hd=>inv.old d fun j o hj hl=>hd j o hj (by rw [h j hj]; exact hl),fun j o d hj hl=>inv.new j o d hj (by rw [← h j hj]; exact hl),fun j o d T hj hl=>inv.al j o d T hj (by rw [← h j hj]; exact hl),
    fun j k oj ok hj hk hl hl2=>inv.dis j k oj ok hj hk (by rw [← h j hj]; exact hl) (by rw [← h k hk]; exact hl2),inv.below⟩
theorem left_congr {l l2 : Array Bool} : ∀ n,(∀ j,j < n → l2.getD j false = l.getD j false) → left n l2 = left n l
  | 0,_=>rfl
  | n + 1,h=>by
    have e : ∀ l : Array Bool,left (n + 1) l = left n l + (if l.getD n false = true then 0 else 1):=fun l=>by
      simp only [left,List.range_succ,List.countP_append,List.countP_singleton]
      cases l.getD n false <;> rfl
    rw [e,e,left_congr n fun j hj=>h j (by omega),h n (by omega)]
theorem InvF.same {n : Nat} {c : Nat → Array Value} {l l2 : Array Bool} {s s2 : Array Value} {w w2 : World} {js : Nat → Nat} {k q : Nat} {S : Oper} (L : LateOk ops n k) (hS : StOk ops n q S) (inv : InvF P ops w0 n c l s w js) (inv2 : InvF P ops w0 n c l2 s2 w2 js)
    (h1 : ∀ j,j < n → Region.waitsFor .any ops (n + q) j = true → l.getD j false = true) (h2 : ∀ j,j < n → l.getD j false = true → l2.getD j false = true) : execOp (act s).eval S = execOp (act s2).eval S:=by
  refine execOp_congr S (fun cs b=>Region.noSelect_spec L.sel (n + q) S cs b hS.at_) fun x hx=>?_
  cases x with
  | tmp d=>
    have hd : d ∈ readsT ops S:=by
      unfold readsT
      exact List.mem_append_left _ (List.mem_filterMap.2 ⟨.tmp d,by simpa using hx,rfl⟩)
    have e : s[d]? = s2[d]?:=by
      by_cases qq : ∃ j oj,j < n ∧ ops[j]? = some oj ∧ oj.dst = some d
      · obtain ⟨j,oj,hj,hoj,hdj⟩:=qq
        have hl:=h1 j hj (hS.reads j oj d hj hoj hdj hd)
        cases ha : alT oj with
        | none=>rw [inv.new j oj d hj hl hoj ha hdj,inv2.new j oj d hj (h2 j hj hl) hoj ha hdj]
        | some p=>
          obtain ⟨d',T⟩:=p
          have : d' = d:=Option.some.inj ((alT_spec ha).2.2.symm.trans hdj)
          subst this
          by_cases hlt : d' < s.size
          · rw [(inv.al j oj d' T hj hl hoj ha).1 hlt,(inv2.al j oj d' T hj (h2 j hj hl) hoj ha).1 (by rw [inv2.size,← inv.size]; exact hlt)]
          · rw [Array.getElem?_eq_none (Nat.le_of_not_lt hlt),Array.getElem?_eq_none (by rw [inv2.size,← inv.size]; exact Nat.le_of_not_lt hlt)]
      · have hno : ∀ j oj,j < n → ops[j]? = some oj → oj.dst ≠ some d:=fun j oj hj hoj hdj=>qq ⟨j,oj,hj,hoj,hdj⟩
        rw [inv.old d fun j oj hj _ hoj=>hno j oj hj hoj,inv2.old d fun j oj hj _ hoj=>hno j oj hj hoj]
    show s.getD d undef = s2.getD d undef
    simp only [Array.getD_eq_getD_getElem?,e]
  | _=>rfl
theorem isLd_spec {n : Nat} {o : Oper} {d : Tmp} (h : isLd ops n o = some d) : ∃ T,o.op = .load T (.tmp d):=by
  unfold isLd at h
  split at h
  · rename_i T d' ho
    cases h
    exact ⟨T,ho⟩
  · cases h
theorem alT_of_free {o : Oper} (h : opFree o = true) : alT o = none:=by
  cases q : alT o with
  | none=>rfl
  | some p=>
    obtain ⟨d,T⟩:=p
    simp [opFree,(alT_spec q).1] at h
theorem alT_of_ld {n : Nat} {o : Oper} {d : Tmp} (h : isLd ops n o = some d) : alT o = none:=by
  obtain ⟨T,ho⟩:=isLd_spec h
  unfold alT
  simp [ho]
theorem waitsT_listed {N : Nat} {listed : Array Bool} (hd : HeadInv .any ops N listed) : ∀ (f i k : Nat),listed.getD i false = true → waitsT ops f i k = true → listed.getD k false = true
  | 0,i,k,hi,h=>by
    obtain ⟨o,ho,e,he,hb,hon⟩:=Region.waitsFor_spec h
    have:=hd.closed i o ho hi e he hb
    rwa [hon] at this
  | f + 1,i,k,hi,h=>by
    simp only [waitsT,Bool.or_eq_true] at h
    rcases h with h | h
    · exact waitsT_listed hd 0 i k hi h
    · obtain ⟨j,_,hj⟩:=List.any_eq_true.1 h
      simp only [Bool.and_eq_true] at hj
      exact waitsT_listed hd f j k (waitsT_listed hd 0 i j hi hj.1) hj.2
theorem LateOk.rest {n k : Nat} {S : Oper} (L : LateOk ops n k) (hS : ops[n]? = some S) {N : Nat} {listed : Array Bool} (hd : HeadInv .any ops N listed) (hr : ∀ e ∈ S.after,Region.binds .any e = true → listed.getD e.on false = true) {j : Nat} {o : Oper} (hj : j < n) (ho : ops[j]? = some o) (hl : listed.getD j false = false) :
    opFree o = true ∨ ∃ d,isLd ops n o = some d ∧ opFree o = false ∧ waitsT ops 6 n j = false:=by
  cases q : opFree o with
  | true=>exact .inl rfl
  | false=>
    right
    have hw : waitsT ops 6 n j = false:=by
      cases hw : waitsT ops 6 n j with
      | false=>rfl
      | true=>
        have direct : ∀ i,Region.waitsFor .any ops n i = true → listed.getD i false = true:=fun i hi=>by
          obtain ⟨o2,ho2,e,he,hb,hon⟩:=Region.waitsFor_spec hi
          have : o2 = S:=Option.some.inj (ho2.symm.trans hS)
          subst this
          have:=hr e he hb
          rwa [hon] at this
        have : listed.getD j false = true:=by
          have h2 : waitsT ops (5 + 1) n j = true:=hw
          simp only [waitsT.eq_2,Bool.or_eq_true] at h2
          rcases h2 with h2 | h2
          · exact direct j h2
          · obtain ⟨i,_,hi⟩:=List.any_eq_true.1 h2
            simp only [Bool.and_eq_true] at hi
            exact waitsT_listed hd 5 i j (direct i hi.1) hi.2
        rw [hl] at this; cases this
    obtain ⟨d,hd1⟩:=Option.isSome_iff_exists.1 (L.free j o hj ho (by simp [behind,q,hw]))
    exact ⟨d,hd1,rfl,hw⟩
theorem InvF.complete {n : Nat} {c : Nat → Array Value} {k : Nat} (L : LateOk ops n k) (hc : ∀ k o,k < n → ops[k]? = some o → StepF P ops w0 o (c k) (c (k + 1))) :
    ∀ (f : Nat) (listed : Array Bool) (s : Array Value) (w : World) (js : Nat → Nat),listed.size = ops.size → left n listed = f → (∀ j o,j < n → ops[j]? = some o → listed.getD j false = false → alT o = none) → InvF P ops w0 n c listed s w js →
      ∃ s2 l2,InvF P ops w0 n c l2 s2 w js ∧ (∀ j,j < n → l2.getD j false = true)
  | 0,listed,s,w,js,_,hf,_,inv=>⟨s,listed,inv,left_zero n hf⟩
  | f + 1,listed,s,w,js,hsz,hf,hfr,inv=>by
    obtain ⟨i,hi,hu,hmin⟩:=left_pos n (by omega : left n listed ≠ 0)
    have hlt:=L.lt
    have ho : ops[i]? = some ops[i]:=Array.getElem?_eq_getElem (by omega)
    have hr : i ∈ Region.ready .any ops listed:=mem_ready.2 ⟨getD_in (by omega) hu,_,ho,fun e he hb=>hmin _ (L.back i _ hi ho e he hb)⟩
    have hleft : left n (listed.setIfInBounds i true) = f:=by have:=(left_set hu (by omega : i < listed.size) n).1 hi; omega
    have al:=hfr i _ hi ho hu
    rcases hc i _ hi ho with ⟨ha,_⟩ | ⟨_,v,hv,_⟩
    · rw [al] at ha; cases ha
    · exact InvF.complete L hc f _ _ w js (by simp [hsz]) hleft (fun j o hj hoj hl=>hfr j o hj hoj (by
        by_cases e : i = j
        · subst e; exact hu
        · rwa [getD_set_ne false e] at hl)) (inv.put L.toFloatBase hc hsz hi ho al hv (Below.refl _ _))
theorem St.alone {S : Oper} (h : isSt S = true) : S.guard = none ∧ S.dst = none ∧ opFree S = false ∧ alT S = none:=by
  unfold isSt at h
  simp only [Bool.and_eq_true,Option.isNone_iff_eq_none] at h
  obtain ⟨⟨h1,h2⟩,h3⟩:=h
  refine ⟨h2,h3,?_,?_⟩
  · cases ho : S.op <;> simp [ho] at h1 <;> simp [opFree,ho]
  · unfold alT
    rw [h2,h3]
    split <;> simp_all
def Ran (P : Program) (S : Oper) (s : Array Value) (w w' : World) : Prop:=(execOp (act s).eval S).run P w = .ok .skip w' ∨ ∃ v,(execOp (act s).eval S).run P w = .ok (.value v) w'
theorem Ran.fn {S : Oper} {s : Array Value} {w a b : World} (h : Ran P S s w a) (k : Ran P S s w b) : a = b:=by
  rcases h with h | ⟨v,h⟩ <;> rcases k with k | ⟨u,k⟩ <;> rw [h] at k <;> cases k <;> rfl
def stAt (S : Oper) : Option Tmp:=
  match S.op with
  | .store _ (.tmp d) _=>some d
  | _=>none
def FarS (S : Oper) (s : Array Value) (w w' : World) : Prop:=∀ d j off,stAt S = some d → s[d]? = some (.pointer (some ⟨j,off,none⟩)) → ∀ k,k ≠ j → w'.heap[k]? = w.heap[k]?
def RanL (P : Program) (s : Array Value) : List Oper → World → World → Prop
  | [],w,w'=>w' = w
  | S :: l,w,w'=>∃ wm,Ran P S s w wm ∧ RanL P s l wm w'
def RanF (P : Program) (s : Array Value) : List Oper → World → World → Prop
  | [],w,w'=>w' = w
  | S :: l,w,w'=>∃ wm,(Ran P S s w wm ∧ FarS S s w wm) ∧ RanF P s l wm w'
theorem RanF.forget {s : Array Value} : ∀ {l : List Oper} {w w' : World},RanF P s l w w' → RanL P s l w w'
  | [],_,_,h=>h
  | _ :: _,_,_,⟨wm,h1,h2⟩=>⟨wm,h1.1,h2.forget⟩
theorem RanL.fn {s : Array Value} : ∀ {l : List Oper} {w a b : World},RanL P s l w a → RanL P s l w b → a = b
  | [],_,_,_,h1,h2=>h1.trans h2.symm
  | _ :: _,_,_,_,⟨_,h1,h2⟩,⟨_,k1,k2⟩=>by
    have:=h1.fn k1
    subst this
    exact h2.fn k2
theorem RanL.same {s s2 : Array Value} : ∀ {l : List Oper} {w w' : World},(∀ S ∈ l,execOp (act s).eval S = execOp (act s2).eval S) → RanL P s l w w' → RanL P s2 l w w'
  | [],_,_,_,h=>h
  | S :: l,_,_,he,⟨wm,h1,h2⟩=>⟨wm,by unfold Ran at h1 ⊢; rw [← he S (by simp)]; exact h1,h2.same fun S hS=>he S (by simp [hS])⟩
theorem RanL.snoc {s : Array Value} {S : Oper} : ∀ {l : List Oper} {w wm w' : World},RanL P s l w wm → Ran P S s wm w' → RanL P s (l ++ [S]) w w'
  | [],_,_,w',h,h2=>by cases h; exact ⟨w',h2,rfl⟩
  | _ :: _,_,_,_,⟨wn,h1,h2⟩,h3=>⟨wn,h1,h2.snoc h3⟩
theorem RanF.part {s : Array Value} : ∀ {l l2 : List Oper} {w w' : World},RanF P s (l ++ l2) w w' → ∃ wm,RanF P s l w wm ∧ RanF P s l2 wm w'
  | [],_,w,_,h=>⟨w,rfl,h⟩
  | _ :: _,_,_,_,⟨wn,h1,h2⟩=>by
    obtain ⟨wm,k1,k2⟩:=h2.part
    exact ⟨wm,⟨wn,h1,k1⟩,k2⟩
def storesOf (ops : Array Oper) (n k : Nat) : List Oper:=(ops.toList.drop n).take k
theorem storesOf_at {n k q : Nat} (hq : q < k) : (storesOf ops n k)[q]? = ops[n + q]?:=by
  unfold storesOf
  rw [List.getElem?_take_of_lt hq,List.getElem?_drop,Array.getElem?_toList]
theorem stores_mem {n k q : Nat} {S : Oper} (hqk : q ≤ k) (h : S ∈ (storesOf ops n k).take q) : ∃ r,r < q ∧ ops[n + r]? = some S:=by
  obtain ⟨r,hr,rfl⟩:=List.getElem_of_mem h
  rw [List.length_take] at hr
  refine ⟨r,by omega,?_⟩
  rw [← storesOf_at (k:=k) (by omega),List.getElem_take]
  exact List.getElem?_eq_getElem (by omega)
theorem stores_split {n k q : Nat} {S : Oper} (hq : q < k) (hS : ops[n + q]? = some S) : (storesOf ops n k).take (q + 1) = (storesOf ops n k).take q ++ [S]:=by
  have h : (storesOf ops n k)[q]? = some S:=by rw [storesOf_at hq]; exact hS
  rw [List.take_add_one,h]
  rfl
theorem LateOk.no_tail {n k : Nat} (L : LateOk ops n k) {listed : Array Bool} (hd : HeadInv .any ops (n + k) listed) {i0 : Nat} (hi0 : i0 < n + k) (hu : listed.getD i0 false = false) {i : Nat} (hi : i ∈ Region.ready .any ops listed) : i < n + k:=by
  rcases Nat.lt_or_ge i (n + k) with h | h
  · exact h
  · obtain ⟨_,o,ho,_⟩:=mem_ready.1 hi
    have hlt:=(Array.getElem?_eq_some_iff.1 ho).1
    rcases L.tail with h2 | ⟨h2,h3⟩
    · omega
    · have hsz:=hd.size
      have hlt2:=L.lt2
      exact absurd hi (tail_waits h2 h3 (by omega) hd _ i0 rfl hi0 (getD_in (by omega) hu) i h)
theorem wpAny_late {n k : Nat} {c : Nat → Array Value} {Q : Exit → Act → World → Prop} (L : LateOk ops n k) (hc : ∀ k o,k < n → ops[k]? = some o → StepF P ops w0 o (c k) (c (k + 1)))
    (hz : ∀ k o d T,k < n → ops[k]? = some o → alT o = some (d,T) → ∃ z,tzero P T = some z)
    (hld : ∀ kk o d,kk < n → ops[kk]? = some o → opFree o = false → isLd ops n o = some d → waitsT ops 6 n kk = false → ∃ j off,(c kk)[d]? = some (.pointer (some ⟨j,off,none⟩)) ∧
      ∀ s w js l,InvF P ops w0 n c l s w js → (∀ j,j < n → l.getD j false = true) → ∀ q wq,q ≤ k → RanF P s ((storesOf ops n k).take q) w wq → wq.heap[j]? = w.heap[j]?)
    (hQ : ∀ s w js l,InvF P ops w0 n c l s w js → (∀ j,j < n → l.getD j false = true) → ∃ w',RanF P s (storesOf ops n k) w w' ∧ wpAny P .any ops Q (ops.size - (n + k)) (listedN (n + k) ops.size) (act s) w') :
    ∀ (f q : Nat) (listed : Array Bool) (s : Array Value) (w wq : World) (js : Nat → Nat),q ≤ k → HeadInv .any ops (n + k) listed → (∀ r,r < k → listed.getD (n + r) false = decide (r < q)) → left n listed + (k - q) = f → InvF P ops w0 n c listed s w js →
      RanL P s ((storesOf ops n k).take q) w wq → wpAny P .any ops Q (f + (ops.size - (n + k))) listed (act s) wq:=by
  intro f
  induction f with
  | zero=>
    intro q listed s w wq js hqk hd hls hf inv hr
    have hq : q = k:=by omega
    subst hq
    have hl0 : left n listed = 0:=by omega
    have e : listed = listedN (n + q) ops.size:=by
      refine Array.ext (by rw [hd.size]; simp [listedN]) fun i h1 h2=>?_
      simp only [listedN,List.getElem_toArray,List.getElem_map,List.getElem_range]
      by_cases hi : i < n
      · have:=left_zero n hl0 i hi
        have h3 : i < n + q:=by omega
        simp only [h3,decide_true]
        simpa [Array.getD,h1] using this
      · by_cases hi2 : i < n + q
        · have:=hls (i - n) (by omega)
          rw [show n + (i - n) = i by omega] at this
          have h3 : i - n < q:=by omega
          simp only [hi2,h3,decide_true] at this ⊢
          simpa [Array.getD,h1] using this
        · have:=hd.tail i (by omega) (by rw [← hd.size]; exact h1)
          simp only [hi2,decide_false]
          simpa [Array.getD,h1] using this
    obtain ⟨w2,h2,h3⟩:=hQ s w js listed inv (left_zero n hl0)
    have hlen : (storesOf ops n q).take q = storesOf ops n q:=List.take_of_length_le (by unfold storesOf; rw [List.length_take]; omega)
    rw [hlen] at hr
    rw [Nat.zero_add,e,hr.fn h2.forget]
    exact h3
  | succ f ih=>
    intro q listed s w wq js hqk hd hls hf inv hr
    have hsz:=hd.size
    have hlt:=L.lt2
    have hpos:=L.pos
    obtain ⟨S0,hS0⟩:=L.sts 0 hpos
    have hS0at : ops[n]? = some S0:=hS0.at_
    obtain ⟨i0,hi0,hu0,r0⟩ : ∃ i0,i0 < n + k ∧ listed.getD i0 false = false ∧ i0 ∈ Region.ready .any ops listed:=by
      by_cases hl : left n listed = 0
      · have hq : q < k:=by omega
        obtain ⟨S,hS⟩:=L.sts q hq
        have hu : listed.getD (n + q) false = false:=by rw [hls q hq]; simp
        refine ⟨n + q,by omega,hu,mem_ready.2 ⟨getD_in (by omega) hu,S,hS.at_,fun e he hb=>?_⟩⟩
        have hon:=hS.back e he hb
        by_cases h : e.on < n
        · exact left_zero n hl _ h
        · have:=hls (e.on - n) (by omega)
          rw [show n + (e.on - n) = e.on by omega] at this
          rw [this]
          exact decide_eq_true (by omega)
      · obtain ⟨i0,hi0,hu0,hmin⟩:=left_pos n hl
        have ho0 : ops[i0]? = some ops[i0]:=Array.getElem?_eq_getElem (by omega)
        exact ⟨i0,by omega,hu0,mem_ready.2 ⟨getD_in (by omega) hu0,_,ho0,fun e he hb=>hmin _ (L.back i0 _ hi0 ho0 e he hb)⟩⟩
    rw [show f + 1 + (ops.size - (n + k)) = (f + (ops.size - (n + k))) + 1 by omega]
    refine ⟨fun h=>(by rw [h] at r0; cases r0),fun i hi=>?_⟩
    have hin1:=L.no_tail hd hi0 hu0 hi
    obtain ⟨hiu,o,ho,hall⟩:=mem_ready.1 hi
    have hu:=getD_both hiu
    have hnext:=hd.set hi hin1
    have done : ∀ r S,r < q → StOk ops n r S → ∀ j,j < n → Region.waitsFor .any ops (n + r) j = true → listed.getD j false = true:=fun r S hrq hS j _ hj=>by
      obtain ⟨oS,hoS,e,he,hb,hon⟩:=Region.waitsFor_spec hj
      have hl : listed.getD (n + r) false = true:=by rw [hls r (by omega)]; exact decide_eq_true hrq
      have:=hd.closed (n + r) oS hoS hl e he hb
      rwa [hon] at this
    have first : 0 < q → ∀ e ∈ S0.after,Region.binds .any e = true → listed.getD e.on false = true:=fun h e he hb=>by
      have hl : listed.getD n false = true:=by have:=hls 0 hpos; rw [Nat.add_zero] at this; rw [this]; exact decide_eq_true h
      exact hd.closed n S0 hS0at hl e he hb
    have sameL : ∀ {l2 s2 w2},InvF P ops w0 n c l2 s2 w2 js → (∀ j,j < n → listed.getD j false = true → l2.getD j false = true) → RanL P s2 ((storesOf ops n k).take q) w wq:=fun inv2 h2=>by
      refine hr.same fun S hS=>?_
      obtain ⟨r,hrq,hSr⟩:=stores_mem hqk hS
      obtain ⟨S',hS'⟩:=L.sts r (by omega)
      have : S' = S:=Option.some.inj (hS'.at_.symm.trans hSr)
      subst this
      exact inv.same L hS' inv2 (done r S' hrq hS') h2
    by_cases hin : i < n
    · have hleft : left n (listed.setIfInBounds i true) + (k - q) = f:=by have:=(left_set hu (by omega : i < listed.size) n).1 hin; omega
      have hls' : ∀ r,r < k → (listed.setIfInBounds i true).getD (n + r) false = decide (r < q):=fun r hrk=>by rw [getD_set_ne false (by omega)]; exact hls r hrk
      have hev:=inv.evals L.toFloatBase hc hin ho hi
      have hw : Region.wanted o (yielded ops (act s).tmps) = Region.wanted o (yielded ops (c i)):=hev.2
      unfold wpOp
      simp only [ho]
      by_cases hq0 : q = 0
      · subst hq0
        have hww : wq = w:=hr
        subst hww
        have go : ∀ s2 w2 js2,InvF P ops w0 n c (listed.setIfInBounds i true) s2 w2 js2 → wpAny P .any ops Q (f + (ops.size - (n + k))) (listed.setIfInBounds i true) (act s2) w2:=fun s2 w2 js2 inv2=>
          ih 0 _ s2 w2 w2 js2 (Nat.zero_le _) hnext hls' hleft inv2 rfl
        rcases hc i o hin ho with ⟨ha,_⟩ | ⟨ha,v,hv,hx⟩
        · obtain ⟨⟨d,T⟩,hT⟩:=Option.isSome_iff_exists.1 ha
          obtain ⟨z,hz'⟩:=hz i o d T hin ho hT
          obtain ⟨hop,hg,hdst⟩:=alT_spec hT
          rw [if_pos (by simp [Region.wanted,hg])]
          left
          unfold Oper.wp
          have hrun : (execOp (act s).eval o).run P wq = .ok (.value (.pointer (some ⟨wq.heap.size,0,none⟩))) (wq.alloc (.cells z.cells T)):=by
            simp only [execOp,hop,Instr.alloc,Sem.run_bind,run_zeroValue hz' wq,Result.andThen_ok]
            rfl
          rw [hrun,Oper.upon_value,act_put]
          exact go _ _ _ (inv.make L.toFloatBase hsz hin ho hT hz' hu)
        · rcases hx with ⟨hw1,hst,_⟩ | ⟨hw1,rfl⟩
          · rw [if_pos (hw.trans hw1)]
            left
            unfold Oper.wp
            rw [hev.1]
            rcases hst wq inv.below with hr | ⟨g,args,hr,hcall⟩
            · rw [hr,Oper.upon_value,act_put]
              exact go _ _ _ (inv.put L.toFloatBase hc hsz hin ho ha hv (Below.refl _ _))
            · rw [hr]
              refine hcall.mono ?_
              rintro e w2 ⟨rfl,hb⟩
              show wpAny P .any ops Q (f + (ops.size - (n + k))) (listed.setIfInBounds i true) ((act s).put o.dst v) w2
              rw [act_put]
              exact go _ _ _ (inv.put L.toFloatBase hc hsz hin ho ha hv hb)
          · rw [if_neg (by rw [hw,hw1]; simp),act_put]
            exact go _ _ _ (inv.put L.toFloatBase hc hsz hin ho ha hv (Below.refl _ _))
      · have hrest:=L.rest hS0at hd (first (by omega)) hin ho hu
        have al : alT o = none:=by
          rcases hrest with h | ⟨d,h,_⟩
          · exact alT_of_free h
          · exact alT_of_ld h
        rcases hc i o hin ho with ⟨ha,_⟩ | ⟨_,v,hv,hx⟩
        · rw [al] at ha; cases ha
        · have inv2:=inv.put L.toFloatBase hc hsz hin ho al hv (Below.refl _ w)
          have go : wpAny P .any ops Q (f + (ops.size - (n + k))) (listed.setIfInBounds i true) (act (putA s o.dst v)) wq:=
            ih q _ _ w wq js hqk hnext hls' hleft inv2 (sameL inv2 fun j _ hj=>getD_set_true hj)
          rcases hx with ⟨hw1,_,hall2⟩ | ⟨hw1,rfl⟩
          · rw [if_pos (hw.trans hw1)]
            left
            unfold Oper.wp
            have hrun : (execOp (act (c i)).eval o).run P wq = .ok (.value v) wq:=by
              rcases hrest with h | ⟨d,hd1,hfr,hw6⟩
              · exact hall2.1 h wq
              · obtain ⟨j,off,hp,hfar⟩:=hld i o d hin ho hfr hd1 hw6
                obtain ⟨s2,l2,inv3,hl2⟩:=InvF.complete L hc _ listed s w js hsz rfl (fun j oj hj hoj hl=>by
                  rcases L.rest hS0at hd (first (by omega)) hj hoj hl with h | ⟨d,h,_⟩
                  · exact alT_of_free h
                  · exact alT_of_ld h) inv
                obtain ⟨w',hF,_⟩:=hQ s2 w js l2 inv3 hl2
                have hsp : storesOf ops n k = (storesOf ops n k).take q ++ (storesOf ops n k).drop q:=(List.take_append_drop q _).symm
                rw [hsp] at hF
                obtain ⟨wm,hF1,_⟩:=hF.part
                have : wm = wq:=hF1.forget.fn (sameL inv3 fun j hj _=>hl2 j hj)
                subst this
                obtain ⟨T,hop⟩:=isLd_spec hd1
                refine hall2.2 T (.tmp d) j off hop ?_ w wm inv.below (hfar s2 w js l2 inv3 hl2 q wm hqk hF1)
                show (c i).getD d undef = _
                simp [Array.getD_eq_getD_getElem?,hp]
            rw [hev.1,hrun,Oper.upon_value,act_put]
            exact go
          · rw [if_neg (by rw [hw,hw1]; simp),act_put]
            exact go
    · obtain ⟨r,rfl⟩ : ∃ r,i = n + r:=⟨i - n,by omega⟩
      have hrk : r < k:=by omega
      obtain ⟨S,hS⟩:=L.sts r hrk
      have hrq : r = q:=by
        have h1 : ¬ r < q:=by
          intro h
          rw [hls r hrk,decide_eq_true h] at hu
          cases hu
        rcases hS.prev with h | h
        · omega
        · obtain ⟨oS,hoS,e,he,hb,hon⟩:=Region.waitsFor_spec h
          have : oS = o:=Option.some.inj (hoS.symm.trans ho)
          subst this
          have h2:=hall e he hb
          rw [hon] at h2
          by_cases h0 : r = 0
          · omega
          · have h3:=hls (r - 1) (by omega)
            rw [show n + (r - 1) = n + r - 1 by omega,h2] at h3
            have:=of_decide_eq_true h3.symm
            omega
      subst hrq
      have hoS : o = S:=Option.some.inj (ho.symm.trans hS.at_)
      subst hoS
      have ready1 : ∀ e ∈ S0.after,Region.binds .any e = true → listed.getD e.on false = true:=by
        by_cases h0 : r = 0
        · subst h0
          have : o = S0:=Option.some.inj (hS.at_.symm.trans hS0.at_)
          subst this
          exact hall
        · exact first (by omega)
      obtain ⟨s2,l2,inv2,hl2⟩:=InvF.complete L hc _ listed s w js hsz rfl (fun j oj hj hoj hl=>by
        rcases L.rest hS0at hd ready1 hj hoj hl with h | ⟨d,h,_⟩
        · exact alT_of_free h
        · exact alT_of_ld h) inv
      obtain ⟨w',hF,_⟩:=hQ s2 w js l2 inv2 hl2
      have hsp : storesOf ops n k = (storesOf ops n k).take r ++ (o :: (storesOf ops n k).drop (r + 1)):=by
        have h1:=(List.take_append_drop (r + 1) (storesOf ops n k)).symm
        rw [stores_split hrk hS.at_] at h1
        simpa using h1
      rw [hsp] at hF
      obtain ⟨wm,hF1,wn,hF2,_⟩:=hF.part
      have : wm = wq:=hF1.forget.fn (sameL inv2 fun j hj _=>hl2 j hj)
      subst this
      have hr2 : Ran P o s wm wn:=by
        have:=inv.same L hS inv2 (fun j _ hj=>by
          obtain ⟨oS,hoS,e,he,hb,hon⟩:=Region.waitsFor_spec hj
          have : oS = o:=Option.some.inj (hoS.symm.trans ho)
          subst this
          have:=hall e he hb
          rwa [hon] at this) (fun j hj _=>hl2 j hj)
        have h1:=hF2.1
        unfold Ran at h1 ⊢
        rw [this]; exact h1
      have g:=ih (r + 1) (listed.setIfInBounds (n + r) true) s w wn js (by omega) hnext (fun r2 hr2k=>by
          by_cases h : r2 = r
          · subst h
            rw [decide_eq_true (Nat.lt_succ_self _)]
            simp [hsz,show n + r2 < ops.size by omega]
          · rw [getD_set_ne false (by omega),hls r2 hr2k]
            by_cases h2 : r2 < r
            · rw [decide_eq_true h2,decide_eq_true (by omega)]
            · rw [decide_eq_false h2,decide_eq_false (by omega)])
        (by rw [left_congr n fun j hj=>getD_set_ne false (by omega)]; omega) (inv.congr fun j hj=>getD_set_ne false (by omega)) (by rw [stores_split hrk hS.at_]; exact hr.snoc hr2)
      obtain ⟨hg,hdst,_,_⟩:=St.alone hS.st
      unfold wpOp
      simp only [ho]
      rw [if_pos (by simp [Region.wanted,hg])]
      left
      unfold Oper.wp
      rcases hr2 with hr2 | ⟨v,hr2⟩
      · rw [hr2,Oper.upon_skip,act_put,hdst]; exact g
      · rw [hr2,Oper.upon_value,act_put,hdst]; exact g
end
section
variable {P : Program} {E : Eqs} {f : FuncId}
theorem fill_done {ops : Array Oper} {n : Nat} {m : List Nat} {H H2 : List Blk} {t t' t2 s2 : Array Value} {w1 w' : World} {c : Nat → Array Value} {l : Array Bool} {js : Nat → Nat} (F : FloatBase ops n)
    (hA' : ∀ x ∈ allocsOf ops n,∃ z,tzero P x.2.2 = some z ∧ z.cells.toList.all flat1 = true) (hH1 : RH m H w1) (ht : RA m t t') (hcn : c n = t') (hchain : ∀ k o,k < n → ops[k]? = some o → StepF P ops w1 o (c k) (c (k + 1)))
    (inv : InvF P ops w1 n c l s2 w' js) (hl : ∀ j,j < n → l.getD j false = true) (hfill : fillA P (allocsOf ops n) t H = some (t2,H2)) :
    RA (m ++ (allocsOf ops n).map fun x=>js x.1) t2 s2 ∧ RH (m ++ (allocsOf ops n).map fun x=>js x.1) H2 w' ∧ ∀ j ∈ (allocsOf ops n).map fun x=>js x.1,w1.heap.size ≤ j:=by
  have hsz : n ≤ ops.size:=F.lt
  have fresh : ∀ j ∈ (allocsOf ops n).map fun x=>js x.1,w1.heap.size ≤ j:=fun j hj=>by
    obtain ⟨x,hx,rfl⟩:=List.mem_map.1 hj
    obtain ⟨hxn,o,ho,hal⟩:=mem_allocsOf.1 hx
    obtain ⟨_,z,_,_,h4⟩:=inv.al x.1 o x.2.1 x.2.2 hxn (hl _ hxn) ho hal
    exact h4
  have hgo:=fillA_run (s:=s2) (w:=w') (js:=js) (allocsOf ops n) t H m t2 H2 hfill (by rw [ht.size,← hcn,chain_size hchain hsz n (Nat.le_refl _),inv.size]) (fun d v v' h1 h2 h3=>?_) (hH1.below inv.below) (fun x hx=>?_) (fun x hx hmem=>?_) ?_
  · exact ⟨hgo.1,hgo.2,fresh⟩
  · refine ht.at_ d v v' h1 ?_
    rw [← h2,← hcn]
    by_cases hx : ∃ j oj,j < n ∧ ops[j]? = some oj ∧ oj.dst = some d
    · obtain ⟨j,oj,hj,hoj,hdj⟩:=hx
      have hal : alT oj = none:=by
        cases q : alT oj with
        | none=>rfl
        | some p=>
          obtain ⟨d',T'⟩:=p
          have e : d' = d:=Option.some.inj ((alT_spec q).2.2.symm.trans hdj)
          exact absurd e (h3 (j,d',T') (mem_allocsOf.2 ⟨hj,oj,hoj,q⟩))
      rw [inv.new j oj d hj (hl j hj) hoj hal hdj]
      exact chain_far hchain n (by omega) (Nat.le_refl _) (fun k ok q1 q2 hk=>by
        by_cases q : ok.dst = some d
        · have:=F.one j k oj ok d hj q2 hoj hk hdj q
          omega
        · exact .inl q) hsz
    · have hno : ∀ j oj,j < n → ops[j]? = some oj → oj.dst ≠ some d:=fun j oj hj hoj hdj=>hx ⟨j,oj,hj,hoj,hdj⟩
      rw [inv.old d fun j oj hj _ hoj=>hno j oj hj hoj]
      exact chain_far hchain n (Nat.zero_le _) (Nat.le_refl _) (fun k ok q1 q2 hk=>.inl (hno k ok q2 hk)) hsz
  · obtain ⟨hxn,o,ho,hal⟩:=mem_allocsOf.1 hx
    obtain ⟨k1,z,k2,k3,_⟩:=inv.al x.1 o x.2.1 x.2.2 hxn (hl _ hxn) ho hal
    obtain ⟨z',q1,q2⟩:=hA' x hx
    have : z' = z:=Option.some.inj (q1.symm.trans k2)
    subst this
    exact ⟨k1,z',k2,q2,k3⟩
  · have h4:=fresh (js x.1) (List.mem_map.2 ⟨x,hx,rfl⟩)
    have:=hH1.lt_of_mem hmem
    omega
  · have hp : (allocsOf ops n).Pairwise fun x y=>x.1 ≠ y.1:=by
      unfold allocsOf
      rw [List.pairwise_filterMap]
      refine List.Pairwise.imp ?_ (List.nodup_range (n:=n))
      intro a b hab x hx y hy
      simp only [Option.map_eq_some_iff] at hx hy
      obtain ⟨_,_,rfl⟩:=hx
      obtain ⟨_,_,rfl⟩:=hy
      exact hab
    rw [List.Nodup,List.pairwise_map]
    refine List.Pairwise.imp_of_mem ?_ hp
    intro x y hx hy hxy he
    obtain ⟨hxn,o,ho,hal⟩:=mem_allocsOf.1 hx
    obtain ⟨hyn,o2,ho2,hal2⟩:=mem_allocsOf.1 hy
    exact hxy (inv.dis x.1 y.1 o o2 hxn hyn (hl _ hxn) (hl _ hyn) ho ho2 (by rw [hal]; rfl) (by rw [hal2]; rfl) he)
def lates (P : Program) (ops : Array Oper) (n k : Nat) : Bool:=ops.toList.any writes && !Region.sinkB .any ops n && lateB ops n k && allocsOk P ops n
def ptrAt (ops : Array Oper) (n : Nat) (t : Array Value) (d : Tmp) : Option Nat:=
  if (List.range n).all (fun j=>match ops[j]? with | some oj=>decide (oj.dst ≠ some d) | none=>true) then
    match t[d]? with
    | some (.pointer (some ⟨i,_,none⟩))=>some i
    | _=>none
  else none
def anyBehind (ops : Array Oper) (n : Nat) : Bool:=(List.range n).any fun k=>match ops[k]? with | some o=>behind ops n k o | none=>false
def fieldOf (P : Program) (ops : Array Oper) (kk : Nat) (d : Tmp) : Option (Nat × Tmp):=
  match (List.range kk).find? (fun j=>match ops[j]? with | some oj=>decide (oj.dst = some d) | none=>false) with
  | some jj=>match ops[jj]? with
    | some oj=>match oj.op with
      | .fieldAddr S (.tmp e) f=>if oj.guard.isNone && (foff P S f).isSome && (List.range kk).all (fun j=>decide (j ≤ jj) || (match ops[j]? with | some o=>decide (o.dst ≠ some d) | none=>true)) then some (jj,e) else none
      | _=>none
    | none=>none
  | none=>none
def ptrLd (P : Program) (ops : Array Oper) (n kk : Nat) (t : Array Value) (d : Tmp) : Option Nat:=
  match ptrAt ops n t d with
  | some i=>some i
  | none=>match fieldOf P ops kk d with
    | some (_,e)=>if d < t.size then ptrAt ops n t e else none
    | none=>none
def newAt (ops : Array Oper) (n : Nat) (t : Array Value) (d : Tmp) : Bool:=decide (d < t.size) && (List.range n).any fun j=>match (ops[j]?).bind alT with | some p=>decide (p.1 = d) | none=>false
def apartB (P : Program) (ops : Array Oper) (n k : Nat) (t : Array Value) : Bool:=
  !anyBehind ops n ||
  (List.range k).all fun q=>match (ops[n + q]?).bind stAt with
    | some d=>(List.range n).all fun kk=>match ops[kk]? with
        | some o=>!behind ops n kk o || (match (isLd ops n o).bind (ptrLd P ops n kk t) with
          | some j=>(match ptrAt ops n t d with | some i=>decide (j ≠ i) | none=>newAt ops n t d)
          | none=>false)
        | none=>true
    | none=>false
def regionJ (P : Program) (E : Eqs) (ops : Array Oper) (draw : Bool) (K : Array Value → List Blk → T) (t : Array Value) (H : List Blk) : T:=
  if (draw && (lates P ops (headLen ops) (stLen ops (headLen ops)) && apartB P ops (headLen ops) (stLen ops (headLen ops)) t)) = true then opsF P E ops H (tailF P E ops K (headLen ops) H) (ops.toList.take (headLen ops)) t
  else regionG P E ops draw K t H
theorem store_kind {S : Oper} (hS : isSt S = true) (t : Array Value) (H : List Blk) : (∃ v G,opA P E S t H = .mem v G) ∨ opA P E S t H = .bad:=by
  unfold isSt at hS
  simp only [Bool.and_eq_true] at hS
  obtain ⟨⟨hS,_⟩,_⟩:=hS
  split at hS
  · rename_i T a x ho
    unfold opA
    simp only [ho]
    split
    · split
      · exact .inl ⟨_,_,rfl⟩
      · exact .inr rfl
    · exact .inr rfl
  · cases hS
theorem store_first {m : List Nat} {t t' : Array Value} {H : List Blk} {w : World} {R : Value → List Blk → Prop} {ops : Array Oper} {K : Array Value → List Blk → T} {S : Oper} {l : List Oper} (hS : isSt S = true) (ht : RA m t t') (hH : RH m H w) (h : Run P f R (opsN P E ops K (S :: l) t H)) :
    ∃ w' v t2 t2' n G,Ran P S t' w w' ∧ t2' = t' ∧ t2 = putA t S.dst v ∧ RA (m ++ n) t2 t2' ∧ RH (m ++ n) G w' ∧ (∀ j ∈ n,w.heap.size ≤ j) ∧ Kept m w w' ∧ (∀ d j off,stAt S = some d → t'[d]? = some (.pointer (some ⟨j,off,none⟩)) → ∀ k,k ≠ j → w'.heap[k]? = w.heap[k]?) ∧ Run P f R (opsN P E ops K l t2 G):=by
  obtain ⟨hg,hdst,_,_⟩:=St.alone hS
  rcases store_kind (P:=P) (E:=E) hS t H with ⟨u,H2,hu⟩ | hu
  · simp only [opsN,guarded,hg,stepN,hu] at h
    have hS2:=hS
    unfold isSt at hS2
    simp only [Bool.and_eq_true] at hS2
    obtain ⟨⟨hS2,_⟩,_⟩:=hS2
    split at hS2
    · rename_i T a x ho
      unfold opA at hu
      simp only [ho] at hu
      split at hu
      · rename_i ua ux ha hx
        split at hu
        · rename_i G' hG
          injection hu with h1 h2
          subst h1; subst h2
          obtain ⟨w',hr,hH',hk,hfar⟩:=storeA_run hH (ev_rel ht ha) (ev_rel ht hx) hG
          refine ⟨w',undef,_,t',[],G',.inl ?_,rfl,rfl,?_,by simpa using hH',by simp,hk,fun d j off hd hp=>hfar j off ?_,h⟩
          · simp only [execOp,ho,Sem.run_bind,hr,Result.andThen_ok,Sem.run_pure]
          · rw [hdst,List.append_nil]; exact ht
          · unfold stAt at hd
            simp only [ho] at hd
            split at hd
            · rename_i T2 d2 x2 he
              cases hd
              cases he
              show t'.getD d undef = _
              simp [Array.getD_eq_getD_getElem?,hp]
            · cases hd
        · cases hu
      · cases hu
    · cases hS2
  · simp only [opsN,guarded,hg,stepN,hu] at h
    exact (run_fail h).elim
theorem ptrAt_spec {ops : Array Oper} {n : Nat} {t : Array Value} {d : Tmp} {i : Nat} (h : ptrAt ops n t d = some i) : (∀ j oj,j < n → ops[j]? = some oj → oj.dst ≠ some d) ∧ ∃ off,t[d]? = some (.pointer (some ⟨i,off,none⟩)):=by
  unfold ptrAt at h
  split at h
  · rename_i hall
    refine ⟨fun j oj hj hoj=>?_,?_⟩
    · have:=List.all_eq_true.1 hall j (List.mem_range.2 hj)
      simp only [hoj,decide_eq_true_eq] at this
      exact this
    · split at h
      · rename_i i' off ht
        cases h
        exact ⟨off,ht⟩
      · cases h
  · cases h
theorem stores_run {R : Value → List Blk → Prop} {ops : Array Oper} {K : Array Value → List Blk → T} {l : List Oper} : ∀ (Ls : List Oper) (m : List Nat) (t t' : Array Value) (H : List Blk) (w : World),(∀ S ∈ Ls,isSt S = true) → RA m t t' → RH m H w → Run P f R (opsN P E ops K (Ls ++ l) t H) →
    ∃ w' t2 n G,RanF P t' Ls w w' ∧ RA (m ++ n) t2 t' ∧ RH (m ++ n) G w' ∧ (∀ j ∈ n,w.heap.size ≤ j) ∧ Kept m w w' ∧ Run P f R (opsN P E ops K l t2 G)
  | [],m,t,t',H,w,_,ht,hH,h=>⟨w,t,[],H,rfl,by simpa using ht,by simpa using hH,by simp,Kept.refl _ _,h⟩
  | S :: Ls,m,t,t',H,w,hs,ht,hH,h=>by
    obtain ⟨w1,v,t3,t3',n1,G1,hr,rfl,_,hra,hrh,hn1,hk1,hfar,h2⟩:=store_first (hs S (by simp)) ht hH h
    obtain ⟨w',t2,n2,G,h3,h4,h5,h6,h7,h8⟩:=stores_run Ls (m ++ n1) t3 t3' G1 w1 (fun S hS=>hs S (by simp [hS])) hra hrh h2
    refine ⟨w',t2,n1 ++ n2,G,⟨w1,⟨hr,hfar⟩,h3⟩,by rw [← List.append_assoc]; exact h4,by rw [← List.append_assoc]; exact h5,fun j hj=>?_,hk1.trans h7 hn1,h8⟩
    rcases List.mem_append.1 hj with hj | hj
    · exact hn1 j hj
    · exact Nat.le_trans hk1.size (h6 j hj)
theorem far_all {s : Array Value} {j : Nat} : ∀ {l : List Oper} {w w' : World},RanF P s l w w' → (∀ S ∈ l,∃ d jS off,stAt S = some d ∧ s[d]? = some (.pointer (some ⟨jS,off,none⟩)) ∧ j ≠ jS) → w'.heap[j]? = w.heap[j]?
  | [],_,_,h,_=>by cases h; rfl
  | S :: l,w,w',⟨wm,⟨_,h1⟩,h2⟩,hs=>by
    obtain ⟨d,jS,off,k1,k2,k3⟩:=hs S (by simp)
    rw [far_all h2 fun S hS=>hs S (by simp [hS])]
    exact h1 d jS off k1 k2 j k3
theorem fieldOf_spec {ops : Array Oper} {kk : Nat} {d : Tmp} {jj : Nat} {e : Tmp} (h : fieldOf P ops kk d = some (jj,e)) :
    jj < kk ∧ ∃ oj S f n,ops[jj]? = some oj ∧ oj.op = .fieldAddr S (.tmp e) f ∧ oj.guard = none ∧ oj.dst = some d ∧ foff P S f = some n ∧ ∀ j o,jj < j → j < kk → ops[j]? = some o → o.dst ≠ some d:=by
  unfold fieldOf at h
  split at h
  · rename_i jj' hf
    have hlt:=List.mem_range.1 (List.mem_of_find?_eq_some hf)
    have hd:=List.find?_some hf
    split at h
    · rename_i oj hoj
      split at h
      · rename_i S e' f hop
        split at h
        · rename_i hc
          simp only [Option.some.injEq,Prod.mk.injEq] at h
          obtain ⟨rfl,rfl⟩:=h
          simp only [Bool.and_eq_true,Option.isNone_iff_eq_none] at hc
          obtain ⟨⟨hg,hn⟩,hall⟩:=hc
          obtain ⟨n,hn⟩:=Option.isSome_iff_exists.1 hn
          simp only [hoj,decide_eq_true_eq] at hd
          refine ⟨hlt,oj,S,f,n,hoj,hop,hg,hd,hn,fun j o h1 h2 ho=>?_⟩
          have:=List.all_eq_true.1 hall j (List.mem_range.2 h2)
          simp only [ho,Bool.or_eq_true,decide_eq_true_eq] at this
          rcases this with h3 | h3
          · omega
          · exact h3
        · cases h
      · cases h
    · cases h
  · cases h
theorem newAt_spec {ops : Array Oper} {n : Nat} {t : Array Value} {d : Tmp} (h : newAt ops n t d = true) : d < t.size ∧ ∃ j o T,j < n ∧ ops[j]? = some o ∧ alT o = some (d,T):=by
  unfold newAt at h
  simp only [Bool.and_eq_true,decide_eq_true_eq,List.any_eq_true,List.mem_range] at h
  obtain ⟨h1,j,hj,h2⟩:=h
  refine ⟨h1,j,?_⟩
  cases ho : ops[j]? with
  | none=>simp [ho] at h2
  | some o=>
    simp only [ho,Option.bind_some] at h2
    cases ha : alT o with
    | none=>simp [ha] at h2
    | some p=>
      obtain ⟨d',T⟩:=p
      simp only [ha,decide_eq_true_eq] at h2
      subst h2
      exact ⟨o,T,hj,rfl,ha⟩
theorem ptrLd_chain {ops : Array Oper} {n kk : Nat} {m : List Nat} {t t' : Array Value} {d : Tmp} {i : Nat} {w0 : World} {c : Nat → Array Value} (ht : RA m t t') (h0 : c 0 = t') (hn : n ≤ ops.size) (hkn : kk < n)
    (hc : ∀ k o,k < n → ops[k]? = some o → StepF P ops w0 o (c k) (c (k + 1))) (h : ptrLd P ops n kk t d = some i) : ∃ j off,m[i]? = some j ∧ (c kk)[d]? = some (.pointer (some ⟨j,off,none⟩)):=by
  unfold ptrLd at h
  split at h
  · rename_i i' hp
    cases h
    obtain ⟨hnw,off,htj⟩:=ptrAt_spec hp
    obtain ⟨vL,hvL,hvr⟩:=ht.slot htj
    cases hvr with
    | pl _ h'=>simp [flat1] at h'
    | ptr _ j _ _ hj=>
      refine ⟨j,off,hj,?_⟩
      rw [chain_far hc kk (Nat.zero_le _) (by omega) (fun j2 o2 _ h2 ho2=>.inl (hnw j2 o2 (by omega) ho2)) hn,h0]
      exact hvL
  · split at h
    · rename_i jj e hf
      split at h
      · rename_i hds
        obtain ⟨hjk,oj,S,f,fo,hoj,hop,hg,hdst,hfo,hlast⟩:=fieldOf_spec hf
        obtain ⟨hnw,off,hte⟩:=ptrAt_spec h
        obtain ⟨vL,hvL,hvr⟩:=ht.slot hte
        cases hvr with
        | pl _ h'=>simp [flat1] at h'
        | ptr _ j _ _ hj=>
          refine ⟨j,off + fo,hj,?_⟩
          rw [chain_far hc (i:=jj + 1) kk (by omega) (by omega) (fun j2 o2 h1 h2 ho2=>.inl (hlast j2 o2 (by omega) h2 ho2)) hn]
          have he : (c jj)[e]? = some (.pointer (some ⟨j,off,none⟩)):=by
            rw [chain_far hc jj (Nat.zero_le _) (by omega) (fun j2 o2 _ h2 ho2=>.inl (hnw j2 o2 (by omega) ho2)) hn,h0]
            exact hvL
          have hal : alT oj = none:=by
            unfold alT
            rw [hop]
          rcases hc jj oj (by omega) hoj with ⟨ha,_⟩ | ⟨_,v,hv,hx⟩
          · rw [hal] at ha; cases ha
          · have hw : Region.wanted oj (yielded ops (c jj)) = true:=by simp [Region.wanted,hg]
            rcases hx with ⟨_,_,hall⟩ | ⟨hw2,_⟩
            · have hfree : opFree oj = true:=by simp [opFree,hop]
              have hr:=hall.1 hfree w0
              have hev : (act (c jj)).eval (.tmp e) = .pointer (some ⟨j,off,none⟩):=by
                show (c jj).getD e undef = _
                simp [Array.getD_eq_getD_getElem?,he]
              have hr2 : (execOp (act (c jj)).eval oj).run P w0 = .ok (.value (.pointer (some ⟨j,off + fo,none⟩))) w0:=by
                simp only [execOp,hop,hev,Sem.run_bind,run_fieldAt hfo j off w0,Result.andThen_ok,Sem.run_pure]
              rw [hr] at hr2
              have hvv : v = .pointer (some ⟨j,off + fo,none⟩):=by simpa using hr2
              rw [hv,hdst,hvv]
              show ((c jj).setIfInBounds d _)[d]? = _
              have hsz : d < (c jj).size:=by
                rw [chain_size hc hn jj (by omega),h0,← ht.size]
                exact hds
              rw [Array.getElem?_setIfInBounds_self,if_pos hsz]
            · rw [hw] at hw2; cases hw2
      · cases h
    · cases h
theorem regionJ_run (hE : EqsOk P E) (hm : P.follows .mixedOrders = true) {id : Nat} {ops : Array Oper} {draw : Bool} {K : Array Value → List Blk → T} {R : Value → List Blk → Prop} {m : List Nat} {t t' : Array Value} {H : List Blk} {w : World}
    (ht : RA m t t') (hH : RH m H w) (h : Run P f R (regionJ P E ops draw K t H)) : (Code.region id ops draw).wp P (QN P f m w K R) (act t') w:=by
  unfold regionJ at h
  generalize hk : stLen ops (headLen ops) = k at *
  by_cases hc : (draw && (lates P ops (headLen ops) k && apartB P ops (headLen ops) k t)) = true
  case neg=>rw [if_neg hc] at h; exact regionG_run hE hm ht hH h
  rw [if_pos hc] at h
  simp only [lates,Bool.and_eq_true] at hc
  obtain ⟨rfl,⟨⟨_,hB⟩,hA⟩,hapart⟩:=hc
  generalize headLen ops = n at *
  have L:=lateB_spec hB
  have hlt:=L.lt2
  have hA' : ∀ x ∈ allocsOf ops n,∃ z,tzero P x.2.2 = some z ∧ z.cells.toList.all flat1 = true:=fun x hx=>by
    have:=List.all_eq_true.1 hA x hx
    cases hz : tzero P x.2.2 with
    | none=>simp [hz] at this
    | some z=>simp only [hz] at this; exact ⟨z,rfl,this⟩
  have hH1 : RH m H { w with drawn:=w.drawn + 1 }:=⟨hH.len,hH.nodup,hH.blk⟩
  have hloads : ∀ kk o d,kk < n → ops[kk]? = some o → opFree o = false → isLd ops n o = some d → waitsT ops 6 n kk = false → ∃ i,ptrLd P ops n kk t d = some i ∧
      (∀ S,S ∈ storesOf ops n k → ∃ dS,stAt S = some dS ∧ ((∃ iS,ptrAt ops n t dS = some iS ∧ i ≠ iS) ∨ newAt ops n t dS = true)):=fun kk o d hkn ho hfr hld hw=>by
    have hb : behind ops n kk o = true:=by simp [behind,hfr,hw]
    have hany : anyBehind ops n = true:=List.any_eq_true.2 ⟨kk,List.mem_range.2 hkn,by simp only [ho]; exact hb⟩
    unfold apartB at hapart
    rw [hany] at hapart
    simp only [Bool.not_true,Bool.false_or] at hapart
    have one : ∀ q,q < k → ∃ S dS j,ops[n + q]? = some S ∧ stAt S = some dS ∧ ptrLd P ops n kk t d = some j ∧ ((∃ iS,ptrAt ops n t dS = some iS ∧ j ≠ iS) ∨ newAt ops n t dS = true):=fun q hq=>by
      have hap:=List.all_eq_true.1 hapart q (List.mem_range.2 hq)
      obtain ⟨S,hS⟩:=L.sts q hq
      simp only [hS.at_,Option.bind_some] at hap
      cases hst : stAt S with
      | none=>simp only [hst] at hap; cases hap
      | some dS=>
        simp only [hst] at hap
        have:=List.all_eq_true.1 hap kk (List.mem_range.2 hkn)
        simp only [ho,hb,Bool.not_true,Bool.false_or,hld,Option.bind_some] at this
        cases hpd : ptrLd P ops n kk t d with
        | none=>simp only [hpd] at this; cases this
        | some j0=>
          simp only [hpd] at this
          refine ⟨S,dS,j0,hS.at_,hst,rfl,?_⟩
          cases hp : ptrAt ops n t dS with
          | some i=>simp only [hp,decide_eq_true_eq] at this; exact .inl ⟨i,rfl,this⟩
          | none=>simp only [hp] at this; exact .inr this
    obtain ⟨_,_,j0,_,_,hpd,_⟩:=one 0 L.pos
    refine ⟨j0,hpd,fun S hS=>?_⟩
    have hlen : (storesOf ops n k).take k = storesOf ops n k:=List.take_of_length_le (by unfold storesOf; rw [List.length_take]; omega)
    rw [← hlen] at hS
    obtain ⟨q,hq,hSq⟩:=stores_mem (Nat.le_refl k) hS
    obtain ⟨S',dS,j1,h1,h2,h4,h5⟩:=one q hq
    have : S' = S:=Option.some.inj (h1.symm.trans hSq)
    subst this
    have hj1 : j1 = j0:=Option.some.inj (h4.symm.trans hpd)
    subst hj1
    exact ⟨dS,h2,h5⟩
  have hF:=opsF_run (Q:=fun t'=>∀ (c : Nat → Array Value),c n = t' → (∀ k o,k < n → ops[k]? = some o → StepF P ops { w with drawn:=w.drawn + 1 } o (c k) (c (k + 1))) →
      ∀ s w2 js l,InvF P ops { w with drawn:=w.drawn + 1 } n c l s w2 js → (∀ j,j < n → l.getD j false = true) → ∃ w',RanF P s (storesOf ops n k) w2 w' ∧ wpList P ops (QN P f m w K R) (ops.toList.drop (n + k)) (act s) w')
    hE hH1 (fun t t' ht h c hcn hchain s w2 js l inv hl=>?_) _ t t' ht h
  · obtain ⟨c,h0,hQ,hc⟩:=wpF_chain _ _ hF
    have hln : (ops.toList.take n).length = n:=by rw [List.length_take,Array.length_toList]; omega
    have hc' : ∀ k o,k < n → ops[k]? = some o → StepF P ops { w with drawn:=w.drawn + 1 } o (c k) (c (k + 1)):=fun k o hk ho=>hc k o (by rw [List.getElem?_take_of_lt hk,Array.getElem?_toList]; exact ho)
    rw [hln] at hQ
    refine wp_region_any hm ?_
    have rep : ∀ j,(Array.replicate ops.size false).getD j false = false:=fun j=>getD_replicate_false _ _
    have Hh:=wpAny_late (Q:=QN P f m w K R) L hc' (fun k o d T hk ho hal=>by
        obtain ⟨z,hz,_⟩:=hA' (k,d,T) (mem_allocsOf.2 ⟨hk,o,ho,hal⟩)
        exact ⟨z,hz⟩) (fun kk o d hkn ho hfr hld hw=>by
        obtain ⟨i,hpi,hsts⟩:=hloads kk o d hkn ho hfr hld hw
        obtain ⟨j,off,hmj,hp⟩:=ptrLd_chain ht h0 (by omega) hkn hc' hpi
        refine ⟨j,off,hp,fun s2 w2 js l inv hl q wq hqk hr=>?_⟩
        refine far_all hr fun S hS=>?_
        obtain ⟨dS,k1,k2⟩:=hsts S (List.mem_of_mem_take hS)
        rcases k2 with ⟨iS,k2,k3⟩ | k2
        · obtain ⟨hnw,off2,hti⟩:=ptrAt_spec k2
          obtain ⟨vS,hvS,hvr⟩:=ht.slot hti
          cases hvr with
          | pl _ h'=>simp [flat1] at h'
          | ptr _ jS _ _ hjS=>
          refine ⟨dS,jS,off2,k1,?_,fun e=>k3 (by subst e; exact nodup_inj hH.nodup hmj hjS)⟩
          rw [inv.old dS fun j2 o2 hj2 _ ho2=>hnw j2 o2 hj2 ho2,h0]
          exact hvS
        · obtain ⟨hds,ja,oa,T,hja,hoa,hal⟩:=newAt_spec k2
          obtain ⟨hin,z,_,_,hge⟩:=inv.al ja oa dS T hja (hl ja hja) hoa hal
          refine ⟨dS,js ja,0,k1,hin (by rw [inv.size,h0,← ht.size]; exact hds),fun e=>?_⟩
          have hlt3:=hH.lt hmj
          have hge' : w.heap.size ≤ js ja:=hge
          omega) (fun s2 w2 js l inv hl=>by
        obtain ⟨w',hr,hw⟩:=hQ c rfl hc' s2 w2 js l inv hl
        have:=wpAny_of_seq (md:=.any) (Q':=QN P f m w K R) (P:=P) (ops.toList.drop (n + k)) (n + k) (listedN (n + k) ops.size) (act s2) w' (fun j=>by rw [List.getElem?_drop,Array.getElem?_toList]) (by rw [List.length_drop,Array.length_toList]; exact L.seq) hw
        rw [List.length_drop,Array.length_toList] at this
        exact ⟨w',hr,this⟩) (n + k) 0 (Array.replicate ops.size false) t' { w with drawn:=w.drawn + 1 } { w with drawn:=w.drawn + 1 } (fun _=>0) (Nat.zero_le _)
      ⟨by simp,fun j oj _ hl=>(by rw [rep] at hl; cases hl),fun t _ ht=>getD_in (by simpa using ht) (rep _)⟩ (fun r _=>by rw [rep]; rfl)
      (by
        have : ∀ k,left k (Array.replicate ops.size false) = k:=fun k=>by
          induction k with
          | zero=>rfl
          | succ k ih=>
            have e : left (k + 1) (Array.replicate ops.size false) = left k (Array.replicate ops.size false) + 1:=by
              simp only [left,List.range_succ,List.countP_append,List.countP_singleton,rep]
              rfl
            rw [e,ih]
        rw [this n]; rfl)
      ⟨by rw [h0],fun d _=>by rw [h0],fun j o d hj hl=>(by rw [rep] at hl; cases hl),fun j o d T hj hl=>(by rw [rep] at hl; cases hl),fun j k oj ok hj hk hl=>(by rw [rep] at hl; cases hl),Below.refl _ _⟩ rfl
    rw [show n + k + (ops.size - (n + k)) = ops.size by omega] at Hh
    exact Hh
  · unfold tailF at h
    cases hfill : fillA P (allocsOf ops n) t H with
    | none=>simp only [hfill] at h; exact (run_fail h).elim
    | some p=>
      obtain ⟨t2,H2⟩:=p
      simp only [hfill] at h
      obtain ⟨hra,hrh,hfr⟩:=fill_done L.toFloatBase hA' hH1 ht hcn hchain inv hl hfill
      have hdrop : ops.toList.drop n = storesOf ops n k ++ ops.toList.drop (n + k):=by
        unfold storesOf
        rw [← List.drop_drop]
        exact (List.take_append_drop k _).symm
      rw [hdrop] at h
      have hall : ∀ S ∈ storesOf ops n k,isSt S = true:=fun S hS=>by
        have hlen : (storesOf ops n k).take k = storesOf ops n k:=List.take_of_length_le (by unfold storesOf; rw [List.length_take]; omega)
        rw [← hlen] at hS
        obtain ⟨q,hq,hSq⟩:=stores_mem (Nat.le_refl k) hS
        obtain ⟨S',hS'⟩:=L.sts q hq
        have : S' = S:=Option.some.inj (hS'.at_.symm.trans hSq)
        subst this
        exact hS'.st
      obtain ⟨w',t3,n',G,hr,hra2,hrh2,hn2,hk2,h2⟩:=stores_run _ _ _ _ _ _ hall hra hrh h
      refine ⟨w',hr,?_⟩
      have k1 : Kept m w w2:=⟨inv.below.os,inv.below.tape,inv.below.output,inv.below.size,fun k hk _=>inv.below.block k hk⟩
      rw [List.append_assoc] at hra2 hrh2
      refine opsN_run hE _ _ t3 s G w' hra2 hrh2 (fun j hj=>?_) (k1.trans hk2 hfr) h2
      rcases List.mem_append.1 hj with hj | hj
      · exact hfr j hj
      · exact Nat.le_trans inv.below.size (hn2 j hj)
end
end Go.Proofs.YtfhnlkinjbakgaaGreat.Abs
