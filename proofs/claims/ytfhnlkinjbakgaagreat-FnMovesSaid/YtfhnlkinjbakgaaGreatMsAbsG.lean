/- The abstract machine: a region that draws its order, where memory is made in any order beside what only reads. -/
import Derived.Test.YtfhnlkinjbakgaaGreatMsAbs7
namespace Go.Proofs.YtfhnlkinjbakgaaGreat.Abs
open Go Go.RowKit
def alT (o : Oper) : Option (Tmp × TypeId):=
  match o.op,o.guard,o.dst with
  | .alloc T,none,some d=>some (d,T)
  | _,_,_=>none
theorem alT_spec {o : Oper} {d : Tmp} {T : TypeId} (h : alT o = some (d,T)) : o.op = .alloc T ∧ o.guard = none ∧ o.dst = some d:=by
  unfold alT at h
  split at h
  · rename_i h1 h2 h3
    simp only [Option.some.injEq,Prod.mk.injEq] at h
    obtain ⟨rfl,rfl⟩:=h
    exact ⟨h1,h2,h3⟩
  · cases h
def readsT (ops : Array Oper) (o : Oper) : List Tmp:=
  (o.op.operands.toList.filterMap fun x=>match x with | .tmp i=>some i | _=>none) ++ (match o.guard with | some (j,_)=>((ops[j]?).bind (·.dst)).toList | none=>[])
def floatAt (ops : Array Oper) (j k : Nat) (o : Oper) : Bool:=
  match ops[j]? with
  | some oj=>match oj.dst with
    | some d=>(decide (j = k) || decide (o.dst ≠ some d)) && (!(readsT ops o).contains d || (decide (j < k) && Region.waitsFor .any ops k j && (alT oj).isNone))
    | none=>true
  | none=>true
def listedN (n m : Nat) : Array Bool:=((List.range m).map fun i=>decide (i < n)).toArray
def floatB (ops : Array Oper) (n : Nat) : Bool:=
  Region.noSelect ops && decide (n < ops.size) && Region.sinkB .any ops n && Region.chainB .any ops n && Region.seqB .any ops (ops.size - n) n (listedN n ops.size) &&
  (List.range n).all fun k=>match ops[k]? with
    | some o=>(o.after.toList.all fun e=>!Region.binds .any e || decide (e.on < k)) && (List.range n).all fun j=>floatAt ops j k o
    | none=>false
section
variable {P : Program} {ops : Array Oper} {w0 : World}
def Still (P : Program) (w0 : World) (o : Oper) (a : Act) (v : Value) : Prop:=
  ∀ w',Below w0.heap.size w0 w' → ((execOp a.eval o).run P w' = .ok (.value v) w' ∨
    ∃ g args,(execOp a.eval o).run P w' = .ok (.enter g args) w' ∧ Calls P g args w' fun e w2=>e = .returned v ∧ Below w'.heap.size w' w2)
def StillAll (P : Program) (w0 : World) (o : Oper) (a : Act) (v : Value) : Prop:=
  (opFree o = true → ∀ w',(execOp a.eval o).run P w' = .ok (.value v) w') ∧
  ∀ T x j off,o.op = .load T x → a.eval x = .pointer (some ⟨j,off,none⟩) → ∀ w1 w',Below w0.heap.size w0 w1 → w'.heap[j]? = w1.heap[j]? → (execOp a.eval o).run P w' = .ok (.value v) w'
def wpF (P : Program) (ops : Array Oper) (w0 : World) (Q : Array Value → Prop) : List Oper → Array Value → Prop
  | [],s=>Q s
  | o :: l,s=>
    if (alT o).isSome = true then wpF P ops w0 Q l s
    else if Region.wanted o (yielded ops s) = true then ∃ v,(Still P w0 o (act s) v ∧ StillAll P w0 o (act s) v) ∧ wpF P ops w0 Q l (putA s o.dst v)
    else wpF P ops w0 Q l (putA s o.dst undef)
def StepF (P : Program) (ops : Array Oper) (w0 : World) (o : Oper) (s s' : Array Value) : Prop:=
  ((alT o).isSome = true ∧ s' = s) ∨
  (alT o = none ∧ ∃ v,s' = putA s o.dst v ∧ ((Region.wanted o (yielded ops s) = true ∧ Still P w0 o (act s) v ∧ StillAll P w0 o (act s) v) ∨ (Region.wanted o (yielded ops s) = false ∧ v = undef)))
theorem wpF_chain {Q : Array Value → Prop} : ∀ (l : List Oper) (s : Array Value),wpF P ops w0 Q l s →
    ∃ c : Nat → Array Value,c 0 = s ∧ Q (c l.length) ∧ ∀ k o,l[k]? = some o → StepF P ops w0 o (c k) (c (k + 1))
  | [],s,h=>⟨fun _=>s,rfl,h,fun k o hk=>by simp at hk⟩
  | o :: l,s,h=>by
    have cons : ∀ s',StepF P ops w0 o s s' → wpF P ops w0 Q l s' → ∃ c : Nat → Array Value,c 0 = s ∧ Q (c (l.length + 1)) ∧ ∀ k o',(o :: l)[k]? = some o' → StepF P ops w0 o' (c k) (c (k + 1)):=fun s' hs hl=>by
      obtain ⟨c,h0,hQ,hc⟩:=wpF_chain l s' hl
      refine ⟨fun k=>match k with | 0=>s | k + 1=>c k,rfl,hQ,fun k o' hk=>?_⟩
      cases k with
      | zero=>
        simp only [List.getElem?_cons_zero,Option.some.injEq] at hk
        subst hk
        show StepF P ops w0 o s (c 0)
        rw [h0]
        exact hs
      | succ k=>exact hc k o' (by simpa using hk)
    simp only [wpF] at h
    split at h
    · rename_i ha
      exact cons s (.inl ⟨ha,rfl⟩) h
    · rename_i ha
      have ha' : alT o = none:=by simpa using ha
      split at h
      · rename_i hw
        obtain ⟨v,hv,h⟩:=h
        exact cons _ (.inr ⟨ha',v,rfl,.inl ⟨hw,hv.1,hv.2⟩⟩) h
      · rename_i hw
        exact cons _ (.inr ⟨ha',undef,rfl,.inr ⟨by simpa using hw,rfl⟩⟩) h
structure FloatBase (ops : Array Oper) (n : Nat) : Prop where
  sel : Region.noSelect ops = true
  lt : n ≤ ops.size
  back : ∀ k o,k < n → ops[k]? = some o → ∀ e ∈ o.after,Region.binds .any e = true → e.on < k
  one : ∀ j k oj o d,j < n → k < n → ops[j]? = some oj → ops[k]? = some o → oj.dst = some d → o.dst = some d → j = k
  reads : ∀ j k oj o d,j < n → k < n → ops[j]? = some oj → ops[k]? = some o → oj.dst = some d → d ∈ readsT ops o → j < k ∧ Region.waitsFor .any ops k j = true ∧ alT oj = none
structure FloatOk (ops : Array Oper) (n : Nat) : Prop extends FloatBase ops n where
  lts : n < ops.size
  sink : Region.sinkB .any ops n = true
  chain : Region.chainB .any ops n = true
  seq : Region.seqB .any ops (ops.size - n) n (listedN n ops.size) = true
theorem floatAt_spec {n : Nat} (h : ∀ k o,k < n → ops[k]? = some o → ∀ j,j < n → floatAt ops j k o = true) :
    (∀ j k oj o d,j < n → k < n → ops[j]? = some oj → ops[k]? = some o → oj.dst = some d → o.dst = some d → j = k) ∧
    (∀ j k oj o d,j < n → k < n → ops[j]? = some oj → ops[k]? = some o → oj.dst = some d → d ∈ readsT ops o → j < k ∧ Region.waitsFor .any ops k j = true ∧ alT oj = none):=by
  refine ⟨fun j k oj o d hj hkn hoj ho hd hd2=>?_,fun j k oj o d hj hkn hoj ho hd hr=>?_⟩
  · have:=h k o hkn ho j hj
    simp only [floatAt,hoj,hd,Bool.and_eq_true,Bool.or_eq_true,decide_eq_true_eq] at this
    rcases this.1 with h | h
    · exact h
    · exact absurd hd2 h
  · have:=h k o hkn ho j hj
    simp only [floatAt,hoj,hd,Bool.and_eq_true,Bool.or_eq_true,decide_eq_true_eq] at this
    rcases this.2 with h | h
    · have : (readsT ops o).contains d = true:=by simpa using hr
      rw [this] at h
      cases h
    · exact ⟨h.1.1,h.1.2,by simpa using h.2⟩
theorem back_spec {o : Oper} {k : Nat} (h : (o.after.toList.all fun e=>!Region.binds .any e || decide (e.on < k)) = true) : ∀ e ∈ o.after,Region.binds .any e = true → e.on < k:=fun e he hb=>by
  have:=List.all_eq_true.1 h e (by simpa using he)
  rw [hb] at this
  simpa using this
theorem floatB_spec {n : Nat} (h : floatB ops n = true) : FloatOk ops n:=by
  unfold floatB at h
  simp only [Bool.and_eq_true,decide_eq_true_eq] at h
  obtain ⟨⟨⟨⟨⟨h1,h2⟩,h3⟩,h4⟩,h5⟩,h6⟩:=h
  have hk : ∀ k o,k < n → ops[k]? = some o → (o.after.toList.all fun e=>!Region.binds .any e || decide (e.on < k)) = true ∧ ∀ j,j < n → floatAt ops j k o = true:=fun k o hk ho=>by
    have:=List.all_eq_true.1 h6 k (List.mem_range.2 hk)
    simp only [ho,Bool.and_eq_true] at this
    exact ⟨this.1,fun j hj=>List.all_eq_true.1 this.2 j (List.mem_range.2 hj)⟩
  have hf:=floatAt_spec (n:=n) fun k o hkn ho=>(hk k o hkn ho).2
  exact ⟨⟨h1,Nat.le_of_lt h2,fun k o hkn ho e he hb=>back_spec (hk k o hkn ho).1 e he hb,hf.1,hf.2⟩,h2,h3,h4,h5⟩
theorem putA_ne {s : Array Value} {dst : Option Tmp} {v : Value} {d : Tmp} (h : dst ≠ some d) : (putA s dst v)[d]? = s[d]?:=by
  cases dst with
  | none=>rfl
  | some e=>exact Array.getElem?_setIfInBounds_ne (fun q=>h (by rw [q]))
theorem putA_size (s : Array Value) (dst : Option Tmp) (v : Value) : (putA s dst v).size = s.size:=by cases dst <;> simp [putA]
theorem putA_same {s s' : Array Value} (hs : s.size = s'.size) (d : Tmp) (v : Value) : (putA s (some d) v)[d]? = (putA s' (some d) v)[d]?:=by
  simp only [putA,Array.getElem?_setIfInBounds_self,hs]
theorem StepF.ne {o : Oper} {s s' : Array Value} (h : StepF P ops w0 o s s') {d : Tmp} (hd : o.dst ≠ some d) : s'[d]? = s[d]?:=by
  rcases h with ⟨_,rfl⟩ | ⟨_,v,rfl,_⟩
  · rfl
  · exact putA_ne hd
theorem StepF.al {o : Oper} {s s' : Array Value} (h : StepF P ops w0 o s s') (ha : (alT o).isSome = true) : s' = s:=by
  rcases h with ⟨_,rfl⟩ | ⟨h,_⟩
  · rfl
  · rw [h] at ha; cases ha
theorem StepF.size {o : Oper} {s s' : Array Value} (h : StepF P ops w0 o s s') : s'.size = s.size:=by
  rcases h with ⟨_,rfl⟩ | ⟨_,v,rfl,_⟩
  · rfl
  · exact putA_size _ _ _
structure InvF (P : Program) (ops : Array Oper) (w0 : World) (n : Nat) (c : Nat → Array Value) (listed : Array Bool) (s : Array Value) (w : World) (js : Nat → Nat) : Prop where
  size : s.size = (c 0).size
  old : ∀ d,(∀ j o,j < n → listed.getD j false = true → ops[j]? = some o → o.dst ≠ some d) → s[d]? = (c 0)[d]?
  new : ∀ j o d,j < n → listed.getD j false = true → ops[j]? = some o → alT o = none → o.dst = some d → s[d]? = (c (j + 1))[d]?
  al : ∀ j o d T,j < n → listed.getD j false = true → ops[j]? = some o → alT o = some (d,T) → (d < s.size → s[d]? = some (.pointer (some ⟨js j,0,none⟩))) ∧ ∃ z,tzero P T = some z ∧ w.heap[js j]? = some (.cells z.cells T (0,0)) ∧ w0.heap.size ≤ js j
  dis : ∀ j k oj ok,j < n → k < n → listed.getD j false = true → listed.getD k false = true → ops[j]? = some oj → ops[k]? = some ok → (alT oj).isSome = true → (alT ok).isSome = true → js j = js k → j = k
  below : Below w0.heap.size w0 w
def left (n : Nat) (listed : Array Bool) : Nat:=(List.range n).countP fun j=>!listed.getD j false
theorem left_set {listed : Array Bool} {i : Nat} (hu : listed.getD i false = false) (hs : i < listed.size) : ∀ n,(i < n → left n (listed.setIfInBounds i true) + 1 = left n listed) ∧ (n ≤ i → left n (listed.setIfInBounds i true) = left n listed)
  | 0=>⟨fun h=>absurd h (Nat.not_lt_zero _),fun _=>rfl⟩
  | n + 1=>by
    have ih:=left_set hu hs n
    have e : ∀ l : Array Bool,left (n + 1) l = left n l + (if l.getD n false = true then 0 else 1):=fun l=>by
      simp only [left,List.range_succ,List.countP_append,List.countP_singleton]
      cases l.getD n false <;> rfl
    rw [e,e]
    by_cases h : i = n
    · subst h
      have h1 : (listed.setIfInBounds i true).getD i false = true:=by simp [hs]
      rw [h1,hu,ih.2 (Nat.le_refl _)]
      exact ⟨fun _=>rfl,fun h=>absurd h (by omega)⟩
    · rw [getD_set_ne false h]
      refine ⟨fun h2=>?_,fun h2=>?_⟩
      · have:=ih.1 (by omega); omega
      · have:=ih.2 (by omega); omega
theorem left_zero {listed : Array Bool} : ∀ n,left n listed = 0 → ∀ j,j < n → listed.getD j false = true:=fun n h j hj=>by
  have:=List.countP_eq_zero.1 h j (List.mem_range.2 hj)
  simpa using this
theorem left_pos {listed : Array Bool} : ∀ n,left n listed ≠ 0 → ∃ j,j < n ∧ listed.getD j false = false ∧ ∀ i,i < j → listed.getD i false = true
  | 0,h=>absurd rfl h
  | n + 1,h=>by
    by_cases h0 : left n listed = 0
    · refine ⟨n,by omega,?_,left_zero n h0⟩
      have e : left (n + 1) listed = left n listed + (if listed.getD n false = true then 0 else 1):=by
        simp only [left,List.range_succ,List.countP_append,List.countP_singleton]
        cases listed.getD n false <;> rfl
      rw [e,h0] at h
      cases hb : listed.getD n false with
      | false=>rfl
      | true=>rw [hb] at h; exact absurd rfl h
    · obtain ⟨j,h1,h2,h3⟩:=left_pos n h0
      exact ⟨j,by omega,h2,h3⟩
theorem chain_far {n : Nat} {c : Nat → Array Value} (hc : ∀ k o,k < n → ops[k]? = some o → StepF P ops w0 o (c k) (c (k + 1))) {d : Tmp} {i : Nat} : ∀ k,i ≤ k → k ≤ n → (∀ j o,i ≤ j → j < k → ops[j]? = some o → o.dst ≠ some d ∨ (alT o).isSome = true) → n ≤ ops.size → (c k)[d]? = (c i)[d]?
  | 0,h,_,_,_=>by
    have : i = 0:=by omega
    rw [this]
  | k + 1,h,hn,hq,hs=>by
    by_cases e : i = k + 1
    · rw [e]
    · have hk : k < ops.size:=by omega
      have ho : ops[k]? = some ops[k]:=Array.getElem?_eq_getElem hk
      have hst:=hc k _ (by omega) ho
      rw [← chain_far hc k (by omega) (by omega) (fun j o h1 h2=>hq j o h1 (by omega)) hs]
      rcases hq k _ (by omega) (by omega) ho with h1 | h1
      · exact hst.ne h1
      · rw [hst.al h1]
theorem chain_size {n : Nat} {c : Nat → Array Value} (hc : ∀ k o,k < n → ops[k]? = some o → StepF P ops w0 o (c k) (c (k + 1))) (hs : n ≤ ops.size) : ∀ k,k ≤ n → (c k).size = (c 0).size
  | 0,_=>rfl
  | k + 1,hk=>by
    have ho : ops[k]? = some ops[k]:=Array.getElem?_eq_getElem (by omega)
    rw [(hc k _ (by omega) ho).size,chain_size hc hs k (by omega)]
theorem InvF.reads {n : Nat} {c : Nat → Array Value} {listed : Array Bool} {s : Array Value} {w : World} {js : Nat → Nat} (inv : InvF P ops w0 n c listed s w js) (F : FloatBase ops n)
    (hc : ∀ k o,k < n → ops[k]? = some o → StepF P ops w0 o (c k) (c (k + 1))) {i : Nat} {o : Oper} (hi : i < n) (ho : ops[i]? = some o) (hr : i ∈ Region.ready .any ops listed) {d : Tmp} (hd : d ∈ readsT ops o) : s[d]? = (c i)[d]?:=by
  obtain ⟨_,o',ho',hall⟩:=mem_ready.1 hr
  have : o' = o:=Option.some.inj (ho'.symm.trans ho)
  subst this
  have hsz : n ≤ ops.size:=F.lt
  by_cases hx : ∃ j oj,j < n ∧ ops[j]? = some oj ∧ oj.dst = some d
  · obtain ⟨j,oj,hj,hoj,hdj⟩:=hx
    obtain ⟨hji,hwt,hal⟩:=F.reads j i oj o' d hj hi hoj ho hdj hd
    obtain ⟨o2,ho2,e,he,hb,hon⟩:=Region.waitsFor_spec hwt
    have : o2 = o':=Option.some.inj (ho2.symm.trans ho)
    subst this
    have hl:=hall e he hb
    rw [hon] at hl
    rw [inv.new j oj d hj hl hoj hal hdj]
    refine (chain_far hc i (by omega) (by omega) (fun k ok h1 h2 hk=>?_) hsz).symm
    by_cases q : ok.dst = some d
    · have:=F.one j k oj ok d hj (by omega) hoj hk hdj q
      omega
    · exact .inl q
  · have hno : ∀ j oj,j < n → ops[j]? = some oj → oj.dst ≠ some d:=fun j oj hj hoj hdj=>hx ⟨j,oj,hj,hoj,hdj⟩
    rw [inv.old d fun j oj hj _ hoj=>hno j oj hj hoj]
    exact (chain_far hc i (by omega) (by omega) (fun k ok h1 h2 hk=>.inl (hno k ok (by omega) hk)) hsz).symm
theorem InvF.evals {n : Nat} {c : Nat → Array Value} {listed : Array Bool} {s : Array Value} {w : World} {js : Nat → Nat} (inv : InvF P ops w0 n c listed s w js) (F : FloatBase ops n)
    (hc : ∀ k o,k < n → ops[k]? = some o → StepF P ops w0 o (c k) (c (k + 1))) {i : Nat} {o : Oper} (hi : i < n) (ho : ops[i]? = some o) (hr : i ∈ Region.ready .any ops listed) :
    execOp (act s).eval o = execOp (act (c i)).eval o ∧ Region.wanted o (yielded ops s) = Region.wanted o (yielded ops (c i)):=by
  have key : ∀ d,d ∈ readsT ops o → s[d]? = (c i)[d]?:=fun d hd=>inv.reads F hc hi ho hr hd
  constructor
  · refine execOp_congr o (fun cs b=>Region.noSelect_spec F.sel i o cs b ho) fun x hx=>?_
    cases x with
    | tmp d=>
      have h1:=key d (by
        unfold readsT
        refine List.mem_append_left _ (List.mem_filterMap.2 ⟨.tmp d,by simpa using hx,rfl⟩))
      show s.getD d undef = (c i).getD d undef
      simp only [Array.getD_eq_getD_getElem?,h1]
    | _=>rfl
  · unfold Region.wanted
    cases hg : o.guard with
    | none=>rfl
    | some jw=>
      obtain ⟨j,want⟩:=jw
      have : yielded ops s j = yielded ops (c i) j:=by
        unfold yielded
        cases hd : (ops[j]?).bind (·.dst) with
        | none=>rfl
        | some d=>
          have h1:=key d (by
            unfold readsT
            refine List.mem_append_right _ ?_
            simp [hg,hd])
          simp only [Option.bind_some,h1]
      simp only [this]
theorem InvF.put {n : Nat} {c : Nat → Array Value} {listed : Array Bool} {s : Array Value} {w w2 : World} {js : Nat → Nat} (inv : InvF P ops w0 n c listed s w js) (F : FloatBase ops n)
    (hc : ∀ k o,k < n → ops[k]? = some o → StepF P ops w0 o (c k) (c (k + 1))) (hsz : listed.size = ops.size) {i : Nat} {o : Oper} (hi : i < n) (ho : ops[i]? = some o) (ha : alT o = none) {v : Value} (hv : c (i + 1) = putA (c i) o.dst v) (hb : Below w.heap.size w w2) :
    InvF P ops w0 n c (listed.setIfInBounds i true) (putA s o.dst v) w2 js:=by
  have hlt : i < listed.size:=by have:=F.lt; omega
  have other : ∀ {j},j ≠ i → (listed.setIfInBounds i true).getD j false = true → listed.getD j false = true:=fun hj h=>by rwa [getD_set_ne false (Ne.symm hj)] at h
  refine ⟨(putA_size _ _ _).trans inv.size,fun d hd=>?_,fun j oj d hj hl hoj haj hdj=>?_,fun j oj d T hj hl hoj haj=>?_,fun j k oj ok hj hk hl hl2 hoj hok h1 h2 he=>?_,inv.below.trans (hb.mono inv.below.size)⟩
  · have h1:=hd i o hi (by simp [hlt]) ho
    rw [putA_ne h1]
    exact inv.old d fun j oj hj hl hoj=>hd j oj hj (getD_set_true hl) hoj
  · by_cases e : j = i
    · subst e
      have : oj = o:=Option.some.inj (hoj.symm.trans ho)
      subst this
      rw [hv,hdj]
      exact putA_same (by rw [inv.size,chain_size hc (F.lt) j (by omega)]) d v
    · have hne : o.dst ≠ some d:=fun q=>e (F.one j i oj o d hj hi hoj ho hdj q)
      rw [putA_ne hne]
      exact inv.new j oj d hj (other e hl) hoj haj hdj
  · have e : j ≠ i:=fun q=>by
      subst q
      have : oj = o:=Option.some.inj (hoj.symm.trans ho)
      subst this
      rw [ha] at haj; cases haj
    obtain ⟨k1,z,k2,k3,k4⟩:=inv.al j oj d T hj (other e hl) hoj haj
    have hne : o.dst ≠ some d:=fun q=>e (F.one j i oj o d hj hi hoj ho (alT_spec haj).2.2 q)
    refine ⟨fun h=>by rw [putA_ne hne]; exact k1 (by rw [putA_size] at h; exact h),z,k2,?_,k4⟩
    rw [hb.block _ (Array.getElem?_eq_some_iff.1 k3).1]
    exact k3
  · have e1 : j ≠ i:=fun q=>by
      subst q
      have : oj = o:=Option.some.inj (hoj.symm.trans ho)
      subst this
      rw [ha] at h1; cases h1
    have e2 : k ≠ i:=fun q=>by
      subst q
      have : ok = o:=Option.some.inj (hok.symm.trans ho)
      subst this
      rw [ha] at h2; cases h2
    exact inv.dis j k oj ok hj hk (other e1 hl) (other e2 hl2) hoj hok h1 h2 he
theorem InvF.make {n : Nat} {c : Nat → Array Value} {listed : Array Bool} {s : Array Value} {w : World} {js : Nat → Nat} (inv : InvF P ops w0 n c listed s w js) (F : FloatBase ops n)
    (hsz : listed.size = ops.size) {i : Nat} {o : Oper} (hi : i < n) (ho : ops[i]? = some o) {d0 : Tmp} {T0 : TypeId} (ha : alT o = some (d0,T0)) {z : Value} (hz : tzero P T0 = some z) (hu : listed.getD i false = false) :
    InvF P ops w0 n c (listed.setIfInBounds i true) (putA s o.dst (.pointer (some ⟨w.heap.size,0,none⟩))) (w.alloc (.cells z.cells T0)) (fun j=>if j = i then w.heap.size else js j):=by
  have hlt : i < listed.size:=by have:=F.lt; omega
  have hd0:=(alT_spec ha).2.2
  have other : ∀ {j},j ≠ i → (listed.setIfInBounds i true).getD j false = true → listed.getD j false = true:=fun hj h=>by rwa [getD_set_ne false (Ne.symm hj)] at h
  have below : Below w0.heap.size w0 (w.alloc (.cells z.cells T0)):=inv.below.trans ⟨rfl,rfl,rfl,by simp,fun k hk=>heap_alloc_old w _ k (Nat.lt_of_lt_of_le hk inv.below.size)⟩
  have lt : ∀ j oj d T,j < n → listed.getD j false = true → ops[j]? = some oj → alT oj = some (d,T) → js j < w.heap.size:=fun j oj d T hj hl hoj haj=>by
    obtain ⟨_,z,_,k3,_⟩:=inv.al j oj d T hj hl hoj haj
    exact (Array.getElem?_eq_some_iff.1 k3).1
  refine ⟨(putA_size _ _ _).trans inv.size,fun d hd=>?_,fun j oj d hj hl hoj haj hdj=>?_,fun j oj d T hj hl hoj haj=>?_,fun j k oj ok hj hk hl hl2 hoj hok h1 h2 he=>?_,below⟩
  · have h1:=hd i o hi (by simp [hlt]) ho
    rw [putA_ne h1]
    exact inv.old d fun j oj hj hl hoj=>hd j oj hj (getD_set_true hl) hoj
  · have e : j ≠ i:=fun q=>by
      subst q
      have : oj = o:=Option.some.inj (hoj.symm.trans ho)
      subst this
      rw [ha] at haj; cases haj
    have hne : o.dst ≠ some d:=fun q=>e (F.one j i oj o d hj hi hoj ho hdj q)
    rw [putA_ne hne]
    exact inv.new j oj d hj (other e hl) hoj haj hdj
  · by_cases e : j = i
    · subst e
      have : oj = o:=Option.some.inj (hoj.symm.trans ho)
      subst this
      rw [ha] at haj
      simp only [Option.some.injEq,Prod.mk.injEq] at haj
      obtain ⟨rfl,rfl⟩:=haj
      refine ⟨fun h=>?_,z,hz,?_,?_⟩
      · rw [hd0]
        rw [putA_size] at h
        simp only [putA,Array.getElem?_setIfInBounds_self,h,if_true]
      · simp only [if_true]
        exact heap_alloc_new w _
      · simp only [if_true]
        exact inv.below.size
    · obtain ⟨k1,z',k2,k3,k4⟩:=inv.al j oj d T hj (other e hl) hoj haj
      have hne : o.dst ≠ some d:=fun q=>e (F.one j i oj o d hj hi hoj ho (alT_spec haj).2.2 q)
      simp only [if_neg e]
      refine ⟨fun h=>by rw [putA_ne hne]; exact k1 (by rw [putA_size] at h; exact h),z',k2,?_,k4⟩
      rw [heap_alloc_old _ _ _ (Array.getElem?_eq_some_iff.1 k3).1]
      exact k3
  · have get : ∀ {oj},(alT oj).isSome = true → ∃ d T,alT oj = some (d,T):=fun {oj} h=>by
      obtain ⟨⟨d,T⟩,h⟩:=Option.isSome_iff_exists.1 h
      exact ⟨d,T,h⟩
    obtain ⟨d1,T1,g1⟩:=get h1
    obtain ⟨d2,T2,g2⟩:=get h2
    by_cases e1 : j = i <;> by_cases e2 : k = i
    · rw [e1,e2]
    · simp only [if_pos e1,if_neg e2] at he
      have:=lt k ok d2 T2 hk (other e2 hl2) hok g2
      omega
    · simp only [if_neg e1,if_pos e2] at he
      have:=lt j oj d1 T1 hj (other e1 hl) hoj g1
      omega
    · simp only [if_neg e1,if_neg e2] at he
      exact inv.dis j k oj ok hj hk (other e1 hl) (other e2 hl2) hoj hok h1 h2 he
theorem wpAny_float {n : Nat} {c : Nat → Array Value} {Q : Exit → Act → World → Prop} (F : FloatOk ops n) (hc : ∀ k o,k < n → ops[k]? = some o → StepF P ops w0 o (c k) (c (k + 1)))
    (hz : ∀ k o d T,k < n → ops[k]? = some o → alT o = some (d,T) → ∃ z,tzero P T = some z)
    (hQ : ∀ s w js,InvF P ops w0 n c (listedN n ops.size) s w js → wpAny P .any ops Q (ops.size - n) (listedN n ops.size) (act s) w) :
    ∀ (f : Nat) (listed : Array Bool) (s : Array Value) (w : World) (js : Nat → Nat),HeadInv .any ops n listed → left n listed = f → InvF P ops w0 n c listed s w js → wpAny P .any ops Q (f + (ops.size - n)) listed (act s) w
  | 0,listed,s,w,js,hd,hf,inv=>by
    have e : listed = listedN n ops.size:=by
      refine Array.ext (by rw [hd.size]; simp [listedN]) fun i h1 h2=>?_
      simp only [listedN,List.getElem_toArray,List.getElem_map,List.getElem_range]
      by_cases hi : i < n
      · have:=left_zero n hf i hi
        simp only [hi,decide_true]
        simpa [Array.getD,h1] using this
      · have:=hd.tail i (by omega) (by rw [← hd.size]; exact h1)
        simp only [hi,decide_false]
        simpa [Array.getD,h1] using this
    rw [Nat.zero_add,e]
    exact hQ s w js (e ▸ inv)
  | f + 1,listed,s,w,js,hd,hf,inv=>by
    obtain ⟨i0,hi0,hu0,hmin⟩:=left_pos n (by omega : left n listed ≠ 0)
    have hsz:=hd.size
    have hlt:=F.lt
    have r0 : i0 ∈ Region.ready .any ops listed:=mem_ready.2 ⟨getD_in (by omega) hu0,_,Array.getElem?_eq_getElem (by omega),fun e he hb=>hmin _ (F.back i0 _ hi0 (Array.getElem?_eq_getElem (by omega)) e he hb)⟩
    rw [show f + 1 + (ops.size - n) = (f + (ops.size - n)) + 1 by omega]
    refine ⟨fun h=>(by rw [h] at r0; cases r0),fun i hi=>?_⟩
    have hin : i < n:=by
      rcases Nat.lt_or_ge i n with h | h
      · exact h
      · exact absurd hi (tail_waits F.sink F.chain F.lts hd _ i0 rfl hi0 (getD_in (by omega) hu0) i h)
    obtain ⟨hiu,o,ho,hall⟩:=mem_ready.1 hi
    have hu:=getD_both hiu
    have hnext:=hd.set hi hin
    have hleft : left n (listed.setIfInBounds i true) = f:=by have:=(left_set hu (by omega : i < listed.size) n).1 hin; omega
    have go : ∀ s2 w2 js2,InvF P ops w0 n c (listed.setIfInBounds i true) s2 w2 js2 → wpAny P .any ops Q (f + (ops.size - n)) (listed.setIfInBounds i true) (act s2) w2:=fun s2 w2 js2 inv2=>
      wpAny_float F hc hz hQ f _ s2 w2 js2 hnext hleft inv2
    unfold wpOp
    simp only [ho]
    have hev:=inv.evals F.toFloatBase hc hin ho hi
    have hw : Region.wanted o (yielded ops (act s).tmps) = Region.wanted o (yielded ops (c i)):=hev.2
    rcases hc i o hin ho with ⟨ha,_⟩ | ⟨ha,v,hv,hx⟩
    · obtain ⟨⟨d,T⟩,hT⟩:=Option.isSome_iff_exists.1 ha
      obtain ⟨z,hz'⟩:=hz i o d T hin ho hT
      obtain ⟨hop,hg,hdst⟩:=alT_spec hT
      have hw1 : Region.wanted o (yielded ops (act s).tmps) = true:=by simp [Region.wanted,hg]
      rw [if_pos hw1]
      left
      unfold Oper.wp
      have hrun : (execOp (act s).eval o).run P w = .ok (.value (.pointer (some ⟨w.heap.size,0,none⟩))) (w.alloc (.cells z.cells T)):=by
        simp only [execOp,hop,Instr.alloc,Sem.run_bind,run_zeroValue hz' w,Result.andThen_ok]
        rfl
      rw [hrun,Oper.upon_value,act_put]
      exact go _ _ _ (inv.make F.toFloatBase hsz hin ho hT hz' hu)
    · rcases hx with ⟨hw1,hst,_⟩ | ⟨hw1,rfl⟩
      · rw [if_pos (hw.trans hw1)]
        left
        unfold Oper.wp
        rw [hev.1]
        rcases hst w inv.below with hr | ⟨g,args,hr,hcall⟩
        · rw [hr,Oper.upon_value,act_put]
          exact go _ _ _ (inv.put F.toFloatBase hc hsz hin ho ha hv (Below.refl _ _))
        · rw [hr]
          refine hcall.mono ?_
          rintro e w2 ⟨rfl,hb⟩
          show wpAny P .any ops Q (f + (ops.size - n)) (listed.setIfInBounds i true) ((act s).put o.dst v) w2
          rw [act_put]
          exact go _ _ _ (inv.put F.toFloatBase hc hsz hin ho ha hv hb)
      · rw [if_neg (by rw [hw,hw1]; simp),act_put]
        exact go _ _ _ (inv.put F.toFloatBase hc hsz hin ho ha hv (Below.refl _ _))
theorem wp_region_float {id : Nat} {Q : Exit → Act → World → Prop} {s : Array Value} {w : World} (n : Nat) (hm : P.follows .mixedOrders = true) (hB : floatB ops n = true)
    (hz : ∀ k o d T,k < n → ops[k]? = some o → alT o = some (d,T) → ∃ z,tzero P T = some z)
    (h : wpF P ops { w with drawn:=w.drawn + 1 } (fun s1=>∀ (c : Nat → Array Value) s2 w' js,c n = s1 → (∀ k o,k < n → ops[k]? = some o → StepF P ops { w with drawn:=w.drawn + 1 } o (c k) (c (k + 1))) → InvF P ops { w with drawn:=w.drawn + 1 } n c (listedN n ops.size) s2 w' js → wpList P ops Q (ops.toList.drop n) (act s2) w') (ops.toList.take n) s) :
    (Code.region id ops true).wp P Q (act s) w:=by
  have F:=floatB_spec hB
  have hlt:=F.lt
  obtain ⟨c,h0,hQ,hc⟩:=wpF_chain _ _ h
  have hln : (ops.toList.take n).length = n:=by rw [List.length_take,Array.length_toList]; omega
  have hc' : ∀ k o,k < n → ops[k]? = some o → StepF P ops { w with drawn:=w.drawn + 1 } o (c k) (c (k + 1)):=fun k o hk ho=>hc k o (by rw [List.getElem?_take_of_lt hk,Array.getElem?_toList]; exact ho)
  rw [hln] at hQ
  refine wp_region_any hm ?_
  have rep : ∀ j,(Array.replicate ops.size false).getD j false = false:=fun j=>getD_replicate_false _ _
  have H:=wpAny_float (Q:=Q) F hc' hz (fun s2 w2 js inv=>by
    have:=wpAny_of_seq (md:=.any) (Q':=Q) (P:=P) (ops.toList.drop n) n (listedN n ops.size) (act s2) w2 (fun j=>by rw [List.getElem?_drop,Array.getElem?_toList]) (by rw [List.length_drop,Array.length_toList]; exact F.seq) (hQ c s2 w2 js rfl hc' inv)
    rwa [List.length_drop,Array.length_toList] at this) n (Array.replicate ops.size false) s { w with drawn:=w.drawn + 1 } (fun _=>0)
    ⟨by simp,fun j oj _ hl=>(by rw [rep] at hl; cases hl),fun t _ ht=>getD_in (by simpa using ht) (rep _)⟩
    (by
      have : ∀ k,left k (Array.replicate ops.size false) = k:=fun k=>by
        induction k with
        | zero=>rfl
        | succ k ih=>
          have e : left (k + 1) (Array.replicate ops.size false) = left k (Array.replicate ops.size false) + 1:=by
            simp only [left,List.range_succ,List.countP_append,List.countP_singleton,rep]
            rfl
          rw [e,ih]
      exact this n)
    ⟨by rw [h0],fun d _=>by rw [h0],fun j o d hj hl=>(by rw [rep] at hl; cases hl),fun j o d T hj hl=>(by rw [rep] at hl; cases hl),fun j k oj ok hj hk hl=>(by rw [rep] at hl; cases hl),Below.refl _ _⟩
  rw [show n + (ops.size - n) = ops.size by omega] at H
  exact H
end
theorem RH.snoc {m : List Nat} {H : List Blk} {w : World} (h : RH m H w) {cs cs' : Array Value} {T : TypeId} {j : Nat} (hT : T < 1000000) (hj : w.heap[j]? = some (.cells cs' T (0,0))) (hr : RA m cs cs') (hn : j ∉ m) : RH (m ++ [j]) (H ++ [(cs,T)]) w:=by
  refine ⟨by simp [h.len],?_,fun i k b hk hb=>?_⟩
  · rw [List.nodup_append]
    exact ⟨h.nodup,by simp,fun a ha b hb=>by
      simp at hb
      subst hb
      exact fun e=>hn (e ▸ ha)⟩
  · by_cases hi : i < m.length
    · rw [List.getElem?_append_left hi] at hk
      rw [List.getElem?_append_left (by rw [← h.len]; exact hi)] at hb
      obtain ⟨cs2,hc,hr2⟩:=h.blk i k b hk hb
      exact ⟨cs2,hc,hr2.mono _⟩
    · have hi' : i = m.length:=by
        have:=(List.getElem?_eq_some_iff.1 hk).1
        simp at this; omega
      subst hi'
      rw [List.getElem?_append_right (Nat.le_refl _)] at hk
      rw [List.getElem?_append_right (by rw [h.len]; exact Nat.le_refl _)] at hb
      simp at hk
      simp [h.len] at hb
      subst hk; subst hb
      exact ⟨cs',by rw [frOf_lit hT]; exact hj,hr.mono _⟩
def allocsOf (ops : Array Oper) (n : Nat) : List (Nat × Tmp × TypeId):=(List.range n).filterMap fun k=>((ops[k]?).bind alT).map fun p=>(k,p.1,p.2)
def allocsOk (P : Program) (ops : Array Oper) (n : Nat) : Bool:=(allocsOf ops n).all fun x=>match tzero P x.2.2 with | some z=>z.cells.toList.all flat1 | none=>false
theorem mem_allocsOf {ops : Array Oper} {n : Nat} {x : Nat × Tmp × TypeId} : x ∈ allocsOf ops n ↔ x.1 < n ∧ ∃ o,ops[x.1]? = some o ∧ alT o = some (x.2.1,x.2.2):=by
  obtain ⟨k,d,T⟩:=x
  simp only [allocsOf,List.mem_filterMap,List.mem_range,Option.map_eq_some_iff,Option.bind_eq_some_iff]
  constructor
  · rintro ⟨a,ha,⟨d',T'⟩,⟨o,ho,hal⟩,he⟩
    simp only [Prod.mk.injEq] at he
    obtain ⟨rfl,rfl,rfl⟩:=he
    exact ⟨ha,o,ho,hal⟩
  · rintro ⟨ha,o,ho,hal⟩
    exact ⟨k,ha,(d,T),⟨o,ho,hal⟩,rfl⟩
def fillA (P : Program) : List (Nat × Tmp × TypeId) → Array Value → List Blk → Option (Array Value × List Blk)
  | [],t,H=>some (t,H)
  | x :: l,t,H=>match tzero P x.2.2 with
    | some z=>if x.2.2 < 1000000 then fillA P l (putA t (some x.2.1) (.pointer (some ⟨H.length,0,none⟩))) (H ++ [(z.cells,x.2.2)]) else none
    | none=>none
theorem fillA_run {P : Program} {s : Array Value} {w : World} {js : Nat → Nat} : ∀ (L : List (Nat × Tmp × TypeId)) (t : Array Value) (H : List Blk) (m : List Nat) (t2 : Array Value) (H2 : List Blk),fillA P L t H = some (t2,H2) → t.size = s.size →
    (∀ d v v',t[d]? = some v → s[d]? = some v' → (∀ x ∈ L,x.2.1 ≠ d) → VR m v v') → RH m H w →
    (∀ x ∈ L,(x.2.1 < s.size → s[x.2.1]? = some (.pointer (some ⟨js x.1,0,none⟩))) ∧ ∃ z,tzero P x.2.2 = some z ∧ z.cells.toList.all flat1 = true ∧ w.heap[js x.1]? = some (.cells z.cells x.2.2 (0,0))) →
    (∀ x ∈ L,js x.1 ∉ m) → (L.map fun x=>js x.1).Nodup → RA (m ++ L.map fun x=>js x.1) t2 s ∧ RH (m ++ L.map fun x=>js x.1) H2 w
  | [],t,H,m,t2,H2,h,hs,hm,hH,_,_,_=>by
    simp only [fillA,Option.some.injEq,Prod.mk.injEq] at h
    obtain ⟨rfl,rfl⟩:=h
    simp only [List.map_nil,List.append_nil]
    exact ⟨⟨hs,fun i v v' h1 h2=>hm i v v' h1 h2 (fun x hx=>by cases hx)⟩,hH⟩
  | x :: L,t,H,m,t2,H2,h,hs,hm,hH,hL,hf,hn=>by
    obtain ⟨hp,z,hz,hfl,hc⟩:=hL x (by simp)
    simp only [fillA,hz] at h
    split at h
    case isFalse=>cases h
    rename_i hT
    have hr : RA m z.cells z.cells:=⟨rfl,fun i v v' h1 h2=>by rw [h1] at h2; cases h2; exact .pl _ (all_flat1_at hfl h1)⟩
    have hx:=hf x (by simp)
    simp only [List.map_cons,List.nodup_cons] at hn
    have:=fillA_run L _ _ (m ++ [js x.1]) t2 H2 h (by rw [putA_size]; exact hs) (fun d v v' h1 h2 h3=>by
      by_cases e : x.2.1 = d
      · subst e
        have hlt : x.2.1 < s.size:=(Array.getElem?_eq_some_iff.1 h2).1
        rw [hp hlt] at h2
        simp only [putA,Array.getElem?_setIfInBounds_self,hs,hlt,if_true] at h1
        cases h1; cases h2
        exact .ptr _ _ _ _ (by rw [← hH.len]; simp)
      · rw [putA_ne (fun q=>e (Option.some.inj q))] at h1
        exact (hm d v v' h1 h2 (fun y hy=>by
          rcases List.mem_cons.1 hy with rfl | hy
          · exact e
          · exact h3 y hy)).mono _) (hH.snoc hT hc hr hx) (fun y hy=>hL y (by simp [hy])) (fun y hy hm'=>by
      rcases List.mem_append.1 hm' with h' | h'
      · exact hf y (by simp [hy]) h'
      · simp at h'
        exact hn.1 (List.mem_map.2 ⟨y,hy,h'⟩)) hn.2
    simpa [List.append_assoc] using this
def opsF (P : Program) (E : Eqs) (ops : Array Oper) (H : List Blk) (K : Array Value → T) : List Oper → Array Value → T
  | [],t=>K t
  | o :: rest,t=>if (alT o).isSome = true then opsF P E ops H K rest t else guarded ops o t (fun t=>stepQ P E o t H fun t=>opsF P E ops H K rest t) (fun t=>opsF P E ops H K rest (putA t o.dst undef))
section
variable {P : Program} {E : Eqs} {f : FuncId}
theorem opsF_run (hE : EqsOk P E) {ops : Array Oper} {K : Array Value → T} {R : Value → List Blk → Prop} {m : List Nat} {H : List Blk} {w : World} (hH : RH m H w) {Q : Array Value → Prop}
    (hQ : ∀ t t',RA m t t' → Run P f R (K t) → Q t') :
    ∀ (l : List Oper) (t t' : Array Value),RA m t t' → Run P f R (opsF P E ops H K l t) → wpF P ops w Q l t'
  | [],t,t',ht,h=>hQ t t' ht h
  | o :: l,t,t',ht,h=>by
    have ih:=fun t t'=>opsF_run (ops:=ops) hE hH hQ l t t'
    have hC : ∀ {w'},Below w.heap.size w w' → RH m H w':=fun hb=>hH.below hb
    simp only [wpF]
    simp only [opsF] at h
    by_cases ha : (alT o).isSome = true
    · rw [if_pos ha] at h ⊢
      exact ih t t' ht h
    · rw [if_neg ha] at h ⊢
      have quiet : ∀ (u u' : Value),VR m u u' → (∀ w',Below w.heap.size w w' → ∃ x,(execOp (act t').eval o).run P w' = .ok (.value x) w' ∧ VR m u x) → (opFree o = true → ∀ w',∃ x,(execOp (act t').eval o).run P w' = .ok (.value x) w' ∧ VR m u x) →
          (∀ T x j off,o.op = .load T x → (act t').eval x = .pointer (some ⟨j,off,none⟩) → ∀ w1 w',Below w.heap.size w w1 → w'.heap[j]? = w1.heap[j]? → ∃ x,(execOp (act t').eval o).run P w' = .ok (.value x) w' ∧ VR m u x) → Run P f R (opsF P E ops H K l (putA t o.dst u)) →
          ∃ v,(Still P w o (act t') v ∧ StillAll P w o (act t') v) ∧ wpF P ops w Q l (putA t' o.dst v):=fun u u' hu hr hr2 hr3 h2=>by
        refine ⟨u',⟨fun w' hw'=>?_,fun hfr w'=>?_,fun T x j off ho hx w1 w' hb hj=>?_⟩,ih _ _ (ht.put hu _) h2⟩
        · obtain ⟨x,hx,hv⟩:=hr w' hw'
          left
          rw [hx,hv.fn hu]
        · obtain ⟨x,hx,hv⟩:=hr2 hfr w'
          rw [hx,hv.fn hu]
        · obtain ⟨y,hy,hv⟩:=hr3 T x j off ho hx w1 w' hb hj
          rw [hy,hv.fn hu]
      rcases guarded_run ht h with ⟨hw,h⟩ | ⟨hw,h⟩
      · rw [if_pos hw]
        unfold stepQ at h
        split at h
        · rename_i u hu
          obtain ⟨u',_,hv⟩:=opA_val (w:=w) ht (fun _=>hH) hE hu
          exact quiet u u' hv (fun w' hb=>opA_val (w:=w') ht (fun _=>hC hb) hE hu) (fun hfr w'=>opA_val (w:=w') ht (fun q=>absurd (hfr.symm.trans q) (by simp)) hE hu) (fun T x j off ho hx w1 w' hb hj=>opA_load ht ho hu hx (hC hb) hj) h
        · rename_i c x y hu
          obtain ⟨u',_,hv⟩:=opA_pick (E:=E) ht hu w
          have h2:=run_ite h
          cases c
          · exact quiet y u' hv (fun w' _=>opA_pick (E:=E) ht hu w') (fun _ w'=>opA_pick (E:=E) ht hu w') (fun T x j off ho _ _ _ _ _=>by rcases load_kind (P:=P) (E:=E) (t:=t) (H:=H) ho with ⟨_,q⟩ | ⟨_,q⟩ | q <;> rw [q] at hu <;> cases hu) h2
          · exact quiet x u' hv (fun w' _=>opA_pick (E:=E) ht hu w') (fun _ w'=>opA_pick (E:=E) ht hu w') (fun T x j off ho _ _ _ _ _=>by rcases load_kind (P:=P) (E:=E) (t:=t) (H:=H) ho with ⟨_,q⟩ | ⟨_,q⟩ | q <;> rw [q] at hu <;> cases hu) h2
        · rename_i c u hu
          have h2:=run_ite h
          cases c
          · exact (run_fail h2).elim
          · obtain ⟨u',_,hv⟩:=opA_chk hE ht hu rfl w
            exact quiet u u' hv (fun w' _=>opA_chk hE ht hu rfl w') (fun _ w'=>opA_chk hE ht hu rfl w') (fun T x j off ho _ _ _ _ _=>by rcases load_kind (P:=P) (E:=E) (t:=t) (H:=H) ho with ⟨_,q⟩ | ⟨_,q⟩ | q <;> rw [q] at hu <;> cases hu) h2
        · rename_i g args hu
          cases h with
          | qcall _ sel H0 args0 _ _ u hF hfl hs hcc hsn hok hk2=>
            refine ⟨u,⟨fun w' hb=>?_,fun hfr=>absurd (hfr.symm.trans (free_enter hu)) (by simp),(fun T x j off ho _ _ _ _ _=>by rcases load_kind (P:=P) (E:=E) (t:=t) (H:=H) ho with ⟨_,q⟩ | ⟨_,q⟩ | q <;> rw [q] at hu <;> cases hu)⟩,ih _ _ (ht.put (VR.refl_of_flat _ hfl) _) hk2⟩
            obtain ⟨args',hr,ha⟩:=opA_enter (E:=E) ht hu hF.1 w'
            exact .inr ⟨_,_,hr,call_reads (hC hb) hF hfl hs hcc hsn hok ha⟩
          | qcalm _ zs Z args0 _ _ u hF hfl hU hz hzc hsn hok hk2=>
            refine ⟨u,⟨fun w' hb=>?_,fun hfr=>absurd (hfr.symm.trans (free_enter hu)) (by simp),(fun T x j off ho _ _ _ _ _=>by rcases load_kind (P:=P) (E:=E) (t:=t) (H:=H) ho with ⟨_,q⟩ | ⟨_,q⟩ | q <;> rw [q] at hu <;> cases hu)⟩,ih _ _ (ht.put (VR.refl_of_flat _ hfl) _) hk2⟩
            obtain ⟨args',hr,ha⟩:=opA_enter (E:=E) ht hu hF.1 w'
            exact .inr ⟨_,_,hr,call_calm (hC hb) hF hfl hU hz hzc hsn hok ha⟩
        · exact (run_fail h).elim
      · rw [if_neg (by rw [hw]; simp)]
        exact ih _ _ (ht.put (VR.undef _) _) h
def headLen (ops : Array Oper) : Nat:=(ops.toList.takeWhile fun o=>!writes o || (alT o).isSome).length
def floats (P : Program) (ops : Array Oper) : Bool:=ops.toList.any (fun o=>(alT o).isSome) && floatB ops (headLen ops) && allocsOk P ops (headLen ops)
def tailF (P : Program) (E : Eqs) (ops : Array Oper) (K : Array Value → List Blk → T) (n : Nat) (H : List Blk) (t : Array Value) : T:=
  match fillA P (allocsOf ops n) t H with
  | some (t2,H2)=>opsN P E ops K (ops.toList.drop n) t2 H2
  | none=>.fail
def regionG (P : Program) (E : Eqs) (ops : Array Oper) (draw : Bool) (K : Array Value → List Blk → T) (t : Array Value) (H : List Blk) : T:=
  if (draw && floats P ops) = true then opsF P E ops H (tailF P E ops K (headLen ops) H) (ops.toList.take (headLen ops)) t
  else regionA P E ops draw K t H
theorem regionG_run (hE : EqsOk P E) (hm : P.follows .mixedOrders = true) {id : Nat} {ops : Array Oper} {draw : Bool} {K : Array Value → List Blk → T} {R : Value → List Blk → Prop} {m : List Nat} {t t' : Array Value} {H : List Blk} {w : World}
    (ht : RA m t t') (hH : RH m H w) (h : Run P f R (regionG P E ops draw K t H)) : (Code.region id ops draw).wp P (QN P f m w K R) (act t') w:=by
  unfold regionG at h
  by_cases hc : (draw && floats P ops) = true
  case neg=>rw [if_neg hc] at h; exact regionA_run hE hm ht hH h
  rw [if_pos hc] at h
  simp only [floats,Bool.and_eq_true] at hc
  obtain ⟨rfl,⟨_,hB⟩,hA⟩:=hc
  generalize headLen ops = n at *
  have F:=floatB_spec hB
  have hsz : n ≤ ops.size:=F.lt
  have hA' : ∀ x ∈ allocsOf ops n,∃ z,tzero P x.2.2 = some z ∧ z.cells.toList.all flat1 = true:=fun x hx=>by
    have:=List.all_eq_true.1 hA x hx
    cases hz : tzero P x.2.2 with
    | none=>simp [hz] at this
    | some z=>simp only [hz] at this; exact ⟨z,rfl,this⟩
  have hH1 : RH m H { w with drawn:=w.drawn + 1 }:=⟨hH.len,hH.nodup,hH.blk⟩
  refine wp_region_float n hm hB (fun k o d T hk ho hal=>?_) ?_
  · obtain ⟨z,hz,_⟩:=hA' (k,d,T) (mem_allocsOf.2 ⟨hk,o,ho,hal⟩)
    exact ⟨z,hz⟩
  · refine opsF_run hE hH1 (fun t t' ht h c s2 w' js hcn hchain inv=>?_) _ t t' ht h
    unfold tailF at h
    cases hfill : fillA P (allocsOf ops n) t H with
    | none=>simp only [hfill] at h; exact (run_fail h).elim
    | some p=>
      obtain ⟨t2,H2⟩:=p
      simp only [hfill] at h
      have hl : ∀ j,j < n → (listedN n ops.size).getD j false = true:=fun j hj=>by
        have : j < ops.size:=by omega
        simp [listedN,this,hj]
      have hgo:=fillA_run (s:=s2) (w:=w') (js:=js) (allocsOf ops n) t H m t2 H2 hfill (by rw [ht.size,← hcn,chain_size hchain hsz n (Nat.le_refl _),inv.size]) (fun d v v' h1 h2 h3=>?_) (hH1.below inv.below) (fun x hx=>?_) (fun x hx hmem=>?_) ?_
      · refine opsN_run hE _ _ t2 s2 H2 w' hgo.1 hgo.2 (fun j hj=>?_) ⟨inv.below.os,inv.below.tape,inv.below.output,inv.below.size,fun k hk _=>inv.below.block k hk⟩ h
        obtain ⟨x,hx,rfl⟩:=List.mem_map.1 hj
        obtain ⟨hxn,o,ho,hal⟩:=mem_allocsOf.1 hx
        obtain ⟨_,z,_,_,h4⟩:=inv.al x.1 o x.2.1 x.2.2 hxn (hl _ hxn) ho hal
        exact h4
      · refine ht.at_ d v v' h1 ?_
        rw [← h2,← hcn]
        by_cases hx : ∃ j oj,j < n ∧ ops[j]? = some oj ∧ oj.dst = some d
        · obtain ⟨j,oj,hj,hoj,hdj⟩:=hx
          have hal : alT oj = none:=by
            cases q : alT oj with
            | none=>rfl
            | some p=>
              obtain ⟨d',T'⟩:=p
              have e : d' = d:=Option.some.inj ((alT_spec q).2.2.symm.trans hdj)
              exact absurd e (h3 (j,d',T') (mem_allocsOf.2 ⟨hj,oj,hoj,q⟩))
          rw [inv.new j oj d hj (hl j hj) hoj hal hdj]
          exact chain_far hchain n (by omega) (Nat.le_refl _) (fun k ok q1 q2 hk=>by
            by_cases q : ok.dst = some d
            · have:=F.one j k oj ok d hj q2 hoj hk hdj q
              omega
            · exact .inl q) hsz
        · have hno : ∀ j oj,j < n → ops[j]? = some oj → oj.dst ≠ some d:=fun j oj hj hoj hdj=>hx ⟨j,oj,hj,hoj,hdj⟩
          rw [inv.old d fun j oj hj _ hoj=>hno j oj hj hoj]
          exact chain_far hchain n (Nat.zero_le _) (Nat.le_refl _) (fun k ok q1 q2 hk=>.inl (hno k ok q2 hk)) hsz
      · obtain ⟨hxn,o,ho,hal⟩:=mem_allocsOf.1 hx
        obtain ⟨k1,z,k2,k3,_⟩:=inv.al x.1 o x.2.1 x.2.2 hxn (hl _ hxn) ho hal
        obtain ⟨z',q1,q2⟩:=hA' x hx
        have : z' = z:=Option.some.inj (q1.symm.trans k2)
        subst this
        exact ⟨k1,z',k2,q2,k3⟩
      · obtain ⟨hxn,o,ho,hal⟩:=mem_allocsOf.1 hx
        obtain ⟨_,z,_,_,h4⟩:=inv.al x.1 o x.2.1 x.2.2 hxn (hl _ hxn) ho hal
        have:=hH1.lt_of_mem hmem
        omega
      · have hp : (allocsOf ops n).Pairwise fun x y=>x.1 ≠ y.1:=by
          unfold allocsOf
          rw [List.pairwise_filterMap]
          refine List.Pairwise.imp ?_ (List.nodup_range (n:=n))
          intro a b hab x hx y hy
          simp only [Option.map_eq_some_iff] at hx hy
          obtain ⟨_,_,rfl⟩:=hx
          obtain ⟨_,_,rfl⟩:=hy
          exact hab
        rw [List.Nodup,List.pairwise_map]
        refine List.Pairwise.imp_of_mem ?_ hp
        intro x y hx hy hxy he
        obtain ⟨hxn,o,ho,hal⟩:=mem_allocsOf.1 hx
        obtain ⟨hyn,o2,ho2,hal2⟩:=mem_allocsOf.1 hy
        exact hxy (inv.dis x.1 y.1 o o2 hxn hyn (hl _ hxn) (hl _ hyn) ho ho2 (by rw [hal]; rfl) (by rw [hal2]; rfl) he)
end
end Go.Proofs.YtfhnlkinjbakgaaGreat.Abs
