/- The abstract machine: a region that draws its order, where memory is made in any order beside what only reads. -/
import Derived.Test.YtfhnlkinjbakgaaGreatSsAbs7
namespace Go.Proofs.YtfhnlkinjbakgaaGreat.Abs
open Go Go.RowKit
def Qs (o : Oper) : Option (Tmp × TypeId):=
  match o.op,o.guard,o.dst with
  | .alloc T,none,some d=>some (d,T)
  | _,_,_=>none
theorem Mg {o : Oper} {d : Tmp} {T : TypeId} (h : Qs o = some (d,T)) : o.op = .alloc T ∧ o.guard = none ∧ o.dst = some d:=by
  unfold Qs at h
  split at h
  · rename_i h1 h2 h3
    simp only [Option.some.injEq,Prod.mk.injEq] at h
    obtain ⟨rfl,rfl⟩:=h
    exact ⟨h1,h2,h3⟩
  · cases h
def K8 (ops : Array Oper) (o : Oper) : List Tmp:=
  (o.op.operands.toList.filterMap fun x=>match x with | .tmp i=>some i | _=>none) ++ (match o.guard with | some (j,_)=>((ops[j]?).bind (·.dst)).toList | none=>[])
def Sc (ops : Array Oper) (j k : Nat) (o : Oper) : Bool:=
  match ops[j]? with
  | some oj=>match oj.dst with
    | some d=>(decide (j = k) || decide (o.dst ≠ some d)) && (!(K8 ops o).contains d || (decide (j < k) && Region.waitsFor .any ops k j && (Qs oj).isNone))
    | none=>true
  | none=>true
def Ju (n m : Nat) : Array Bool:=((List.range m).map fun i=>decide (i < n)).toArray
def pG (ops : Array Oper) (n : Nat) : Bool:=
  Region.noSelect ops && decide (n < ops.size) && Region.sinkB .any ops n && Region.chainB .any ops n && Region.seqB .any ops (ops.size - n) n (Ju n ops.size) &&
  (List.range n).all fun k=>match ops[k]? with
    | some o=>(o.after.toList.all fun e=>!Region.binds .any e || decide (e.on < k)) && (List.range n).all fun j=>Sc ops j k o
    | none=>false
section
variable {P : Program} {ops : Array Oper} {w0 : World}
def Afi (P : Program) (w0 : World) (o : Oper) (a : Act) (v : Value) : Prop:=
  ∀ w',Below w0.heap.size w0 w' → ((execOp a.eval o).run P w' = .ok (.value v) w' ∨
    ∃ g args,(execOp a.eval o).run P w' = .ok (.enter g args) w' ∧ Calls P g args w' fun e w2=>e = .returned v ∧ Below w'.heap.size w' w2)
def l5 (P : Program) (w0 : World) (o : Oper) (a : Act) (v : Value) : Prop:=
  (Is o = true → ∀ w',(execOp a.eval o).run P w' = .ok (.value v) w') ∧
  ∀ T x j off,o.op = .load T x → a.eval x = .pointer (some ⟨j,off,none⟩) → ∀ w1 w',Below w0.heap.size w0 w1 → w'.heap[j]? = w1.heap[j]? → (execOp a.eval o).run P w' = .ok (.value v) w'
def wpF (P : Program) (ops : Array Oper) (w0 : World) (Q : Array Value → Prop) : List Oper → Array Value → Prop
  | [],s=>Q s
  | o :: l,s=>
    if (Qs o).isSome = true then wpF P ops w0 Q l s
    else if Region.wanted o (yielded ops s) = true then ∃ v,(Afi P w0 o (Fh s) v ∧ l5 P w0 o (Fh s) v) ∧ wpF P ops w0 Q l (Fb s o.dst v)
    else wpF P ops w0 Q l (Fb s o.dst undef)
def Kq (P : Program) (ops : Array Oper) (w0 : World) (o : Oper) (s s' : Array Value) : Prop:=
  ((Qs o).isSome = true ∧ s' = s) ∨
  (Qs o = none ∧ ∃ v,s' = Fb s o.dst v ∧ ((Region.wanted o (yielded ops s) = true ∧ Afi P w0 o (Fh s) v ∧ l5 P w0 o (Fh s) v) ∨ (Region.wanted o (yielded ops s) = false ∧ v = undef)))
theorem Yu {Q : Array Value → Prop} : ∀ (l : List Oper) (s : Array Value),wpF P ops w0 Q l s →
    ∃ c : Nat → Array Value,c 0 = s ∧ Q (c l.length) ∧ ∀ k o,l[k]? = some o → Kq P ops w0 o (c k) (c (k + 1))
  | [],s,h=>⟨fun _=>s,rfl,h,fun k o hk=>by simp at hk⟩
  | o :: l,s,h=>by
    have cons : ∀ s',Kq P ops w0 o s s' → wpF P ops w0 Q l s' → ∃ c : Nat → Array Value,c 0 = s ∧ Q (c (l.length + 1)) ∧ ∀ k o',(o :: l)[k]? = some o' → Kq P ops w0 o' (c k) (c (k + 1)):=fun s' hs hl=>by
      obtain ⟨c,h0,hQ,hc⟩:=Yu l s' hl
      refine ⟨fun k=>match k with | 0=>s | k + 1=>c k,rfl,hQ,fun k o' hk=>?_⟩
      cases k with
      | zero=>
        simp only [List.getElem?_cons_zero,Option.some.injEq] at hk
        subst hk
        show Kq P ops w0 o s (c 0)
        rw [h0]
        exact hs
      | succ k=>exact hc k o' (by simpa using hk)
    simp only [wpF] at h
    split at h
    · rename_i ha
      exact cons s (.inl ⟨ha,rfl⟩) h
    · rename_i ha
      have ha' : Qs o = none:=by simpa using ha
      split at h
      · rename_i hw
        obtain ⟨v,hv,h⟩:=h
        exact cons _ (.inr ⟨ha',v,rfl,.inl ⟨hw,hv.1,hv.2⟩⟩) h
      · rename_i hw
        exact cons _ (.inr ⟨ha',undef,rfl,.inr ⟨by simpa using hw,rfl⟩⟩) h
structure FloatBase (ops : Array Oper) (n : Nat) : Prop where
  sel : Region.noSelect ops = true
  lt : n ≤ ops.size
  back : ∀ k o,k < n → ops[k]? = some o → ∀ e ∈ o.after,Region.binds .any e = true → e.on < k
  one : ∀ j k oj o d,j < n → k < n → ops[j]? = some oj → ops[k]? = some o → oj.dst = some d → o.dst = some d → j = k
  reads : ∀ j k oj o d,j < n → k < n → ops[j]? = some oj → ops[k]? = some o → oj.dst = some d → d ∈ K8 ops o → j < k ∧ Region.waitsFor .any ops k j = true ∧ Qs oj = none
structure zD (ops : Array Oper) (n : Nat) : Prop extends FloatBase ops n where
  lts : n < ops.size
  sink : Region.sinkB .any ops n = true
  chain : Region.chainB .any ops n = true
  seq : Region.seqB .any ops (ops.size - n) n (Ju n ops.size) = true
theorem Wn {n : Nat} (h : ∀ k o,k < n → ops[k]? = some o → ∀ j,j < n → Sc ops j k o = true) :
    (∀ j k oj o d,j < n → k < n → ops[j]? = some oj → ops[k]? = some o → oj.dst = some d → o.dst = some d → j = k) ∧
    (∀ j k oj o d,j < n → k < n → ops[j]? = some oj → ops[k]? = some o → oj.dst = some d → d ∈ K8 ops o → j < k ∧ Region.waitsFor .any ops k j = true ∧ Qs oj = none):=by
  refine ⟨fun j k oj o d hj hkn hoj ho hd hd2=>?_,fun j k oj o d hj hkn hoj ho hd hr=>?_⟩
  · have:=h k o hkn ho j hj
    simp only [Sc,hoj,hd,Bool.and_eq_true,Bool.or_eq_true,decide_eq_true_eq] at this
    rcases this.1 with h | h
    · exact h
    · exact absurd hd2 h
  · have:=h k o hkn ho j hj
    simp only [Sc,hoj,hd,Bool.and_eq_true,Bool.or_eq_true,decide_eq_true_eq] at this
    rcases this.2 with h | h
    · have : (K8 ops o).contains d = true:=by simpa using hr
      rw [this] at h
      cases h
    · exact ⟨h.1.1,h.1.2,by simpa using h.2⟩
theorem Zf {o : Oper} {k : Nat} (h : (o.after.toList.all fun e=>!Region.binds .any e || decide (e.on < k)) = true) : ∀ e ∈ o.after,Region.binds .any e = true → e.on < k:=fun e he hb=>by
  have:=List.all_eq_true.1 h e (by simpa using he)
  rw [hb] at this
  simpa using this
theorem fO {n : Nat} (h : pG ops n = true) : zD ops n:=by
  unfold pG at h
  simp only [Bool.and_eq_true,decide_eq_true_eq] at h
  obtain ⟨⟨⟨⟨⟨h1,h2⟩,h3⟩,h4⟩,h5⟩,h6⟩:=h
  have hk : ∀ k o,k < n → ops[k]? = some o → (o.after.toList.all fun e=>!Region.binds .any e || decide (e.on < k)) = true ∧ ∀ j,j < n → Sc ops j k o = true:=fun k o hk ho=>by
    have:=List.all_eq_true.1 h6 k (List.mem_range.2 hk)
    simp only [ho,Bool.and_eq_true] at this
    exact ⟨this.1,fun j hj=>List.all_eq_true.1 this.2 j (List.mem_range.2 hj)⟩
  have hf:=Wn (n:=n) fun k o hkn ho=>(hk k o hkn ho).2
  exact ⟨⟨h1,Nat.le_of_lt h2,fun k o hkn ho e he hb=>Zf (hk k o hkn ho).1 e he hb,hf.1,hf.2⟩,h2,h3,h4,h5⟩
theorem Ua {s : Array Value} {dst : Option Tmp} {v : Value} {d : Tmp} (h : dst ≠ some d) : (Fb s dst v)[d]? = s[d]?:=by
  cases dst with
  | none=>rfl
  | some e=>exact Array.getElem?_setIfInBounds_ne (fun q=>h (by rw [q]))
theorem Qj (s : Array Value) (dst : Option Tmp) (v : Value) : (Fb s dst v).size = s.size:=by cases dst <;> simp [Fb]
theorem zW {s s' : Array Value} (hs : s.size = s'.size) (d : Tmp) (v : Value) : (Fb s (some d) v)[d]? = (Fb s' (some d) v)[d]?:=by
  simp only [Fb,Array.getElem?_setIfInBounds_self,hs]
theorem Kq.ne {o : Oper} {s s' : Array Value} (h : Kq P ops w0 o s s') {d : Tmp} (hd : o.dst ≠ some d) : s'[d]? = s[d]?:=by
  rcases h with ⟨_,rfl⟩ | ⟨_,v,rfl,_⟩
  · rfl
  · exact Ua hd
theorem Kq.al {o : Oper} {s s' : Array Value} (h : Kq P ops w0 o s s') (ha : (Qs o).isSome = true) : s' = s:=by
  rcases h with ⟨_,rfl⟩ | ⟨h,_⟩
  · rfl
  · rw [h] at ha; cases ha
theorem Kq.size {o : Oper} {s s' : Array Value} (h : Kq P ops w0 o s s') : s'.size = s.size:=by
  rcases h with ⟨_,rfl⟩ | ⟨_,v,rfl,_⟩
  · rfl
  · exact Qj _ _ _
structure Jy (P : Program) (ops : Array Oper) (w0 : World) (n : Nat) (c : Nat → Array Value) (listed : Array Bool) (s : Array Value) (w : World) (js : Nat → Nat) : Prop where
  size : s.size = (c 0).size
  old : ∀ d,(∀ j o,j < n → listed.getD j false = true → ops[j]? = some o → o.dst ≠ some d) → s[d]? = (c 0)[d]?
  new : ∀ j o d,j < n → listed.getD j false = true → ops[j]? = some o → Qs o = none → o.dst = some d → s[d]? = (c (j + 1))[d]?
  al : ∀ j o d T,j < n → listed.getD j false = true → ops[j]? = some o → Qs o = some (d,T) → (d < s.size → s[d]? = some (.pointer (some ⟨js j,0,none⟩))) ∧ ∃ z,Nv P T = some z ∧ w.heap[js j]? = some (.cells z.cells T (0,0)) ∧ w0.heap.size ≤ js j
  dis : ∀ j k oj ok,j < n → k < n → listed.getD j false = true → listed.getD k false = true → ops[j]? = some oj → ops[k]? = some ok → (Qs oj).isSome = true → (Qs ok).isSome = true → js j = js k → j = k
  below : Below w0.heap.size w0 w
def left (n : Nat) (listed : Array Bool) : Nat:=(List.range n).countP fun j=>!listed.getD j false
theorem Vi {listed : Array Bool} {i : Nat} (hu : listed.getD i false = false) (hs : i < listed.size) : ∀ n,(i < n → left n (listed.setIfInBounds i true) + 1 = left n listed) ∧ (n ≤ i → left n (listed.setIfInBounds i true) = left n listed)
  | 0=>⟨fun h=>absurd h (Nat.not_lt_zero _),fun _=>rfl⟩
  | n + 1=>by
    have ih:=Vi hu hs n
    have e : ∀ l : Array Bool,left (n + 1) l = left n l + (if l.getD n false = true then 0 else 1):=fun l=>by
      simp only [left,List.range_succ,List.countP_append,List.countP_singleton]
      cases l.getD n false <;> rfl
    rw [e,e]
    by_cases h : i = n
    · subst h
      have h1 : (listed.setIfInBounds i true).getD i false = true:=by simp [hs]
      rw [h1,hu,ih.2 (Nat.le_refl _)]
      exact ⟨fun _=>rfl,fun h=>absurd h (by omega)⟩
    · rw [getD_set_ne false h]
      refine ⟨fun h2=>?_,fun h2=>?_⟩
      · have:=ih.1 (by omega); omega
      · have:=ih.2 (by omega); omega
theorem O4 {listed : Array Bool} : ∀ n,left n listed = 0 → ∀ j,j < n → listed.getD j false = true:=fun n h j hj=>by
  have:=List.countP_eq_zero.1 h j (List.mem_range.2 hj)
  simpa using this
theorem Vj {listed : Array Bool} : ∀ n,left n listed ≠ 0 → ∃ j,j < n ∧ listed.getD j false = false ∧ ∀ i,i < j → listed.getD i false = true
  | 0,h=>absurd rfl h
  | n + 1,h=>by
    by_cases h0 : left n listed = 0
    · refine ⟨n,by omega,?_,O4 n h0⟩
      have e : left (n + 1) listed = left n listed + (if listed.getD n false = true then 0 else 1):=by
        simp only [left,List.range_succ,List.countP_append,List.countP_singleton]
        cases listed.getD n false <;> rfl
      rw [e,h0] at h
      cases hb : listed.getD n false with
      | false=>rfl
      | true=>rw [hb] at h; exact absurd rfl h
    · obtain ⟨j,h1,h2,h3⟩:=Vj n h0
      exact ⟨j,by omega,h2,h3⟩
theorem Lu {n : Nat} {c : Nat → Array Value} (hc : ∀ k o,k < n → ops[k]? = some o → Kq P ops w0 o (c k) (c (k + 1))) {d : Tmp} {i : Nat} : ∀ k,i ≤ k → k ≤ n → (∀ j o,i ≤ j → j < k → ops[j]? = some o → o.dst ≠ some d ∨ (Qs o).isSome = true) → n ≤ ops.size → (c k)[d]? = (c i)[d]?
  | 0,h,_,_,_=>by
    have : i = 0:=by omega
    rw [this]
  | k + 1,h,hn,hq,hs=>by
    by_cases e : i = k + 1
    · rw [e]
    · have hk : k < ops.size:=by omega
      have ho : ops[k]? = some ops[k]:=Array.getElem?_eq_getElem hk
      have hst:=hc k _ (by omega) ho
      rw [← Lu hc k (by omega) (by omega) (fun j o h1 h2=>hq j o h1 (by omega)) hs]
      rcases hq k _ (by omega) (by omega) ho with h1 | h1
      · exact hst.ne h1
      · rw [hst.al h1]
theorem Ti {n : Nat} {c : Nat → Array Value} (hc : ∀ k o,k < n → ops[k]? = some o → Kq P ops w0 o (c k) (c (k + 1))) (hs : n ≤ ops.size) : ∀ k,k ≤ n → (c k).size = (c 0).size
  | 0,_=>rfl
  | k + 1,hk=>by
    have ho : ops[k]? = some ops[k]:=Array.getElem?_eq_getElem (by omega)
    rw [(hc k _ (by omega) ho).size,Ti hc hs k (by omega)]
theorem Jy.reads {n : Nat} {c : Nat → Array Value} {listed : Array Bool} {s : Array Value} {w : World} {js : Nat → Nat} (inv : Jy P ops w0 n c listed s w js) (F : FloatBase ops n)
    (hc : ∀ k o,k < n → ops[k]? = some o → Kq P ops w0 o (c k) (c (k + 1))) {i : Nat} {o : Oper} (hi : i < n) (ho : ops[i]? = some o) (hr : i ∈ Region.ready .any ops listed) {d : Tmp} (hd : d ∈ K8 ops o) : s[d]? = (c i)[d]?:=by
  obtain ⟨_,o',ho',hall⟩:=mem_ready.1 hr
  have : o' = o:=Option.some.inj (ho'.symm.trans ho)
  subst this
  have hsz : n ≤ ops.size:=F.lt
  by_cases hx : ∃ j oj,j < n ∧ ops[j]? = some oj ∧ oj.dst = some d
  · obtain ⟨j,oj,hj,hoj,hdj⟩:=hx
    obtain ⟨hji,hwt,hal⟩:=F.reads j i oj o' d hj hi hoj ho hdj hd
    obtain ⟨o2,ho2,e,he,hb,hon⟩:=Region.waitsFor_spec hwt
    have : o2 = o':=Option.some.inj (ho2.symm.trans ho)
    subst this
    have hl:=hall e he hb
    rw [hon] at hl
    rw [inv.new j oj d hj hl hoj hal hdj]
    refine (Lu hc i (by omega) (by omega) (fun k ok h1 h2 hk=>?_) hsz).symm
    by_cases q : ok.dst = some d
    · have:=F.one j k oj ok d hj (by omega) hoj hk hdj q
      omega
    · exact .inl q
  · have hno : ∀ j oj,j < n → ops[j]? = some oj → oj.dst ≠ some d:=fun j oj hj hoj hdj=>hx ⟨j,oj,hj,hoj,hdj⟩
    rw [inv.old d fun j oj hj _ hoj=>hno j oj hj hoj]
    exact (Lu hc i (by omega) (by omega) (fun k ok h1 h2 hk=>.inl (hno k ok (by omega) hk)) hsz).symm
theorem Jy.evals {n : Nat} {c : Nat → Array Value} {listed : Array Bool} {s : Array Value} {w : World} {js : Nat → Nat} (inv : Jy P ops w0 n c listed s w js) (F : FloatBase ops n)
    (hc : ∀ k o,k < n → ops[k]? = some o → Kq P ops w0 o (c k) (c (k + 1))) {i : Nat} {o : Oper} (hi : i < n) (ho : ops[i]? = some o) (hr : i ∈ Region.ready .any ops listed) :
    execOp (Fh s).eval o = execOp (Fh (c i)).eval o ∧ Region.wanted o (yielded ops s) = Region.wanted o (yielded ops (c i)):=by
  have key : ∀ d,d ∈ K8 ops o → s[d]? = (c i)[d]?:=fun d hd=>inv.reads F hc hi ho hr hd
  constructor
  · refine execOp_congr o (fun cs b=>Region.noSelect_spec F.sel i o cs b ho) fun x hx=>?_
    cases x with
    | tmp d=>
      have h1:=key d (by
        unfold K8
        refine List.mem_append_left _ (List.mem_filterMap.2 ⟨.tmp d,by simpa using hx,rfl⟩))
      show s.getD d undef = (c i).getD d undef
      simp only [Array.getD_eq_getD_getElem?,h1]
    | _=>rfl
  · unfold Region.wanted
    cases hg : o.guard with
    | none=>rfl
    | some jw=>
      obtain ⟨j,want⟩:=jw
      have : yielded ops s j = yielded ops (c i) j:=by
        unfold yielded
        cases hd : (ops[j]?).bind (·.dst) with
        | none=>rfl
        | some d=>
          have h1:=key d (by
            unfold K8
            refine List.mem_append_right _ ?_
            simp [hg,hd])
          simp only [Option.bind_some,h1]
      simp only [this]
theorem Jy.put {n : Nat} {c : Nat → Array Value} {listed : Array Bool} {s : Array Value} {w w2 : World} {js : Nat → Nat} (inv : Jy P ops w0 n c listed s w js) (F : FloatBase ops n)
    (hc : ∀ k o,k < n → ops[k]? = some o → Kq P ops w0 o (c k) (c (k + 1))) (hsz : listed.size = ops.size) {i : Nat} {o : Oper} (hi : i < n) (ho : ops[i]? = some o) (ha : Qs o = none) {v : Value} (hv : c (i + 1) = Fb (c i) o.dst v) (hb : Below w.heap.size w w2) :
    Jy P ops w0 n c (listed.setIfInBounds i true) (Fb s o.dst v) w2 js:=by
  have hlt : i < listed.size:=by have:=F.lt; omega
  have other : ∀ {j},j ≠ i → (listed.setIfInBounds i true).getD j false = true → listed.getD j false = true:=fun hj h=>by rwa [getD_set_ne false (Ne.symm hj)] at h
  refine ⟨(Qj _ _ _).trans inv.size,fun d hd=>?_,fun j oj d hj hl hoj haj hdj=>?_,fun j oj d T hj hl hoj haj=>?_,fun j k oj ok hj hk hl hl2 hoj hok h1 h2 he=>?_,inv.below.trans (hb.mono inv.below.size)⟩
  · have h1:=hd i o hi (by simp [hlt]) ho
    rw [Ua h1]
    exact inv.old d fun j oj hj hl hoj=>hd j oj hj (getD_set_true hl) hoj
  · by_cases e : j = i
    · subst e
      have : oj = o:=Option.some.inj (hoj.symm.trans ho)
      subst this
      rw [hv,hdj]
      exact zW (by rw [inv.size,Ti hc (F.lt) j (by omega)]) d v
    · have hne : o.dst ≠ some d:=fun q=>e (F.one j i oj o d hj hi hoj ho hdj q)
      rw [Ua hne]
      exact inv.new j oj d hj (other e hl) hoj haj hdj
  · have e : j ≠ i:=fun q=>by
      subst q
      have : oj = o:=Option.some.inj (hoj.symm.trans ho)
      subst this
      rw [ha] at haj; cases haj
    obtain ⟨k1,z,k2,k3,k4⟩:=inv.al j oj d T hj (other e hl) hoj haj
    have hne : o.dst ≠ some d:=fun q=>e (F.one j i oj o d hj hi hoj ho (Mg haj).2.2 q)
    refine ⟨fun h=>by rw [Ua hne]; exact k1 (by rw [Qj] at h; exact h),z,k2,?_,k4⟩
    rw [hb.block _ (Array.getElem?_eq_some_iff.1 k3).1]
    exact k3
  · have e1 : j ≠ i:=fun q=>by
      subst q
      have : oj = o:=Option.some.inj (hoj.symm.trans ho)
      subst this
      rw [ha] at h1; cases h1
    have e2 : k ≠ i:=fun q=>by
      subst q
      have : ok = o:=Option.some.inj (hok.symm.trans ho)
      subst this
      rw [ha] at h2; cases h2
    exact inv.dis j k oj ok hj hk (other e1 hl) (other e2 hl2) hoj hok h1 h2 he
theorem Jy.make {n : Nat} {c : Nat → Array Value} {listed : Array Bool} {s : Array Value} {w : World} {js : Nat → Nat} (inv : Jy P ops w0 n c listed s w js) (F : FloatBase ops n)
    (hsz : listed.size = ops.size) {i : Nat} {o : Oper} (hi : i < n) (ho : ops[i]? = some o) {d0 : Tmp} {T0 : TypeId} (ha : Qs o = some (d0,T0)) {z : Value} (hz : Nv P T0 = some z) (hu : listed.getD i false = false) :
    Jy P ops w0 n c (listed.setIfInBounds i true) (Fb s o.dst (.pointer (some ⟨w.heap.size,0,none⟩))) (w.alloc (.cells z.cells T0)) (fun j=>if j = i then w.heap.size else js j):=by
  have hlt : i < listed.size:=by have:=F.lt; omega
  have hd0:=(Mg ha).2.2
  have other : ∀ {j},j ≠ i → (listed.setIfInBounds i true).getD j false = true → listed.getD j false = true:=fun hj h=>by rwa [getD_set_ne false (Ne.symm hj)] at h
  have below : Below w0.heap.size w0 (w.alloc (.cells z.cells T0)):=inv.below.trans ⟨rfl,rfl,rfl,by simp,fun k hk=>heap_alloc_old w _ k (Nat.lt_of_lt_of_le hk inv.below.size)⟩
  have lt : ∀ j oj d T,j < n → listed.getD j false = true → ops[j]? = some oj → Qs oj = some (d,T) → js j < w.heap.size:=fun j oj d T hj hl hoj haj=>by
    obtain ⟨_,z,_,k3,_⟩:=inv.al j oj d T hj hl hoj haj
    exact (Array.getElem?_eq_some_iff.1 k3).1
  refine ⟨(Qj _ _ _).trans inv.size,fun d hd=>?_,fun j oj d hj hl hoj haj hdj=>?_,fun j oj d T hj hl hoj haj=>?_,fun j k oj ok hj hk hl hl2 hoj hok h1 h2 he=>?_,below⟩
  · have h1:=hd i o hi (by simp [hlt]) ho
    rw [Ua h1]
    exact inv.old d fun j oj hj hl hoj=>hd j oj hj (getD_set_true hl) hoj
  · have e : j ≠ i:=fun q=>by
      subst q
      have : oj = o:=Option.some.inj (hoj.symm.trans ho)
      subst this
      rw [ha] at haj; cases haj
    have hne : o.dst ≠ some d:=fun q=>e (F.one j i oj o d hj hi hoj ho hdj q)
    rw [Ua hne]
    exact inv.new j oj d hj (other e hl) hoj haj hdj
  · by_cases e : j = i
    · subst e
      have : oj = o:=Option.some.inj (hoj.symm.trans ho)
      subst this
      rw [ha] at haj
      simp only [Option.some.injEq,Prod.mk.injEq] at haj
      obtain ⟨rfl,rfl⟩:=haj
      refine ⟨fun h=>?_,z,hz,?_,?_⟩
      · rw [hd0]
        rw [Qj] at h
        simp only [Fb,Array.getElem?_setIfInBounds_self,h,if_true]
      · simp only [if_true]
        exact heap_alloc_new w _
      · simp only [if_true]
        exact inv.below.size
    · obtain ⟨k1,z',k2,k3,k4⟩:=inv.al j oj d T hj (other e hl) hoj haj
      have hne : o.dst ≠ some d:=fun q=>e (F.one j i oj o d hj hi hoj ho (Mg haj).2.2 q)
      simp only [if_neg e]
      refine ⟨fun h=>by rw [Ua hne]; exact k1 (by rw [Qj] at h; exact h),z',k2,?_,k4⟩
      rw [heap_alloc_old _ _ _ (Array.getElem?_eq_some_iff.1 k3).1]
      exact k3
  · have get : ∀ {oj},(Qs oj).isSome = true → ∃ d T,Qs oj = some (d,T):=fun {oj} h=>by
      obtain ⟨⟨d,T⟩,h⟩:=Option.isSome_iff_exists.1 h
      exact ⟨d,T,h⟩
    obtain ⟨d1,T1,g1⟩:=get h1
    obtain ⟨d2,T2,g2⟩:=get h2
    by_cases e1 : j = i <;> by_cases e2 : k = i
    · rw [e1,e2]
    · simp only [if_pos e1,if_neg e2] at he
      have:=lt k ok d2 T2 hk (other e2 hl2) hok g2
      omega
    · simp only [if_neg e1,if_pos e2] at he
      have:=lt j oj d1 T1 hj (other e1 hl) hoj g1
      omega
    · simp only [if_neg e1,if_neg e2] at he
      exact inv.dis j k oj ok hj hk (other e1 hl) (other e2 hl2) hoj hok h1 h2 he
theorem f6 {n : Nat} {c : Nat → Array Value} {Q : Exit → Act → World → Prop} (F : zD ops n) (hc : ∀ k o,k < n → ops[k]? = some o → Kq P ops w0 o (c k) (c (k + 1)))
    (hz : ∀ k o d T,k < n → ops[k]? = some o → Qs o = some (d,T) → ∃ z,Nv P T = some z)
    (hQ : ∀ s w js,Jy P ops w0 n c (Ju n ops.size) s w js → wpAny P .any ops Q (ops.size - n) (Ju n ops.size) (Fh s) w) :
    ∀ (f : Nat) (listed : Array Bool) (s : Array Value) (w : World) (js : Nat → Nat),HeadInv .any ops n listed → left n listed = f → Jy P ops w0 n c listed s w js → wpAny P .any ops Q (f + (ops.size - n)) listed (Fh s) w
  | 0,listed,s,w,js,hd,hf,inv=>by
    have e : listed = Ju n ops.size:=by
      refine Array.ext (by rw [hd.size]; simp [Ju]) fun i h1 h2=>?_
      simp only [Ju,List.getElem_toArray,List.getElem_map,List.getElem_range]
      by_cases hi : i < n
      · have:=O4 n hf i hi
        simp only [hi,decide_true]
        simpa [Array.getD,h1] using this
      · have:=hd.tail i (by omega) (by rw [← hd.size]; exact h1)
        simp only [hi,decide_false]
        simpa [Array.getD,h1] using this
    rw [Nat.zero_add,e]
    exact hQ s w js (e ▸ inv)
  | f + 1,listed,s,w,js,hd,hf,inv=>by
    obtain ⟨i0,hi0,hu0,hmin⟩:=Vj n (by omega : left n listed ≠ 0)
    have hsz:=hd.size
    have hlt:=F.lt
    have r0 : i0 ∈ Region.ready .any ops listed:=mem_ready.2 ⟨getD_in (by omega) hu0,_,Array.getElem?_eq_getElem (by omega),fun e he hb=>hmin _ (F.back i0 _ hi0 (Array.getElem?_eq_getElem (by omega)) e he hb)⟩
    rw [show f + 1 + (ops.size - n) = (f + (ops.size - n)) + 1 by omega]
    refine ⟨fun h=>(by rw [h] at r0; cases r0),fun i hi=>?_⟩
    have hin : i < n:=by
      rcases Nat.lt_or_ge i n with h | h
      · exact h
      · exact absurd hi (tail_waits F.sink F.chain F.lts hd _ i0 rfl hi0 (getD_in (by omega) hu0) i h)
    obtain ⟨hiu,o,ho,hall⟩:=mem_ready.1 hi
    have hu:=getD_both hiu
    have hnext:=hd.set hi hin
    have hleft : left n (listed.setIfInBounds i true) = f:=by have:=(Vi hu (by omega : i < listed.size) n).1 hin; omega
    have go : ∀ s2 w2 js2,Jy P ops w0 n c (listed.setIfInBounds i true) s2 w2 js2 → wpAny P .any ops Q (f + (ops.size - n)) (listed.setIfInBounds i true) (Fh s2) w2:=fun s2 w2 js2 inv2=>
      f6 F hc hz hQ f _ s2 w2 js2 hnext hleft inv2
    unfold wpOp
    simp only [ho]
    have hev:=inv.evals F.toFloatBase hc hin ho hi
    have hw : Region.wanted o (yielded ops (Fh s).tmps) = Region.wanted o (yielded ops (c i)):=hev.2
    rcases hc i o hin ho with ⟨ha,_⟩ | ⟨ha,v,hv,hx⟩
    · obtain ⟨⟨d,T⟩,hT⟩:=Option.isSome_iff_exists.1 ha
      obtain ⟨z,hz'⟩:=hz i o d T hin ho hT
      obtain ⟨hop,hg,hdst⟩:=Mg hT
      have hw1 : Region.wanted o (yielded ops (Fh s).tmps) = true:=by simp [Region.wanted,hg]
      rw [if_pos hw1]
      left
      unfold Oper.wp
      have hrun : (execOp (Fh s).eval o).run P w = .ok (.value (.pointer (some ⟨w.heap.size,0,none⟩))) (w.alloc (.cells z.cells T)):=by
        simp only [execOp,hop,Instr.alloc,Sem.run_bind,Lo hz' w,Result.andThen_ok]
        rfl
      rw [hrun,Oper.upon_value,Dl]
      exact go _ _ _ (inv.make F.toFloatBase hsz hin ho hT hz' hu)
    · rcases hx with ⟨hw1,hst,_⟩ | ⟨hw1,rfl⟩
      · rw [if_pos (hw.trans hw1)]
        left
        unfold Oper.wp
        rw [hev.1]
        rcases hst w inv.below with hr | ⟨g,args,hr,hcall⟩
        · rw [hr,Oper.upon_value,Dl]
          exact go _ _ _ (inv.put F.toFloatBase hc hsz hin ho ha hv (Below.refl _ _))
        · rw [hr]
          refine hcall.mono ?_
          rintro e w2 ⟨rfl,hb⟩
          show wpAny P .any ops Q (f + (ops.size - n)) (listed.setIfInBounds i true) ((Fh s).put o.dst v) w2
          rw [Dl]
          exact go _ _ _ (inv.put F.toFloatBase hc hsz hin ho ha hv hb)
      · rw [if_neg (by rw [hw,hw1]; simp),Dl]
        exact go _ _ _ (inv.put F.toFloatBase hc hsz hin ho ha hv (Below.refl _ _))
theorem fX {id : Nat} {Q : Exit → Act → World → Prop} {s : Array Value} {w : World} (n : Nat) (hm : P.follows .mixedOrders = true) (hB : pG ops n = true)
    (hz : ∀ k o d T,k < n → ops[k]? = some o → Qs o = some (d,T) → ∃ z,Nv P T = some z)
    (h : wpF P ops { w with drawn:=w.drawn + 1 } (fun s1=>∀ (c : Nat → Array Value) s2 w' js,c n = s1 → (∀ k o,k < n → ops[k]? = some o → Kq P ops { w with drawn:=w.drawn + 1 } o (c k) (c (k + 1))) → Jy P ops { w with drawn:=w.drawn + 1 } n c (Ju n ops.size) s2 w' js → wpList P ops Q (ops.toList.drop n) (Fh s2) w') (ops.toList.take n) s) :
    (Code.region id ops true).wp P Q (Fh s) w:=by
  have F:=fO hB
  have hlt:=F.lt
  obtain ⟨c,h0,hQ,hc⟩:=Yu _ _ h
  have hln : (ops.toList.take n).length = n:=by rw [List.length_take,Array.length_toList]; omega
  have hc' : ∀ k o,k < n → ops[k]? = some o → Kq P ops { w with drawn:=w.drawn + 1 } o (c k) (c (k + 1)):=fun k o hk ho=>hc k o (by rw [List.getElem?_take_of_lt hk,Array.getElem?_toList]; exact ho)
  rw [hln] at hQ
  refine wp_region_any hm ?_
  have rep : ∀ j,(Array.replicate ops.size false).getD j false = false:=fun j=>getD_replicate_false _ _
  have H:=f6 (Q:=Q) F hc' hz (fun s2 w2 js inv=>by
    have:=wpAny_of_seq (md:=.any) (Q':=Q) (P:=P) (ops.toList.drop n) n (Ju n ops.size) (Fh s2) w2 (fun j=>by rw [List.getElem?_drop,Array.getElem?_toList]) (by rw [List.length_drop,Array.length_toList]; exact F.seq) (hQ c s2 w2 js rfl hc' inv)
    rwa [List.length_drop,Array.length_toList] at this) n (Array.replicate ops.size false) s { w with drawn:=w.drawn + 1 } (fun _=>0)
    ⟨by simp,fun j oj _ hl=>(by rw [rep] at hl; cases hl),fun t _ ht=>getD_in (by simpa using ht) (rep _)⟩
    (by
      have : ∀ k,left k (Array.replicate ops.size false) = k:=fun k=>by
        induction k with
        | zero=>rfl
        | succ k ih=>
          have e : left (k + 1) (Array.replicate ops.size false) = left k (Array.replicate ops.size false) + 1:=by
            simp only [left,List.range_succ,List.countP_append,List.countP_singleton,rep]
            rfl
          rw [e,ih]
      exact this n)
    ⟨by rw [h0],fun d _=>by rw [h0],fun j o d hj hl=>(by rw [rep] at hl; cases hl),fun j o d T hj hl=>(by rw [rep] at hl; cases hl),fun j k oj ok hj hk hl=>(by rw [rep] at hl; cases hl),Below.refl _ _⟩
  rw [show n + (ops.size - n) = ops.size by omega] at H
  exact H
end
theorem RH.snoc {m : List Nat} {H : List C6} {w : World} (h : RH m H w) {cs cs' : Array Value} {T : TypeId} {j : Nat} (hT : T < 1000000) (hj : w.heap[j]? = some (.cells cs' T (0,0))) (hr : RA m cs cs') (hn : j ∉ m) : RH (m ++ [j]) (H ++ [(cs,T)]) w:=by
  refine ⟨by simp [h.len],?_,fun i k b hk hb=>?_⟩
  · rw [List.nodup_append]
    exact ⟨h.nodup,by simp,fun a ha b hb=>by
      simp at hb
      subst hb
      exact fun e=>hn (e ▸ ha)⟩
  · by_cases hi : i < m.length
    · rw [List.getElem?_append_left hi] at hk
      rw [List.getElem?_append_left (by rw [← h.len]; exact hi)] at hb
      obtain ⟨cs2,hc,hr2⟩:=h.blk i k b hk hb
      exact ⟨cs2,hc,hr2.mono _⟩
    · have hi' : i = m.length:=by
        have:=(List.getElem?_eq_some_iff.1 hk).1
        simp at this; omega
      subst hi'
      rw [List.getElem?_append_right (Nat.le_refl _)] at hk
      rw [List.getElem?_append_right (by rw [h.len]; exact Nat.le_refl _)] at hb
      simp at hk
      simp [h.len] at hb
      subst hk; subst hb
      exact ⟨cs',by rw [Vl hT]; exact hj,hr.mono _⟩
def F4 (ops : Array Oper) (n : Nat) : List (Nat × Tmp × TypeId):=(List.range n).filterMap fun k=>((ops[k]?).bind Qs).map fun p=>(k,p.1,p.2)
def dF (P : Program) (ops : Array Oper) (n : Nat) : Bool:=(F4 ops n).all fun x=>match Nv P x.2.2 with | some z=>z.cells.toList.all Cz | none=>false
theorem Fs {ops : Array Oper} {n : Nat} {x : Nat × Tmp × TypeId} : x ∈ F4 ops n ↔ x.1 < n ∧ ∃ o,ops[x.1]? = some o ∧ Qs o = some (x.2.1,x.2.2):=by
  obtain ⟨k,d,T⟩:=x
  simp only [F4,List.mem_filterMap,List.mem_range,Option.map_eq_some_iff,Option.bind_eq_some_iff]
  constructor
  · rintro ⟨a,ha,⟨d',T'⟩,⟨o,ho,hal⟩,he⟩
    simp only [Prod.mk.injEq] at he
    obtain ⟨rfl,rfl,rfl⟩:=he
    exact ⟨ha,o,ho,hal⟩
  · rintro ⟨ha,o,ho,hal⟩
    exact ⟨k,ha,(d,T),⟨o,ho,hal⟩,rfl⟩
def Z5 (P : Program) : List (Nat × Tmp × TypeId) → Array Value → List C6 → Option (Array Value × List C6)
  | [],t,H=>some (t,H)
  | x :: l,t,H=>match Nv P x.2.2 with
    | some z=>if x.2.2 < 1000000 then Z5 P l (Fb t (some x.2.1) (.pointer (some ⟨H.length,0,none⟩))) (H ++ [(z.cells,x.2.2)]) else none
    | none=>none
theorem eM {P : Program} {s : Array Value} {w : World} {js : Nat → Nat} : ∀ (L : List (Nat × Tmp × TypeId)) (t : Array Value) (H : List C6) (m : List Nat) (t2 : Array Value) (H2 : List C6),Z5 P L t H = some (t2,H2) → t.size = s.size →
    (∀ d v v',t[d]? = some v → s[d]? = some v' → (∀ x ∈ L,x.2.1 ≠ d) → VR m v v') → RH m H w →
    (∀ x ∈ L,(x.2.1 < s.size → s[x.2.1]? = some (.pointer (some ⟨js x.1,0,none⟩))) ∧ ∃ z,Nv P x.2.2 = some z ∧ z.cells.toList.all Cz = true ∧ w.heap[js x.1]? = some (.cells z.cells x.2.2 (0,0))) →
    (∀ x ∈ L,js x.1 ∉ m) → (L.map fun x=>js x.1).Nodup → RA (m ++ L.map fun x=>js x.1) t2 s ∧ RH (m ++ L.map fun x=>js x.1) H2 w
  | [],t,H,m,t2,H2,h,hs,hm,hH,_,_,_=>by
    simp only [Z5,Option.some.injEq,Prod.mk.injEq] at h
    obtain ⟨rfl,rfl⟩:=h
    simp only [List.map_nil,List.append_nil]
    exact ⟨⟨hs,fun i v v' h1 h2=>hm i v v' h1 h2 (fun x hx=>by cases hx)⟩,hH⟩
  | x :: L,t,H,m,t2,H2,h,hs,hm,hH,hL,hf,hn=>by
    obtain ⟨hp,z,hz,hfl,hc⟩:=hL x (by simp)
    simp only [Z5,hz] at h
    split at h
    case isFalse=>cases h
    rename_i hT
    have hr : RA m z.cells z.cells:=⟨rfl,fun i v v' h1 h2=>by rw [h1] at h2; cases h2; exact .pl _ (Mz hfl h1)⟩
    have hx:=hf x (by simp)
    simp only [List.map_cons,List.nodup_cons] at hn
    have:=eM L _ _ (m ++ [js x.1]) t2 H2 h (by rw [Qj]; exact hs) (fun d v v' h1 h2 h3=>by
      by_cases e : x.2.1 = d
      · subst e
        have hlt : x.2.1 < s.size:=(Array.getElem?_eq_some_iff.1 h2).1
        rw [hp hlt] at h2
        simp only [Fb,Array.getElem?_setIfInBounds_self,hs,hlt,if_true] at h1
        cases h1; cases h2
        exact .ptr _ _ _ _ (by rw [← hH.len]; simp)
      · rw [Ua (fun q=>e (Option.some.inj q))] at h1
        exact (hm d v v' h1 h2 (fun y hy=>by
          rcases List.mem_cons.1 hy with rfl | hy
          · exact e
          · exact h3 y hy)).mono _) (hH.snoc hT hc hr hx) (fun y hy=>hL y (by simp [hy])) (fun y hy hm'=>by
      rcases List.mem_append.1 hm' with h' | h'
      · exact hf y (by simp [hy]) h'
      · simp at h'
        exact hn.1 (List.mem_map.2 ⟨y,hy,h'⟩)) hn.2
    simpa [List.append_assoc] using this
def oK (P : Program) (E : V4) (ops : Array Oper) (H : List C6) (K : Array Value → T) : List Oper → Array Value → T
  | [],t=>K t
  | o :: rest,t=>if (Qs o).isSome = true then oK P E ops H K rest t else Pz ops o t (fun t=>xM P E o t H fun t=>oK P E ops H K rest t) (fun t=>oK P E ops H K rest (Fb t o.dst undef))
section
variable {P : Program} {E : V4} {f : FuncId}
theorem cI (hE : Nl P E) {ops : Array Oper} {K : Array Value → T} {R : Value → List C6 → Prop} {m : List Nat} {H : List C6} {w : World} (hH : RH m H w) {Q : Array Value → Prop}
    (hQ : ∀ t t',RA m t t' → Ac P f R (K t) → Q t') :
    ∀ (l : List Oper) (t t' : Array Value),RA m t t' → Ac P f R (oK P E ops H K l t) → wpF P ops w Q l t'
  | [],t,t',ht,h=>hQ t t' ht h
  | o :: l,t,t',ht,h=>by
    have ih:=fun t t'=>cI (ops:=ops) hE hH hQ l t t'
    have hC : ∀ {w'},Below w.heap.size w w' → RH m H w':=fun hb=>hH.below hb
    simp only [wpF]
    simp only [oK] at h
    by_cases ha : (Qs o).isSome = true
    · rw [if_pos ha] at h ⊢
      exact ih t t' ht h
    · rw [if_neg ha] at h ⊢
      have quiet : ∀ (u u' : Value),VR m u u' → (∀ w',Below w.heap.size w w' → ∃ x,(execOp (Fh t').eval o).run P w' = .ok (.value x) w' ∧ VR m u x) → (Is o = true → ∀ w',∃ x,(execOp (Fh t').eval o).run P w' = .ok (.value x) w' ∧ VR m u x) →
          (∀ T x j off,o.op = .load T x → (Fh t').eval x = .pointer (some ⟨j,off,none⟩) → ∀ w1 w',Below w.heap.size w w1 → w'.heap[j]? = w1.heap[j]? → ∃ x,(execOp (Fh t').eval o).run P w' = .ok (.value x) w' ∧ VR m u x) → Ac P f R (oK P E ops H K l (Fb t o.dst u)) →
          ∃ v,(Afi P w o (Fh t') v ∧ l5 P w o (Fh t') v) ∧ wpF P ops w Q l (Fb t' o.dst v):=fun u u' hu hr hr2 hr3 h2=>by
        refine ⟨u',⟨fun w' hw'=>?_,fun hfr w'=>?_,fun T x j off ho hx w1 w' hb hj=>?_⟩,ih _ _ (ht.put hu _) h2⟩
        · obtain ⟨x,hx,hv⟩:=hr w' hw'
          left
          rw [hx,hv.fn hu]
        · obtain ⟨x,hx,hv⟩:=hr2 hfr w'
          rw [hx,hv.fn hu]
        · obtain ⟨y,hy,hv⟩:=hr3 T x j off ho hx w1 w' hb hj
          rw [hy,hv.fn hu]
      rcases Rf ht h with ⟨hw,h⟩ | ⟨hw,h⟩
      · rw [if_pos hw]
        unfold xM at h
        split at h
        · rename_i u hu
          obtain ⟨u',_,hv⟩:=R9 (w:=w) ht (fun _=>hH) hE hu
          exact quiet u u' hv (fun w' hb=>R9 (w:=w') ht (fun _=>hC hb) hE hu) (fun hfr w'=>R9 (w:=w') ht (fun q=>absurd (hfr.symm.trans q) (by simp)) hE hu) (fun T x j off ho hx w1 w' hb hj=>Adh ht ho hu hx (hC hb) hj) h
        · rename_i c x y hu
          obtain ⟨u',_,hv⟩:=Ku (E:=E) ht hu w
          have h2:=Ob h
          cases c
          · exact quiet y u' hv (fun w' _=>Ku (E:=E) ht hu w') (fun _ w'=>Ku (E:=E) ht hu w') (fun T x j off ho _ _ _ _ _=>by rcases Y6 (P:=P) (E:=E) (t:=t) (H:=H) ho with ⟨_,q⟩ | ⟨_,q⟩ | q <;> rw [q] at hu <;> cases hu) h2
          · exact quiet x u' hv (fun w' _=>Ku (E:=E) ht hu w') (fun _ w'=>Ku (E:=E) ht hu w') (fun T x j off ho _ _ _ _ _=>by rcases Y6 (P:=P) (E:=E) (t:=t) (H:=H) ho with ⟨_,q⟩ | ⟨_,q⟩ | q <;> rw [q] at hu <;> cases hu) h2
        · rename_i c u hu
          have h2:=Ob h
          cases c
          · exact (E7 h2).elim
          · obtain ⟨u',_,hv⟩:=Sa hE ht hu rfl w
            exact quiet u u' hv (fun w' _=>Sa hE ht hu rfl w') (fun _ w'=>Sa hE ht hu rfl w') (fun T x j off ho _ _ _ _ _=>by rcases Y6 (P:=P) (E:=E) (t:=t) (H:=H) ho with ⟨_,q⟩ | ⟨_,q⟩ | q <;> rw [q] at hu <;> cases hu) h2
        · rename_i g args hu
          cases h with
          | qcall _ sel H0 args0 _ _ u hF hfl hs hcc mZ hok hk2=>
            refine ⟨u,⟨fun w' hb=>?_,fun hfr=>absurd (hfr.symm.trans (wE hu)) (by simp),(fun T x j off ho _ _ _ _ _=>by rcases Y6 (P:=P) (E:=E) (t:=t) (H:=H) ho with ⟨_,q⟩ | ⟨_,q⟩ | q <;> rw [q] at hu <;> cases hu)⟩,ih _ _ (ht.put (VR.refl_of_flat _ hfl) _) hk2⟩
            obtain ⟨args',hr,ha⟩:=O2 (E:=E) ht hu hF.1 w'
            exact .inr ⟨_,_,hr,Ww (hC hb) hF hfl hs hcc mZ hok ha⟩
        · exact (E7 h).elim
      · rw [if_neg (by rw [hw]; simp)]
        exact ih _ _ (ht.put (VR.undef _) _) h
def Lc (ops : Array Oper) : Nat:=(ops.toList.takeWhile fun o=>!gW o || (Qs o).isSome).length
def wF (P : Program) (ops : Array Oper) : Bool:=ops.toList.any (fun o=>(Qs o).isSome) && pG ops (Lc ops) && dF P ops (Lc ops)
def xE (P : Program) (E : V4) (ops : Array Oper) (K : Array Value → List C6 → T) (n : Nat) (H : List C6) (t : Array Value) : T:=
  match Z5 P (F4 ops n) t H with
  | some (t2,H2)=>Zn P E ops K (ops.toList.drop n) t2 H2
  | none=>.fail
def oB (P : Program) (E : V4) (ops : Array Oper) (draw : Bool) (K : Array Value → List C6 → T) (t : Array Value) (H : List C6) : T:=
  if (draw && wF P ops) = true then oK P E ops H (xE P E ops K (Lc ops) H) (ops.toList.take (Lc ops)) t
  else oC P E ops draw K t H
theorem rE (hE : Nl P E) (hm : P.follows .mixedOrders = true) {id : Nat} {ops : Array Oper} {draw : Bool} {K : Array Value → List C6 → T} {R : Value → List C6 → Prop} {m : List Nat} {t t' : Array Value} {H : List C6} {w : World}
    (ht : RA m t t') (hH : RH m H w) (h : Ac P f R (oB P E ops draw K t H)) : (Code.region id ops draw).wp P (QN P f m w K R) (Fh t') w:=by
  unfold oB at h
  by_cases hc : (draw && wF P ops) = true
  case neg=>rw [if_neg hc] at h; exact rF hE hm ht hH h
  rw [if_pos hc] at h
  simp only [wF,Bool.and_eq_true] at hc
  obtain ⟨rfl,⟨_,hB⟩,hA⟩:=hc
  generalize Lc ops = n at *
  have F:=fO hB
  have hsz : n ≤ ops.size:=F.lt
  have hA' : ∀ x ∈ F4 ops n,∃ z,Nv P x.2.2 = some z ∧ z.cells.toList.all Cz = true:=fun x hx=>by
    have:=List.all_eq_true.1 hA x hx
    cases hz : Nv P x.2.2 with
    | none=>simp [hz] at this
    | some z=>simp only [hz] at this; exact ⟨z,rfl,this⟩
  have hH1 : RH m H { w with drawn:=w.drawn + 1 }:=⟨hH.len,hH.nodup,hH.blk⟩
  refine fX n hm hB (fun k o d T hk ho hal=>?_) ?_
  · obtain ⟨z,hz,_⟩:=hA' (k,d,T) (Fs.2 ⟨hk,o,ho,hal⟩)
    exact ⟨z,hz⟩
  · refine cI hE hH1 (fun t t' ht h c s2 w' js sU hchain inv=>?_) _ t t' ht h
    unfold xE at h
    cases hfill : Z5 P (F4 ops n) t H with
    | none=>simp only [hfill] at h; exact (E7 h).elim
    | some p=>
      obtain ⟨t2,H2⟩:=p
      simp only [hfill] at h
      have hl : ∀ j,j < n → (Ju n ops.size).getD j false = true:=fun j hj=>by
        have : j < ops.size:=by omega
        simp [Ju,this,hj]
      have hgo:=eM (s:=s2) (w:=w') (js:=js) (F4 ops n) t H m t2 H2 hfill (by rw [ht.size,← sU,Ti hchain hsz n (Nat.le_refl _),inv.size]) (fun d v v' h1 h2 h3=>?_) (hH1.below inv.below) (fun x hx=>?_) (fun x hx hmem=>?_) ?_
      · refine Xz hE _ _ t2 s2 H2 w' hgo.1 hgo.2 (fun j hj=>?_) ⟨inv.below.os,inv.below.tape,inv.below.output,inv.below.size,fun k hk _=>inv.below.block k hk⟩ h
        obtain ⟨x,hx,rfl⟩:=List.mem_map.1 hj
        obtain ⟨hxn,o,ho,hal⟩:=Fs.1 hx
        obtain ⟨_,z,_,_,h4⟩:=inv.al x.1 o x.2.1 x.2.2 hxn (hl _ hxn) ho hal
        exact h4
      · refine ht.at_ d v v' h1 ?_
        rw [← h2,← sU]
        by_cases hx : ∃ j oj,j < n ∧ ops[j]? = some oj ∧ oj.dst = some d
        · obtain ⟨j,oj,hj,hoj,hdj⟩:=hx
          have hal : Qs oj = none:=by
            cases q : Qs oj with
            | none=>rfl
            | some p=>
              obtain ⟨d',T'⟩:=p
              have e : d' = d:=Option.some.inj ((Mg q).2.2.symm.trans hdj)
              exact absurd e (h3 (j,d',T') (Fs.2 ⟨hj,oj,hoj,q⟩))
          rw [inv.new j oj d hj (hl j hj) hoj hal hdj]
          exact Lu hchain n (by omega) (Nat.le_refl _) (fun k ok q1 q2 hk=>by
            by_cases q : ok.dst = some d
            · have:=F.one j k oj ok d hj q2 hoj hk hdj q
              omega
            · exact .inl q) hsz
        · have hno : ∀ j oj,j < n → ops[j]? = some oj → oj.dst ≠ some d:=fun j oj hj hoj hdj=>hx ⟨j,oj,hj,hoj,hdj⟩
          rw [inv.old d fun j oj hj _ hoj=>hno j oj hj hoj]
          exact Lu hchain n (Nat.zero_le _) (Nat.le_refl _) (fun k ok q1 q2 hk=>.inl (hno k ok q2 hk)) hsz
      · obtain ⟨hxn,o,ho,hal⟩:=Fs.1 hx
        obtain ⟨k1,z,k2,k3,_⟩:=inv.al x.1 o x.2.1 x.2.2 hxn (hl _ hxn) ho hal
        obtain ⟨z',q1,q2⟩:=hA' x hx
        have : z' = z:=Option.some.inj (q1.symm.trans k2)
        subst this
        exact ⟨k1,z',k2,q2,k3⟩
      · obtain ⟨hxn,o,ho,hal⟩:=Fs.1 hx
        obtain ⟨_,z,_,_,h4⟩:=inv.al x.1 o x.2.1 x.2.2 hxn (hl _ hxn) ho hal
        have:=hH1.lt_of_mem hmem
        omega
      · have hp : (F4 ops n).Pairwise fun x y=>x.1 ≠ y.1:=by
          unfold F4
          rw [List.pairwise_filterMap]
          refine List.Pairwise.imp ?_ (List.nodup_range (n:=n))
          intro a b hab x hx y hy
          simp only [Option.map_eq_some_iff] at hx hy
          obtain ⟨_,_,rfl⟩:=hx
          obtain ⟨_,_,rfl⟩:=hy
          exact hab
        rw [List.Nodup,List.pairwise_map]
        refine List.Pairwise.imp_of_mem ?_ hp
        intro x y hx hy hxy he
        obtain ⟨hxn,o,ho,hal⟩:=Fs.1 hx
        obtain ⟨hyn,o2,ho2,hal2⟩:=Fs.1 hy
        exact hxy (inv.dis x.1 y.1 o o2 hxn hyn (hl _ hxn) (hl _ hyn) ho ho2 (by rw [hal]; rfl) (by rw [hal2]; rfl) he)
end
end Go.Proofs.YtfhnlkinjbakgaaGreat.Abs
