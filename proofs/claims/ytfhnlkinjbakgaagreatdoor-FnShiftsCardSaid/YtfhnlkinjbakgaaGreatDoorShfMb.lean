/- The abstract machine, second part. -/
import Derived.Test.YtfhnlkinjbakgaaGreatDoorShfMa
namespace Go.Proofs.YtfhnlkinjbakgaaGreatDoor.Abs
open Go Go.RowKit
section
variable {P : Program} {ops : Array Oper} {md : Region.Mode} {C : World → Prop}
def wpAnyLQ (P : Program) (md : Region.Mode) (ops : Array Oper) (C : World → Prop) (n : Nat) (L : Array Bool → Act → Prop) : Nat → Array Bool → Act → Prop
  | 0,listed,a=>L listed a
  | f + 1,listed,a=>
    Region.ready md ops listed ≠ [] ∧ ∀ i ∈ Region.ready md ops listed,i < n ∧ qOp P ops C i (wpAnyLQ P md ops C n L f (listed.setIfInBounds i true)) a
theorem wpAny_of_headQ {n g : Nat} {L : Array Bool → Act → Prop} {Q' : Exit → Act → World → Prop} (hL : ∀ listed a w,C w → L listed a → wpAny P md ops Q' g listed a w) :
    ∀ (f : Nat) (listed : Array Bool) (a : Act) (w : World),C w → wpAnyLQ P md ops C n L f listed a → wpAny P md ops Q' (f + g) listed a w
  | 0,listed,a,w,hw,h=>by rw [Nat.zero_add]; exact hL _ _ _ hw h
  | f + 1,listed,a,w,hw,h=>by
    rw [show f + 1 + g = (f + g) + 1 by omega]
    exact ⟨fun h0=>absurd h0 h.1,fun i hi=>wpOp_of_qOp hw (fun a' w' hw' h'=>wpAny_of_headQ hL f _ a' w' hw' h') (h.2 i hi).2⟩
theorem wpAnyLQ_first {n i : Nat} {oi : Oper} {v : Value} {L : Array Bool → Act → Prop} (hi : ops[i]? = some oi) (hsel : ∀ (j : Nat) (o : Oper) cs b,ops[j]? = some o → o.op ≠ .select cs b)
    (hs : Region.sinkB md ops n = true) (hc : Region.chainB md ops n = true) (hn : n < ops.size) (hin : i < n)
    (hdone : ∀ listed a,L listed a → ∀ j ∈ Region.ready md ops listed,n ≤ j) :
    ∀ (f : Nat) (listed : Array Bool) (a : Act),HeadInv md ops n listed →
      (∀ j oj,ops[j]? = some oj → j ≠ i → listed.getD j true = false → (∀ e ∈ oj.after,Region.binds md e = true → e.on ≠ i) → oi.apart ops oj = true) →
      i ∈ Region.ready md ops listed → YieldsIn P ops C oi v a →
      wpAnyLQ P md ops C n L f (listed.setIfInBounds i true) (a.put oi.dst v) → wpAnyLQ P md ops C n L (f + 1) listed a:=by
  intro f
  induction f with
  | zero=>
    intro listed a inv _ hr hy H
    have hun:=(mem_ready.1 hr).1
    refine ⟨fun h=>(by rw [h] at hr; cases hr),fun j hj=>?_⟩
    have hjn : j < n:=by
      rcases Nat.lt_or_ge j n with h | h
      · exact h
      · exact absurd hj (tail_waits hs hc hn inv _ i rfl hin hun j h)
    refine ⟨hjn,?_⟩
    by_cases hji : j = i
    · subst hji; exact hy.qOp hi H
    · have:=hdone _ _ H j (ready_mono hj hji)
      omega
  | succ f ih=>
    intro listed a inv hfree hr hy H
    have hun:=(mem_ready.1 hr).1
    refine ⟨fun h=>(by rw [h] at hr; cases hr),fun j hj=>?_⟩
    have hjn : j < n:=by
      rcases Nat.lt_or_ge j n with h | h
      · exact h
      · exact absurd hj (tail_waits hs hc hn inv _ i rfl hin hun j h)
    refine ⟨hjn,?_⟩
    by_cases hji : j = i
    · subst hji; exact hy.qOp hi H
    · have h1:=(H.2 j (ready_mono hj hji)).2
      obtain ⟨hjun,oj,hoj,hall⟩:=mem_ready.1 hj
      have hnot : ∀ e ∈ oj.after,Region.binds md e = true → e.on ≠ i:=fun e he hb heq=>by
        have h1:=hall e he hb
        rw [heq,getD_both hun] at h1
        cases h1
      have h2:=qOp_put hoj (hfree j oj hoj hji hjun hnot) (fun cs b=>hsel i oi cs b hi) (fun cs b=>hsel j oj cs b hoj) hy h1
      have hfree' : ∀ k ok,ops[k]? = some ok → k ≠ i → (listed.setIfInBounds j true).getD k true = false →
          (∀ e ∈ ok.after,Region.binds md e = true → e.on ≠ i) → oi.apart ops ok = true:=fun k ok hk hki hun hno=>by
        refine hfree k ok hk hki ?_ hno
        by_cases hjk : j = k
        · subst hjk; exact hjun
        · rw [getD_set_ne true hjk] at hun; exact hun
      refine qOp_mono (fun a' h3=>ih (listed.setIfInBounds j true) a' (inv.set hj hjn) hfree' (ready_mono hr (Ne.symm hji)) h3.1 ?_) h2
      rw [Array.setIfInBounds_comm _ _ hji]
      exact h3.2
theorem wpAnyLQ_lex {n g : Nat} {Lq : Act → Prop} (hsel : Region.noSelect ops = true) (hs : Region.sinkB md ops n = true) (hc : Region.chainB md ops n = true) (hn : n < ops.size) :
    ∀ (l : List Oper) (k : Nat) (listed : Array Bool) (a : Act),(∀ j,j < l.length → l[j]? = ops[k + j]?) → k + l.length = n → HeadInv md ops n listed →
    Region.lexHead md ops g l.length k listed = true → wpQuiet P ops C Lq l a →
    wpAnyLQ P md ops C n (fun listed' a'=>Region.seqB md ops g n listed' = true ∧ Lq a') l.length listed a
  | [],k,listed,a,_,hk,_,hB,h=>by
    have : k = n:=by simpa using hk
    subst this
    exact ⟨by simpa [Region.lexHead] using hB,h⟩
  | o :: l,k,listed,a,hl,hk,inv,hB,h=>by
    have h0 : ops[k]? = some o:=by simpa using (hl 0 (by simp)).symm
    simp only [List.length_cons,Region.lexHead,Bool.and_eq_true] at hB
    obtain ⟨⟨hr,hf⟩,hB'⟩:=hB
    have hkn : k < n:=by simp only [List.length_cons] at hk; omega
    have hr' : k ∈ Region.ready md ops listed:=by simpa using hr
    have hst : qOp P ops C k (wpQuiet P ops C Lq l) a:=by unfold qOp; simp only [h0]; exact h
    obtain ⟨v,hy,hK⟩:=yieldsIn_of_qOp h0 hst
    exact wpAnyLQ_first h0 (Region.noSelect_spec hsel) hs hc hn hkn (fun listed' a' hL=>seqB_ready hL.1) l.length listed a inv (Region.free_spec h0 hf) hr' hy
      (wpAnyLQ_lex hsel hs hc hn l (k + 1) _ _ (fun j hj=>by have:=hl (j + 1) (by simp; omega); simpa [Nat.add_assoc,Nat.add_comm 1 j] using this) (by simp only [List.length_cons] at hk; omega) (inv.set hr' hkn) hB' hK)
theorem wp_region_quiet_tail {id : Nat} {Q : Exit → Act → World → Prop} {a : Act} {w : World} {ops : Array Oper} (n : Nat) (hm : P.follows .mixedOrders = true) (hB : Region.lexTailB .any ops n = true) (hC : C { w with drawn:=w.drawn + 1 })
    (h : wpQuiet P ops C (fun a'=>∀ w',C w' → wpList P ops Q (ops.toList.drop n) a' w') (ops.toList.take n) a) : (Code.region id ops true).wp P Q a w:=by
  obtain ⟨l⟩:=ops
  simp only [Region.lexTailB,Bool.and_eq_true,decide_eq_true_eq] at hB
  obtain ⟨⟨⟨⟨hsel,hn⟩,hs⟩,hc⟩,hlex⟩:=hB
  have hn' : n < l.length:=by simpa using hn
  have htl : (l.take n).length = n:=by rw [List.length_take]; omega
  have hdl : (l.drop n).length = l.toArray.size - n:=by simp
  have inv0 : HeadInv .any l.toArray n (Array.replicate l.toArray.size false):=
    ⟨by simp,fun j oj _ hl=>(by rw [getD_replicate_false] at hl; cases hl),fun t _ ht=>getD_in (by simpa using ht) (getD_replicate_false _ _)⟩
  have H:=wpAnyLQ_lex (md:=.any) (g:=l.toArray.size - n) hsel hs hc hn (l.take n) 0 _ a (fun j hj=>by
    have hj' : j < n:=by rw [htl] at hj; exact hj
    simp [hj']) (by simpa using htl) inv0 (by rw [htl]; exact hlex) h
  refine wp_region_any hm ?_
  have:=wpAny_of_headQ (C:=C) (Q':=Q) (g:=l.toArray.size - n) (fun listed a' w' hw' hL=>by
    have:=wpAny_of_seq (md:=.any) (Q':=Q) (l.drop n) n listed a' w' (fun j=>by simp [List.getElem?_drop]) (by rw [hdl]; exact hL.1) (hL.2 w' hw')
    rwa [hdl] at this) _ _ _ _ hC H
  have hsz : l.toArray.size = l.length:=by simp
  rw [htl,show n + (l.toArray.size - n) = l.toArray.size by rw [hsz]; omega] at this
  exact this
end
def stepQ (P : Program) (E : Eqs) (o : Oper) (t : Array Value) (H : List Blk) (K : Array Value → T) : T:=
  match opA P E o t H with
  | .val v=>K (putA t o.dst v)
  | .pick c a b=>.ite c (K (putA t o.dst a)) (K (putA t o.dst b))
  | .chk c v=>.ite c (K (putA t o.dst v)) .fail
  | .enter f args=>.qcall f args H fun v=>K (putA t o.dst v)
  | _=>.fail
def stepR (P : Program) (E : Eqs) (o : Oper) (t : Array Value) (H : List Blk) (K : Array Value → T) : T:=
  match opA P E o t H with
  | .opt x=>.opt x fun v=>K (putA t o.dst v)
  | _=>stepQ P E o t H K
def opsQ (P : Program) (E : Eqs) (ops : Array Oper) (H : List Blk) (K : Array Value → T) : List Oper → Array Value → T
  | [],t=>K t
  | o :: rest,t=>guarded ops o t (fun t=>stepR P E o t H fun t=>opsQ P E ops H K rest t) (fun t=>opsQ P E ops H K rest (putA t o.dst undef))
section
variable {P : Program} {E : Eqs} {f : FuncId}
theorem opsQ_run (hE : EqsOk P E) {ops : Array Oper} {K : Array Value → T} {R : Value → List Blk → Prop} {m : List Nat} {H : List Blk} {w : World} (hH : RH m H w) {Q : Act → Prop}
    (hQ : ∀ t t',RA m t t' → Run P f R (K t) → Q (act t')) :
    ∀ (l : List Oper) (t t' : Array Value),RA m t t' → Run P f R (opsQ P E ops H K l t) → wpQuiet P ops (fun w'=>Below w.heap.size w w') Q l (act t')
  | [],t,t',ht,h=>hQ t t' ht h
  | o :: l,t,t',ht,h=>by
    have ih:=fun t t'=>opsQ_run (ops:=ops) hE hH hQ l t t'
    have hC : ∀ {w'},Below w.heap.size w w' → RH m H w':=fun hb=>hH.below hb
    have quiet : ∀ (u u' : Value),VR m u u' → (∀ w',Below w.heap.size w w' → ∃ x,(execOp (act t').eval o).run P w' = .ok (.value x) w' ∧ VR m u x) → Run P f R (opsQ P E ops H K l (putA t o.dst u)) →
        o.quiet P (act t') (fun w'=>Below w.heap.size w w') (wpQuiet P ops (fun w'=>Below w.heap.size w w') Q l):=fun u u' hu hr h2=>by
      refine ⟨u',fun w' hw'=>?_,?_⟩
      · obtain ⟨x,hx,hv⟩:=hr w' hw'
        unfold Oper.quietAt
        rw [hx]
        exact ⟨rfl,hv.fn hu⟩
      · rw [act_put]; exact ih _ _ (ht.put hu _) h2
    simp only [wpQuiet]
    simp only [opsQ] at h
    rcases guarded_run ht h with ⟨hw,h⟩ | ⟨hw,h⟩
    · have hw' : Region.wanted o (yielded ops (act t').tmps) = true:=hw
      rw [if_pos hw']
      unfold stepR at h
      split at h
      · rename_i x hu
        cases h with
        | opt _ _ u hx hk2=>
          obtain ⟨u',_,hv⟩:=opA_opt ht hH hu hx
          exact quiet u u' hv (fun w' hb=>opA_opt (w:=w') ht (hC hb) hu hx) hk2
      unfold stepQ at h
      split at h
      · rename_i u hu
        obtain ⟨u',_,hv⟩:=opA_val (w:=w) ht (fun _=>hH) hE hu
        exact quiet u u' hv (fun w' hb=>opA_val (w:=w') ht (fun _=>hC hb) hE hu) h
      · rename_i c x y hu
        obtain ⟨u',_,hv⟩:=opA_pick (E:=E) ht hu w
        have h2:=run_ite h
        cases c
        · exact quiet y u' hv (fun w' _=>opA_pick (E:=E) ht hu w') h2
        · exact quiet x u' hv (fun w' _=>opA_pick (E:=E) ht hu w') h2
      · rename_i c u hu
        have h2:=run_ite h
        cases c
        · exact (run_fail h2).elim
        · obtain ⟨u',_,hv⟩:=opA_chk hE ht hu rfl w
          exact quiet u u' hv (fun w' _=>opA_chk hE ht hu rfl w') h2
      · rename_i g args hu
        cases h with
        | qcall _ sel H0 args0 _ _ u hF hfl hs hcc hsn hok hk2=>
          refine ⟨u,fun w' hb=>?_,?_⟩
          · obtain ⟨args',hr,ha⟩:=opA_enter (E:=E) ht hu hF.1 w'
            unfold Oper.quietAt
            rw [hr]
            refine ⟨rfl,(call_reads (hC hb) hF hfl hs hcc hsn hok ha).mono ?_⟩
            rintro e w2 ⟨rfl,hb2⟩
            exact ⟨rfl,hb.trans (hb2.mono hb.size)⟩
          · rw [act_put]; exact ih _ _ (ht.put (VR.refl_of_flat _ hfl) _) hk2
        | qcalm _ zs Z args0 _ _ u hF hfl hU hz hzc hsn hok hk2=>
          refine ⟨u,fun w' hb=>?_,?_⟩
          · obtain ⟨args',hr,ha⟩:=opA_enter (E:=E) ht hu hF.1 w'
            unfold Oper.quietAt
            rw [hr]
            refine ⟨rfl,(call_calm (hC hb) hF hfl hU hz hzc hsn hok ha).mono ?_⟩
            rintro e w2 ⟨rfl,hb2⟩
            exact ⟨rfl,hb.trans (hb2.mono hb.size)⟩
          · rw [act_put]; exact ih _ _ (ht.put (VR.refl_of_flat _ hfl) _) hk2
      · exact (run_fail h).elim
    · have hw' : ¬ Region.wanted o (yielded ops (act t').tmps) = true:=by
        show ¬ Region.wanted o (yielded ops t') = true
        simp [hw]
      rw [if_neg hw',act_put]
      exact ih _ _ (ht.put (VR.undef _) _) h
end
def writes (o : Oper) : Bool:=
  match o.op with
  | .alloc _ | .box .. | .store .. | .buildSlice ..=>true
  | _=>false
def regionA (P : Program) (E : Eqs) (ops : Array Oper) (draw : Bool) (K : Array Value → List Blk → T) (t : Array Value) (H : List Blk) : T:=
  if draw then
    if Region.lexB .any ops && !ops.toList.any writes then opsQ P E ops H (fun t=>K t H) ops.toList t
    else
      let n:=(ops.toList.takeWhile fun o=>!writes o).length
      if Region.lexTailB .any ops n then opsQ P E ops H (fun t=>opsN P E ops K (ops.toList.drop n) t H) (ops.toList.take n) t else .fail
  else opsN P E ops K ops.toList t H
section
variable {P : Program} {E : Eqs} {f : FuncId}
theorem Kept.drewn (m : List Nat) (w : World) : Kept m w { w with drawn:=w.drawn + 1 }:=⟨rfl,rfl,rfl,Nat.le_refl _,fun _ _ _=>rfl⟩
theorem regionA_run (hE : EqsOk P E) (hm : P.follows .mixedOrders = true) {id : Nat} {ops : Array Oper} {draw : Bool} {K : Array Value → List Blk → T} {R : Value → List Blk → Prop} {m : List Nat} {t t' : Array Value} {H : List Blk} {w : World}
    (ht : RA m t t') (hH : RH m H w) (h : Run P f R (regionA P E ops draw K t H)) : (Code.region id ops draw).wp P (QN P f m w K R) (act t') w:=by
  have ht0 : RA (m ++ []) t t':=by simpa using ht
  unfold regionA at h
  cases draw with
  | false=>
    simp only [Bool.false_eq_true,if_false] at h
    exact wp_region_list (opsN_run hE ops.toList [] t t' H w ht0 (by simpa using hH) (by simp) (Kept.refl _ _) h)
  | true=>
    simp only [if_true] at h
    have hH1 : RH m H { w with drawn:=w.drawn + 1 }:=⟨hH.len,hH.nodup,hH.blk,hH.inv.keep (Nat.le_refl _) (fun _ _=>rfl),hH.far⟩
    have kept : ∀ {w'},Below ({ w with drawn:=w.drawn + 1 } : World).heap.size { w with drawn:=w.drawn + 1 } w' → Kept m w w':=fun hb=>⟨hb.os,hb.tape,hb.output,hb.size,fun k hk _=>hb.block k hk⟩
    split at h
    · rename_i hc
      simp only [Bool.and_eq_true] at hc
      refine wp_region_quiet (C:=fun w'=>Below ({ w with drawn:=w.drawn + 1 } : World).heap.size { w with drawn:=w.drawn + 1 } w') hm hc.1 (Below.refl _ _) ?_
      refine opsQ_run hE hH1 (fun t t' ht h w' hb=>?_) ops.toList t t' ht h
      exact ⟨rfl,[],t,t',H,rfl,by simpa using ht,by simpa using hH1.below hb,by simp,kept hb,h⟩
    · split at h
      · rename_i hc
        refine wp_region_quiet_tail (C:=fun w'=>Below ({ w with drawn:=w.drawn + 1 } : World).heap.size { w with drawn:=w.drawn + 1 } w') _ hm hc (Below.refl _ _) ?_
        refine opsQ_run hE hH1 (fun t t' ht h w' hb=>?_) _ t t' ht h
        exact opsN_run hE _ [] t t' H w' (by simpa using ht) (by simpa using hH1.below hb) (by simp) (kept hb) h
      · exact (run_fail h).elim
end
end Go.Proofs.YtfhnlkinjbakgaaGreatDoor.Abs
namespace Go.Proofs.YtfhnlkinjbakgaaGreatDoor.Abs
open Go Go.RowKit
def alT (o : Oper) : Option (Tmp × TypeId):=
  match o.op,o.guard,o.dst with
  | .alloc T,none,some d=>some (d,T)
  | _,_,_=>none
theorem alT_spec {o : Oper} {d : Tmp} {T : TypeId} (h : alT o = some (d,T)) : o.op = .alloc T ∧ o.guard = none ∧ o.dst = some d:=by
  unfold alT at h
  split at h
  · rename_i h1 h2 h3
    simp only [Option.some.injEq,Prod.mk.injEq] at h
    obtain ⟨rfl,rfl⟩:=h
    exact ⟨h1,h2,h3⟩
  · cases h
def readsT (ops : Array Oper) (o : Oper) : List Tmp:=
  (o.op.operands.toList.filterMap fun x=>match x with | .tmp i=>some i | _=>none) ++ (match o.guard with | some (j,_)=>((ops[j]?).bind (·.dst)).toList | none=>[])
def floatAt (ops : Array Oper) (j k : Nat) (o : Oper) : Bool:=
  match ops[j]? with
  | some oj=>match oj.dst with
    | some d=>(decide (j = k) || decide (o.dst ≠ some d)) && (!(readsT ops o).contains d || (decide (j < k) && Region.waitsFor .any ops k j && (alT oj).isNone))
    | none=>true
  | none=>true
def listedN (n m : Nat) : Array Bool:=((List.range m).map fun i=>decide (i < n)).toArray
def floatB (ops : Array Oper) (n : Nat) : Bool:=
  Region.noSelect ops && decide (n < ops.size) && Region.sinkB .any ops n && Region.chainB .any ops n && Region.seqB .any ops (ops.size - n) n (listedN n ops.size) &&
  (List.range n).all fun k=>match ops[k]? with
    | some o=>(o.after.toList.all fun e=>!Region.binds .any e || decide (e.on < k)) && (List.range n).all fun j=>floatAt ops j k o
    | none=>false
section
variable {P : Program} {ops : Array Oper} {w0 : World}
def Still (P : Program) (w0 : World) (o : Oper) (a : Act) (v : Value) : Prop:=
  ∀ w',Below w0.heap.size w0 w' → ((execOp a.eval o).run P w' = .ok (.value v) w' ∨
    ∃ g args,(execOp a.eval o).run P w' = .ok (.enter g args) w' ∧ Calls P g args w' fun e w2=>e = .returned v ∧ Below w'.heap.size w' w2)
def StillAll (P : Program) (w0 : World) (o : Oper) (a : Act) (v : Value) : Prop:=
  (opFree o = true → ∀ w',(execOp a.eval o).run P w' = .ok (.value v) w') ∧
  ∀ T x j off,o.op = .load T x → a.eval x = .pointer (some ⟨j,off,none⟩) → ∀ w1 w',Below w0.heap.size w0 w1 → w'.heap[j]? = w1.heap[j]? → (execOp a.eval o).run P w' = .ok (.value v) w'
def wpF (P : Program) (ops : Array Oper) (w0 : World) (Q : Array Value → Prop) : List Oper → Array Value → Prop
  | [],s=>Q s
  | o :: l,s=>
    if (alT o).isSome = true then wpF P ops w0 Q l s
    else if Region.wanted o (yielded ops s) = true then ∃ v,(Still P w0 o (act s) v ∧ StillAll P w0 o (act s) v) ∧ wpF P ops w0 Q l (putA s o.dst v)
    else wpF P ops w0 Q l (putA s o.dst undef)
def StepF (P : Program) (ops : Array Oper) (w0 : World) (o : Oper) (s s' : Array Value) : Prop:=
  ((alT o).isSome = true ∧ s' = s) ∨
  (alT o = none ∧ ∃ v,s' = putA s o.dst v ∧ ((Region.wanted o (yielded ops s) = true ∧ Still P w0 o (act s) v ∧ StillAll P w0 o (act s) v) ∨ (Region.wanted o (yielded ops s) = false ∧ v = undef)))
theorem wpF_chain {Q : Array Value → Prop} : ∀ (l : List Oper) (s : Array Value),wpF P ops w0 Q l s →
    ∃ c : Nat → Array Value,c 0 = s ∧ Q (c l.length) ∧ ∀ k o,l[k]? = some o → StepF P ops w0 o (c k) (c (k + 1))
  | [],s,h=>⟨fun _=>s,rfl,h,fun k o hk=>by simp at hk⟩
  | o :: l,s,h=>by
    have cons : ∀ s',StepF P ops w0 o s s' → wpF P ops w0 Q l s' → ∃ c : Nat → Array Value,c 0 = s ∧ Q (c (l.length + 1)) ∧ ∀ k o',(o :: l)[k]? = some o' → StepF P ops w0 o' (c k) (c (k + 1)):=fun s' hs hl=>by
      obtain ⟨c,h0,hQ,hc⟩:=wpF_chain l s' hl
      refine ⟨fun k=>match k with | 0=>s | k + 1=>c k,rfl,hQ,fun k o' hk=>?_⟩
      cases k with
      | zero=>
        simp only [List.getElem?_cons_zero,Option.some.injEq] at hk
        subst hk
        show StepF P ops w0 o s (c 0)
        rw [h0]
        exact hs
      | succ k=>exact hc k o' (by simpa using hk)
    simp only [wpF] at h
    split at h
    · rename_i ha
      exact cons s (.inl ⟨ha,rfl⟩) h
    · rename_i ha
      have ha' : alT o = none:=by simpa using ha
      split at h
      · rename_i hw
        obtain ⟨v,hv,h⟩:=h
        exact cons _ (.inr ⟨ha',v,rfl,.inl ⟨hw,hv.1,hv.2⟩⟩) h
      · rename_i hw
        exact cons _ (.inr ⟨ha',undef,rfl,.inr ⟨by simpa using hw,rfl⟩⟩) h
structure FloatBase (ops : Array Oper) (n : Nat) : Prop where
  sel : Region.noSelect ops = true
  lt : n ≤ ops.size
  back : ∀ k o,k < n → ops[k]? = some o → ∀ e ∈ o.after,Region.binds .any e = true → e.on < k
  one : ∀ j k oj o d,j < n → k < n → ops[j]? = some oj → ops[k]? = some o → oj.dst = some d → o.dst = some d → j = k
  reads : ∀ j k oj o d,j < n → k < n → ops[j]? = some oj → ops[k]? = some o → oj.dst = some d → d ∈ readsT ops o → j < k ∧ Region.waitsFor .any ops k j = true ∧ alT oj = none
structure FloatOk (ops : Array Oper) (n : Nat) : Prop extends FloatBase ops n where
  lts : n < ops.size
  sink : Region.sinkB .any ops n = true
  chain : Region.chainB .any ops n = true
  seq : Region.seqB .any ops (ops.size - n) n (listedN n ops.size) = true
theorem floatAt_spec {n : Nat} (h : ∀ k o,k < n → ops[k]? = some o → ∀ j,j < n → floatAt ops j k o = true) :
    (∀ j k oj o d,j < n → k < n → ops[j]? = some oj → ops[k]? = some o → oj.dst = some d → o.dst = some d → j = k) ∧
    (∀ j k oj o d,j < n → k < n → ops[j]? = some oj → ops[k]? = some o → oj.dst = some d → d ∈ readsT ops o → j < k ∧ Region.waitsFor .any ops k j = true ∧ alT oj = none):=by
  refine ⟨fun j k oj o d hj hkn hoj ho hd hd2=>?_,fun j k oj o d hj hkn hoj ho hd hr=>?_⟩
  · have:=h k o hkn ho j hj
    simp only [floatAt,hoj,hd,Bool.and_eq_true,Bool.or_eq_true,decide_eq_true_eq] at this
    rcases this.1 with h | h
    · exact h
    · exact absurd hd2 h
  · have:=h k o hkn ho j hj
    simp only [floatAt,hoj,hd,Bool.and_eq_true,Bool.or_eq_true,decide_eq_true_eq] at this
    rcases this.2 with h | h
    · have : (readsT ops o).contains d = true:=by simpa using hr
      rw [this] at h
      cases h
    · exact ⟨h.1.1,h.1.2,by simpa using h.2⟩
theorem back_spec {o : Oper} {k : Nat} (h : (o.after.toList.all fun e=>!Region.binds .any e || decide (e.on < k)) = true) : ∀ e ∈ o.after,Region.binds .any e = true → e.on < k:=fun e he hb=>by
  have:=List.all_eq_true.1 h e (by simpa using he)
  rw [hb] at this
  simpa using this
theorem floatB_spec {n : Nat} (h : floatB ops n = true) : FloatOk ops n:=by
  unfold floatB at h
  simp only [Bool.and_eq_true,decide_eq_true_eq] at h
  obtain ⟨⟨⟨⟨⟨h1,h2⟩,h3⟩,h4⟩,h5⟩,h6⟩:=h
  have hk : ∀ k o,k < n → ops[k]? = some o → (o.after.toList.all fun e=>!Region.binds .any e || decide (e.on < k)) = true ∧ ∀ j,j < n → floatAt ops j k o = true:=fun k o hk ho=>by
    have:=List.all_eq_true.1 h6 k (List.mem_range.2 hk)
    simp only [ho,Bool.and_eq_true] at this
    exact ⟨this.1,fun j hj=>List.all_eq_true.1 this.2 j (List.mem_range.2 hj)⟩
  have hf:=floatAt_spec (n:=n) fun k o hkn ho=>(hk k o hkn ho).2
  exact ⟨⟨h1,Nat.le_of_lt h2,fun k o hkn ho e he hb=>back_spec (hk k o hkn ho).1 e he hb,hf.1,hf.2⟩,h2,h3,h4,h5⟩
theorem putA_ne {s : Array Value} {dst : Option Tmp} {v : Value} {d : Tmp} (h : dst ≠ some d) : (putA s dst v)[d]? = s[d]?:=by
  cases dst with
  | none=>rfl
  | some e=>exact Array.getElem?_setIfInBounds_ne (fun q=>h (by rw [q]))
theorem putA_size (s : Array Value) (dst : Option Tmp) (v : Value) : (putA s dst v).size = s.size:=by cases dst <;> simp [putA]
theorem putA_same {s s' : Array Value} (hs : s.size = s'.size) (d : Tmp) (v : Value) : (putA s (some d) v)[d]? = (putA s' (some d) v)[d]?:=by
  simp only [putA,Array.getElem?_setIfInBounds_self,hs]
theorem StepF.ne {o : Oper} {s s' : Array Value} (h : StepF P ops w0 o s s') {d : Tmp} (hd : o.dst ≠ some d) : s'[d]? = s[d]?:=by
  rcases h with ⟨_,rfl⟩ | ⟨_,v,rfl,_⟩
  · rfl
  · exact putA_ne hd
theorem StepF.al {o : Oper} {s s' : Array Value} (h : StepF P ops w0 o s s') (ha : (alT o).isSome = true) : s' = s:=by
  rcases h with ⟨_,rfl⟩ | ⟨h,_⟩
  · rfl
  · rw [h] at ha; cases ha
theorem StepF.size {o : Oper} {s s' : Array Value} (h : StepF P ops w0 o s s') : s'.size = s.size:=by
  rcases h with ⟨_,rfl⟩ | ⟨_,v,rfl,_⟩
  · rfl
  · exact putA_size _ _ _
structure InvF (P : Program) (ops : Array Oper) (w0 : World) (n : Nat) (c : Nat → Array Value) (listed : Array Bool) (s : Array Value) (w : World) (js : Nat → Nat) : Prop where
  size : s.size = (c 0).size
  old : ∀ d,(∀ j o,j < n → listed.getD j false = true → ops[j]? = some o → o.dst ≠ some d) → s[d]? = (c 0)[d]?
  new : ∀ j o d,j < n → listed.getD j false = true → ops[j]? = some o → alT o = none → o.dst = some d → s[d]? = (c (j + 1))[d]?
  al : ∀ j o d T,j < n → listed.getD j false = true → ops[j]? = some o → alT o = some (d,T) → (d < s.size → s[d]? = some (.pointer (some ⟨js j,0,none⟩))) ∧ ∃ z,tzero P T = some z ∧ w.heap[js j]? = some (.cells z.cells T (0,0)) ∧ w0.heap.size ≤ js j
  dis : ∀ j k oj ok,j < n → k < n → listed.getD j false = true → listed.getD k false = true → ops[j]? = some oj → ops[k]? = some ok → (alT oj).isSome = true → (alT ok).isSome = true → js j = js k → j = k
  below : Below w0.heap.size w0 w
def left (n : Nat) (listed : Array Bool) : Nat:=(List.range n).countP fun j=>!listed.getD j false
theorem left_set {listed : Array Bool} {i : Nat} (hu : listed.getD i false = false) (hs : i < listed.size) : ∀ n,(i < n → left n (listed.setIfInBounds i true) + 1 = left n listed) ∧ (n ≤ i → left n (listed.setIfInBounds i true) = left n listed)
  | 0=>⟨fun h=>absurd h (Nat.not_lt_zero _),fun _=>rfl⟩
  | n + 1=>by
    have ih:=left_set hu hs n
    have e : ∀ l : Array Bool,left (n + 1) l = left n l + (if l.getD n false = true then 0 else 1):=fun l=>by
      simp only [left,List.range_succ,List.countP_append,List.countP_singleton]
      cases l.getD n false <;> rfl
    rw [e,e]
    by_cases h : i = n
    · subst h
      have h1 : (listed.setIfInBounds i true).getD i false = true:=by simp [hs]
      rw [h1,hu,ih.2 (Nat.le_refl _)]
      exact ⟨fun _=>rfl,fun h=>absurd h (by omega)⟩
    · rw [getD_set_ne false h]
      refine ⟨fun h2=>?_,fun h2=>?_⟩
      · have:=ih.1 (by omega); omega
      · have:=ih.2 (by omega); omega
theorem left_zero {listed : Array Bool} : ∀ n,left n listed = 0 → ∀ j,j < n → listed.getD j false = true:=fun n h j hj=>by
  have:=List.countP_eq_zero.1 h j (List.mem_range.2 hj)
  simpa using this
theorem left_pos {listed : Array Bool} : ∀ n,left n listed ≠ 0 → ∃ j,j < n ∧ listed.getD j false = false ∧ ∀ i,i < j → listed.getD i false = true
  | 0,h=>absurd rfl h
  | n + 1,h=>by
    by_cases h0 : left n listed = 0
    · refine ⟨n,by omega,?_,left_zero n h0⟩
      have e : left (n + 1) listed = left n listed + (if listed.getD n false = true then 0 else 1):=by
        simp only [left,List.range_succ,List.countP_append,List.countP_singleton]
        cases listed.getD n false <;> rfl
      rw [e,h0] at h
      cases hb : listed.getD n false with
      | false=>rfl
      | true=>rw [hb] at h; exact absurd rfl h
    · obtain ⟨j,h1,h2,h3⟩:=left_pos n h0
      exact ⟨j,by omega,h2,h3⟩
theorem chain_far {n : Nat} {c : Nat → Array Value} (hc : ∀ k o,k < n → ops[k]? = some o → StepF P ops w0 o (c k) (c (k + 1))) {d : Tmp} {i : Nat} : ∀ k,i ≤ k → k ≤ n → (∀ j o,i ≤ j → j < k → ops[j]? = some o → o.dst ≠ some d ∨ (alT o).isSome = true) → n ≤ ops.size → (c k)[d]? = (c i)[d]?
  | 0,h,_,_,_=>by
    have : i = 0:=by omega
    rw [this]
  | k + 1,h,hn,hq,hs=>by
    by_cases e : i = k + 1
    · rw [e]
    · have hk : k < ops.size:=by omega
      have ho : ops[k]? = some ops[k]:=Array.getElem?_eq_getElem hk
      have hst:=hc k _ (by omega) ho
      rw [← chain_far hc k (by omega) (by omega) (fun j o h1 h2=>hq j o h1 (by omega)) hs]
      rcases hq k _ (by omega) (by omega) ho with h1 | h1
      · exact hst.ne h1
      · rw [hst.al h1]
theorem chain_size {n : Nat} {c : Nat → Array Value} (hc : ∀ k o,k < n → ops[k]? = some o → StepF P ops w0 o (c k) (c (k + 1))) (hs : n ≤ ops.size) : ∀ k,k ≤ n → (c k).size = (c 0).size
  | 0,_=>rfl
  | k + 1,hk=>by
    have ho : ops[k]? = some ops[k]:=Array.getElem?_eq_getElem (by omega)
    rw [(hc k _ (by omega) ho).size,chain_size hc hs k (by omega)]
theorem InvF.reads {n : Nat} {c : Nat → Array Value} {listed : Array Bool} {s : Array Value} {w : World} {js : Nat → Nat} (inv : InvF P ops w0 n c listed s w js) (F : FloatBase ops n)
    (hc : ∀ k o,k < n → ops[k]? = some o → StepF P ops w0 o (c k) (c (k + 1))) {i : Nat} {o : Oper} (hi : i < n) (ho : ops[i]? = some o) (hr : i ∈ Region.ready .any ops listed) {d : Tmp} (hd : d ∈ readsT ops o) : s[d]? = (c i)[d]?:=by
  obtain ⟨_,o',ho',hall⟩:=mem_ready.1 hr
  have : o' = o:=Option.some.inj (ho'.symm.trans ho)
  subst this
  have hsz : n ≤ ops.size:=F.lt
  by_cases hx : ∃ j oj,j < n ∧ ops[j]? = some oj ∧ oj.dst = some d
  · obtain ⟨j,oj,hj,hoj,hdj⟩:=hx
    obtain ⟨hji,hwt,hal⟩:=F.reads j i oj o' d hj hi hoj ho hdj hd
    obtain ⟨o2,ho2,e,he,hb,hon⟩:=Region.waitsFor_spec hwt
    have : o2 = o':=Option.some.inj (ho2.symm.trans ho)
    subst this
    have hl:=hall e he hb
    rw [hon] at hl
    rw [inv.new j oj d hj hl hoj hal hdj]
    refine (chain_far hc i (by omega) (by omega) (fun k ok h1 h2 hk=>?_) hsz).symm
    by_cases q : ok.dst = some d
    · have:=F.one j k oj ok d hj (by omega) hoj hk hdj q
      omega
    · exact .inl q
  · have hno : ∀ j oj,j < n → ops[j]? = some oj → oj.dst ≠ some d:=fun j oj hj hoj hdj=>hx ⟨j,oj,hj,hoj,hdj⟩
    rw [inv.old d fun j oj hj _ hoj=>hno j oj hj hoj]
    exact (chain_far hc i (by omega) (by omega) (fun k ok h1 h2 hk=>.inl (hno k ok (by omega) hk)) hsz).symm
theorem InvF.evals {n : Nat} {c : Nat → Array Value} {listed : Array Bool} {s : Array Value} {w : World} {js : Nat → Nat} (inv : InvF P ops w0 n c listed s w js) (F : FloatBase ops n)
    (hc : ∀ k o,k < n → ops[k]? = some o → StepF P ops w0 o (c k) (c (k + 1))) {i : Nat} {o : Oper} (hi : i < n) (ho : ops[i]? = some o) (hr : i ∈ Region.ready .any ops listed) :
    execOp (act s).eval o = execOp (act (c i)).eval o ∧ Region.wanted o (yielded ops s) = Region.wanted o (yielded ops (c i)):=by
  have key : ∀ d,d ∈ readsT ops o → s[d]? = (c i)[d]?:=fun d hd=>inv.reads F hc hi ho hr hd
  constructor
  · refine execOp_congr o (fun cs b=>Region.noSelect_spec F.sel i o cs b ho) fun x hx=>?_
    cases x with
    | tmp d=>
      have h1:=key d (by
        unfold readsT
        refine List.mem_append_left _ (List.mem_filterMap.2 ⟨.tmp d,by simpa using hx,rfl⟩))
      show s.getD d undef = (c i).getD d undef
      simp only [Array.getD_eq_getD_getElem?,h1]
    | _=>rfl
  · unfold Region.wanted
    cases hg : o.guard with
    | none=>rfl
    | some jw=>
      obtain ⟨j,want⟩:=jw
      have : yielded ops s j = yielded ops (c i) j:=by
        unfold yielded
        cases hd : (ops[j]?).bind (·.dst) with
        | none=>rfl
        | some d=>
          have h1:=key d (by
            unfold readsT
            refine List.mem_append_right _ ?_
            simp [hg,hd])
          simp only [Option.bind_some,h1]
      simp only [this]
theorem InvF.put {n : Nat} {c : Nat → Array Value} {listed : Array Bool} {s : Array Value} {w w2 : World} {js : Nat → Nat} (inv : InvF P ops w0 n c listed s w js) (F : FloatBase ops n)
    (hc : ∀ k o,k < n → ops[k]? = some o → StepF P ops w0 o (c k) (c (k + 1))) (hsz : listed.size = ops.size) {i : Nat} {o : Oper} (hi : i < n) (ho : ops[i]? = some o) (ha : alT o = none) {v : Value} (hv : c (i + 1) = putA (c i) o.dst v) (hb : Below w.heap.size w w2) :
    InvF P ops w0 n c (listed.setIfInBounds i true) (putA s o.dst v) w2 js:=by
  have hlt : i < listed.size:=by have:=F.lt; omega
  have other : ∀ {j},j ≠ i → (listed.setIfInBounds i true).getD j false = true → listed.getD j false = true:=fun hj h=>by rwa [getD_set_ne false (Ne.symm hj)] at h
  refine ⟨(putA_size _ _ _).trans inv.size,fun d hd=>?_,fun j oj d hj hl hoj haj hdj=>?_,fun j oj d T hj hl hoj haj=>?_,fun j k oj ok hj hk hl hl2 hoj hok h1 h2 he=>?_,inv.below.trans (hb.mono inv.below.size)⟩
  · have h1:=hd i o hi (by simp [hlt]) ho
    rw [putA_ne h1]
    exact inv.old d fun j oj hj hl hoj=>hd j oj hj (getD_set_true hl) hoj
  · by_cases e : j = i
    · subst e
      have : oj = o:=Option.some.inj (hoj.symm.trans ho)
      subst this
      rw [hv,hdj]
      exact putA_same (by rw [inv.size,chain_size hc (F.lt) j (by omega)]) d v
    · have hne : o.dst ≠ some d:=fun q=>e (F.one j i oj o d hj hi hoj ho hdj q)
      rw [putA_ne hne]
      exact inv.new j oj d hj (other e hl) hoj haj hdj
  · have e : j ≠ i:=fun q=>by
      subst q
      have : oj = o:=Option.some.inj (hoj.symm.trans ho)
      subst this
      rw [ha] at haj; cases haj
    obtain ⟨k1,z,k2,k3,k4⟩:=inv.al j oj d T hj (other e hl) hoj haj
    have hne : o.dst ≠ some d:=fun q=>e (F.one j i oj o d hj hi hoj ho (alT_spec haj).2.2 q)
    refine ⟨fun h=>by rw [putA_ne hne]; exact k1 (by rw [putA_size] at h; exact h),z,k2,?_,k4⟩
    rw [hb.block _ (Array.getElem?_eq_some_iff.1 k3).1]
    exact k3
  · have e1 : j ≠ i:=fun q=>by
      subst q
      have : oj = o:=Option.some.inj (hoj.symm.trans ho)
      subst this
      rw [ha] at h1; cases h1
    have e2 : k ≠ i:=fun q=>by
      subst q
      have : ok = o:=Option.some.inj (hok.symm.trans ho)
      subst this
      rw [ha] at h2; cases h2
    exact inv.dis j k oj ok hj hk (other e1 hl) (other e2 hl2) hoj hok h1 h2 he
theorem InvF.make {n : Nat} {c : Nat → Array Value} {listed : Array Bool} {s : Array Value} {w : World} {js : Nat → Nat} (inv : InvF P ops w0 n c listed s w js) (F : FloatBase ops n)
    (hsz : listed.size = ops.size) {i : Nat} {o : Oper} (hi : i < n) (ho : ops[i]? = some o) {d0 : Tmp} {T0 : TypeId} (ha : alT o = some (d0,T0)) {z : Value} (hz : tzero P T0 = some z) (hu : listed.getD i false = false) :
    InvF P ops w0 n c (listed.setIfInBounds i true) (putA s o.dst (.pointer (some ⟨w.heap.size,0,none⟩))) (w.alloc (.cells z.cells T0)) (fun j=>if j = i then w.heap.size else js j):=by
  have hlt : i < listed.size:=by have:=F.lt; omega
  have hd0:=(alT_spec ha).2.2
  have other : ∀ {j},j ≠ i → (listed.setIfInBounds i true).getD j false = true → listed.getD j false = true:=fun hj h=>by rwa [getD_set_ne false (Ne.symm hj)] at h
  have below : Below w0.heap.size w0 (w.alloc (.cells z.cells T0)):=inv.below.trans ⟨rfl,rfl,rfl,by simp,fun k hk=>heap_alloc_old w _ k (Nat.lt_of_lt_of_le hk inv.below.size)⟩
  have lt : ∀ j oj d T,j < n → listed.getD j false = true → ops[j]? = some oj → alT oj = some (d,T) → js j < w.heap.size:=fun j oj d T hj hl hoj haj=>by
    obtain ⟨_,z,_,k3,_⟩:=inv.al j oj d T hj hl hoj haj
    exact (Array.getElem?_eq_some_iff.1 k3).1
  refine ⟨(putA_size _ _ _).trans inv.size,fun d hd=>?_,fun j oj d hj hl hoj haj hdj=>?_,fun j oj d T hj hl hoj haj=>?_,fun j k oj ok hj hk hl hl2 hoj hok h1 h2 he=>?_,below⟩
  · have h1:=hd i o hi (by simp [hlt]) ho
    rw [putA_ne h1]
    exact inv.old d fun j oj hj hl hoj=>hd j oj hj (getD_set_true hl) hoj
  · have e : j ≠ i:=fun q=>by
      subst q
      have : oj = o:=Option.some.inj (hoj.symm.trans ho)
      subst this
      rw [ha] at haj; cases haj
    have hne : o.dst ≠ some d:=fun q=>e (F.one j i oj o d hj hi hoj ho hdj q)
    rw [putA_ne hne]
    exact inv.new j oj d hj (other e hl) hoj haj hdj
  · by_cases e : j = i
    · subst e
      have : oj = o:=Option.some.inj (hoj.symm.trans ho)
      subst this
      rw [ha] at haj
      simp only [Option.some.injEq,Prod.mk.injEq] at haj
      obtain ⟨rfl,rfl⟩:=haj
      refine ⟨fun h=>?_,z,hz,?_,?_⟩
      · rw [hd0]
        rw [putA_size] at h
        simp only [putA,Array.getElem?_setIfInBounds_self,h,if_true]
      · simp only [if_true]
        exact heap_alloc_new w _
      · simp only [if_true]
        exact inv.below.size
    · obtain ⟨k1,z',k2,k3,k4⟩:=inv.al j oj d T hj (other e hl) hoj haj
      have hne : o.dst ≠ some d:=fun q=>e (F.one j i oj o d hj hi hoj ho (alT_spec haj).2.2 q)
      simp only [if_neg e]
      refine ⟨fun h=>by rw [putA_ne hne]; exact k1 (by rw [putA_size] at h; exact h),z',k2,?_,k4⟩
      rw [heap_alloc_old _ _ _ (Array.getElem?_eq_some_iff.1 k3).1]
      exact k3
  · have get : ∀ {oj},(alT oj).isSome = true → ∃ d T,alT oj = some (d,T):=fun {oj} h=>by
      obtain ⟨⟨d,T⟩,h⟩:=Option.isSome_iff_exists.1 h
      exact ⟨d,T,h⟩
    obtain ⟨d1,T1,g1⟩:=get h1
    obtain ⟨d2,T2,g2⟩:=get h2
    by_cases e1 : j = i <;> by_cases e2 : k = i
    · rw [e1,e2]
    · simp only [if_pos e1,if_neg e2] at he
      have:=lt k ok d2 T2 hk (other e2 hl2) hok g2
      omega
    · simp only [if_neg e1,if_pos e2] at he
      have:=lt j oj d1 T1 hj (other e1 hl) hoj g1
      omega
    · simp only [if_neg e1,if_neg e2] at he
      exact inv.dis j k oj ok hj hk (other e1 hl) (other e2 hl2) hoj hok h1 h2 he
theorem wpAny_float {n : Nat} {c : Nat → Array Value} {Q : Exit → Act → World → Prop} (F : FloatOk ops n) (hc : ∀ k o,k < n → ops[k]? = some o → StepF P ops w0 o (c k) (c (k + 1)))
    (hz : ∀ k o d T,k < n → ops[k]? = some o → alT o = some (d,T) → ∃ z,tzero P T = some z)
    (hQ : ∀ s w js,InvF P ops w0 n c (listedN n ops.size) s w js → wpAny P .any ops Q (ops.size - n) (listedN n ops.size) (act s) w) :
    ∀ (f : Nat) (listed : Array Bool) (s : Array Value) (w : World) (js : Nat → Nat),HeadInv .any ops n listed → left n listed = f → InvF P ops w0 n c listed s w js → wpAny P .any ops Q (f + (ops.size - n)) listed (act s) w
  | 0,listed,s,w,js,hd,hf,inv=>by
    have e : listed = listedN n ops.size:=by
      refine Array.ext (by rw [hd.size]; simp [listedN]) fun i h1 h2=>?_
      simp only [listedN,List.getElem_toArray,List.getElem_map,List.getElem_range]
      by_cases hi : i < n
      · have:=left_zero n hf i hi
        simp only [hi,decide_true]
        simpa [Array.getD,h1] using this
      · have:=hd.tail i (by omega) (by rw [← hd.size]; exact h1)
        simp only [hi,decide_false]
        simpa [Array.getD,h1] using this
    rw [Nat.zero_add,e]
    exact hQ s w js (e ▸ inv)
  | f + 1,listed,s,w,js,hd,hf,inv=>by
    obtain ⟨i0,hi0,hu0,hmin⟩:=left_pos n (by omega : left n listed ≠ 0)
    have hsz:=hd.size
    have hlt:=F.lt
    have r0 : i0 ∈ Region.ready .any ops listed:=mem_ready.2 ⟨getD_in (by omega) hu0,_,Array.getElem?_eq_getElem (by omega),fun e he hb=>hmin _ (F.back i0 _ hi0 (Array.getElem?_eq_getElem (by omega)) e he hb)⟩
    rw [show f + 1 + (ops.size - n) = (f + (ops.size - n)) + 1 by omega]
    refine ⟨fun h=>(by rw [h] at r0; cases r0),fun i hi=>?_⟩
    have hin : i < n:=by
      rcases Nat.lt_or_ge i n with h | h
      · exact h
      · exact absurd hi (tail_waits F.sink F.chain F.lts hd _ i0 rfl hi0 (getD_in (by omega) hu0) i h)
    obtain ⟨hiu,o,ho,hall⟩:=mem_ready.1 hi
    have hu:=getD_both hiu
    have hnext:=hd.set hi hin
    have hleft : left n (listed.setIfInBounds i true) = f:=by have:=(left_set hu (by omega : i < listed.size) n).1 hin; omega
    have go : ∀ s2 w2 js2,InvF P ops w0 n c (listed.setIfInBounds i true) s2 w2 js2 → wpAny P .any ops Q (f + (ops.size - n)) (listed.setIfInBounds i true) (act s2) w2:=fun s2 w2 js2 inv2=>
      wpAny_float F hc hz hQ f _ s2 w2 js2 hnext hleft inv2
    unfold wpOp
    simp only [ho]
    have hev:=inv.evals F.toFloatBase hc hin ho hi
    have hw : Region.wanted o (yielded ops (act s).tmps) = Region.wanted o (yielded ops (c i)):=hev.2
    rcases hc i o hin ho with ⟨ha,_⟩ | ⟨ha,v,hv,hx⟩
    · obtain ⟨⟨d,T⟩,hT⟩:=Option.isSome_iff_exists.1 ha
      obtain ⟨z,hz'⟩:=hz i o d T hin ho hT
      obtain ⟨hop,hg,hdst⟩:=alT_spec hT
      have hw1 : Region.wanted o (yielded ops (act s).tmps) = true:=by simp [Region.wanted,hg]
      rw [if_pos hw1]
      left
      unfold Oper.wp
      have hrun : (execOp (act s).eval o).run P w = .ok (.value (.pointer (some ⟨w.heap.size,0,none⟩))) (w.alloc (.cells z.cells T)):=by
        simp only [execOp,hop,Instr.alloc,Sem.run_bind,run_zeroValue hz' w,Result.andThen_ok]
        rfl
      rw [hrun,Oper.upon_value,act_put]
      exact go _ _ _ (inv.make F.toFloatBase hsz hin ho hT hz' hu)
    · rcases hx with ⟨hw1,hst,_⟩ | ⟨hw1,rfl⟩
      · rw [if_pos (hw.trans hw1)]
        left
        unfold Oper.wp
        rw [hev.1]
        rcases hst w inv.below with hr | ⟨g,args,hr,hcall⟩
        · rw [hr,Oper.upon_value,act_put]
          exact go _ _ _ (inv.put F.toFloatBase hc hsz hin ho ha hv (Below.refl _ _))
        · rw [hr]
          refine hcall.mono ?_
          rintro e w2 ⟨rfl,hb⟩
          show wpAny P .any ops Q (f + (ops.size - n)) (listed.setIfInBounds i true) ((act s).put o.dst v) w2
          rw [act_put]
          exact go _ _ _ (inv.put F.toFloatBase hc hsz hin ho ha hv hb)
      · rw [if_neg (by rw [hw,hw1]; simp),act_put]
        exact go _ _ _ (inv.put F.toFloatBase hc hsz hin ho ha hv (Below.refl _ _))
theorem wp_region_float {id : Nat} {Q : Exit → Act → World → Prop} {s : Array Value} {w : World} (n : Nat) (hm : P.follows .mixedOrders = true) (hB : floatB ops n = true)
    (hz : ∀ k o d T,k < n → ops[k]? = some o → alT o = some (d,T) → ∃ z,tzero P T = some z)
    (h : wpF P ops { w with drawn:=w.drawn + 1 } (fun s1=>∀ (c : Nat → Array Value) s2 w' js,c n = s1 → (∀ k o,k < n → ops[k]? = some o → StepF P ops { w with drawn:=w.drawn + 1 } o (c k) (c (k + 1))) → InvF P ops { w with drawn:=w.drawn + 1 } n c (listedN n ops.size) s2 w' js → wpList P ops Q (ops.toList.drop n) (act s2) w') (ops.toList.take n) s) :
    (Code.region id ops true).wp P Q (act s) w:=by
  have F:=floatB_spec hB
  have hlt:=F.lt
  obtain ⟨c,h0,hQ,hc⟩:=wpF_chain _ _ h
  have hln : (ops.toList.take n).length = n:=by rw [List.length_take,Array.length_toList]; omega
  have hc' : ∀ k o,k < n → ops[k]? = some o → StepF P ops { w with drawn:=w.drawn + 1 } o (c k) (c (k + 1)):=fun k o hk ho=>hc k o (by rw [List.getElem?_take_of_lt hk,Array.getElem?_toList]; exact ho)
  rw [hln] at hQ
  refine wp_region_any hm ?_
  have rep : ∀ j,(Array.replicate ops.size false).getD j false = false:=fun j=>getD_replicate_false _ _
  have H:=wpAny_float (Q:=Q) F hc' hz (fun s2 w2 js inv=>by
    have:=wpAny_of_seq (md:=.any) (Q':=Q) (P:=P) (ops.toList.drop n) n (listedN n ops.size) (act s2) w2 (fun j=>by rw [List.getElem?_drop,Array.getElem?_toList]) (by rw [List.length_drop,Array.length_toList]; exact F.seq) (hQ c s2 w2 js rfl hc' inv)
    rwa [List.length_drop,Array.length_toList] at this) n (Array.replicate ops.size false) s { w with drawn:=w.drawn + 1 } (fun _=>0)
    ⟨by simp,fun j oj _ hl=>(by rw [rep] at hl; cases hl),fun t _ ht=>getD_in (by simpa using ht) (rep _)⟩
    (by
      have : ∀ k,left k (Array.replicate ops.size false) = k:=fun k=>by
        induction k with
        | zero=>rfl
        | succ k ih=>
          have e : left (k + 1) (Array.replicate ops.size false) = left k (Array.replicate ops.size false) + 1:=by
            simp only [left,List.range_succ,List.countP_append,List.countP_singleton,rep]
            rfl
          rw [e,ih]
      exact this n)
    ⟨by rw [h0],fun d _=>by rw [h0],fun j o d hj hl=>(by rw [rep] at hl; cases hl),fun j o d T hj hl=>(by rw [rep] at hl; cases hl),fun j k oj ok hj hk hl=>(by rw [rep] at hl; cases hl),Below.refl _ _⟩
  rw [show n + (ops.size - n) = ops.size by omega] at H
  exact H
end
theorem RH.snoc {m : List Nat} {H : List Blk} {w : World} (h : RH m H w) {cs cs' : Array Value} {T : TypeId} {j : Nat} (hT : T < 1000000) (hj : w.heap[j]? = some (.cells cs' T (0,0))) (hr : RA m cs cs') (hn : j ∉ m) (hf : G0 ≤ j) : RH (m ++ [j]) (H ++ [(cs,T)]) w:=by
  refine ⟨by simp [h.len],?_,fun i k b hk hb=>?_,h.inv,h.far.append h.len (Far.new _ fun k hk=>by
    simp at hk; subst hk; exact hf)⟩
  · rw [List.nodup_append]
    exact ⟨h.nodup,by simp,fun a ha b hb=>by
      simp at hb
      subst hb
      exact fun e=>hn (e ▸ ha)⟩
  · by_cases hi : i < m.length
    · rw [List.getElem?_append_left hi] at hk
      rw [List.getElem?_append_left (by rw [← h.len]; exact hi)] at hb
      obtain ⟨cs2,hc,hr2⟩:=h.blk i k b hk hb
      exact ⟨cs2,hc,hr2.mono _⟩
    · have hi' : i = m.length:=by
        have:=(List.getElem?_eq_some_iff.1 hk).1
        simp at this; omega
      subst hi'
      rw [List.getElem?_append_right (Nat.le_refl _)] at hk
      rw [List.getElem?_append_right (by rw [h.len]; exact Nat.le_refl _)] at hb
      simp at hk
      simp [h.len] at hb
      subst hk; subst hb
      exact ⟨cs',by rw [frOf_lit hT]; exact hj,hr.mono _⟩
def allocsOf (ops : Array Oper) (n : Nat) : List (Nat × Tmp × TypeId):=(List.range n).filterMap fun k=>((ops[k]?).bind alT).map fun p=>(k,p.1,p.2)
def allocsOk (P : Program) (ops : Array Oper) (n : Nat) : Bool:=(allocsOf ops n).all fun x=>match tzero P x.2.2 with | some z=>z.cells.toList.all flat1 | none=>false
theorem mem_allocsOf {ops : Array Oper} {n : Nat} {x : Nat × Tmp × TypeId} : x ∈ allocsOf ops n ↔ x.1 < n ∧ ∃ o,ops[x.1]? = some o ∧ alT o = some (x.2.1,x.2.2):=by
  obtain ⟨k,d,T⟩:=x
  simp only [allocsOf,List.mem_filterMap,List.mem_range,Option.map_eq_some_iff,Option.bind_eq_some_iff]
  constructor
  · rintro ⟨a,ha,⟨d',T'⟩,⟨o,ho,hal⟩,he⟩
    simp only [Prod.mk.injEq] at he
    obtain ⟨rfl,rfl,rfl⟩:=he
    exact ⟨ha,o,ho,hal⟩
  · rintro ⟨ha,o,ho,hal⟩
    exact ⟨k,ha,(d,T),⟨o,ho,hal⟩,rfl⟩
def fillA (P : Program) : List (Nat × Tmp × TypeId) → Array Value → List Blk → Option (Array Value × List Blk)
  | [],t,H=>some (t,H)
  | x :: l,t,H=>match tzero P x.2.2 with
    | some z=>if x.2.2 < 1000000 then fillA P l (putA t (some x.2.1) (.pointer (some ⟨H.length,0,none⟩))) (H ++ [(z.cells,x.2.2)]) else none
    | none=>none
theorem fillA_run {P : Program} {s : Array Value} {w : World} {js : Nat → Nat} : ∀ (L : List (Nat × Tmp × TypeId)) (t : Array Value) (H : List Blk) (m : List Nat) (t2 : Array Value) (H2 : List Blk),fillA P L t H = some (t2,H2) → t.size = s.size →
    (∀ d v v',t[d]? = some v → s[d]? = some v' → (∀ x ∈ L,x.2.1 ≠ d) → VR m v v') → RH m H w →
    (∀ x ∈ L,(x.2.1 < s.size → s[x.2.1]? = some (.pointer (some ⟨js x.1,0,none⟩))) ∧ ∃ z,tzero P x.2.2 = some z ∧ z.cells.toList.all flat1 = true ∧ w.heap[js x.1]? = some (.cells z.cells x.2.2 (0,0))) →
    (∀ x ∈ L,js x.1 ∉ m ∧ G0 ≤ js x.1) → (L.map fun x=>js x.1).Nodup → RA (m ++ L.map fun x=>js x.1) t2 s ∧ RH (m ++ L.map fun x=>js x.1) H2 w
  | [],t,H,m,t2,H2,h,hs,hm,hH,_,_,_=>by
    simp only [fillA,Option.some.injEq,Prod.mk.injEq] at h
    obtain ⟨rfl,rfl⟩:=h
    simp only [List.map_nil,List.append_nil]
    exact ⟨⟨hs,fun i v v' h1 h2=>hm i v v' h1 h2 (fun x hx=>by cases hx)⟩,hH⟩
  | x :: L,t,H,m,t2,H2,h,hs,hm,hH,hL,hf,hn=>by
    obtain ⟨hp,z,hz,hfl,hc⟩:=hL x (by simp)
    simp only [fillA,hz] at h
    split at h
    case isFalse=>cases h
    rename_i hT
    have hr : RA m z.cells z.cells:=⟨rfl,fun i v v' h1 h2=>by rw [h1] at h2; cases h2; exact .pl _ (all_flat1_at hfl h1)⟩
    have hx:=hf x (by simp)
    simp only [List.map_cons,List.nodup_cons] at hn
    have:=fillA_run L _ _ (m ++ [js x.1]) t2 H2 h (by rw [putA_size]; exact hs) (fun d v v' h1 h2 h3=>by
      by_cases e : x.2.1 = d
      · subst e
        have hlt : x.2.1 < s.size:=(Array.getElem?_eq_some_iff.1 h2).1
        rw [hp hlt] at h2
        simp only [putA,Array.getElem?_setIfInBounds_self,hs,hlt,if_true] at h1
        cases h1; cases h2
        exact .ptr _ _ _ _ (by rw [← hH.len]; simp)
      · rw [putA_ne (fun q=>e (Option.some.inj q))] at h1
        exact (hm d v v' h1 h2 (fun y hy=>by
          rcases List.mem_cons.1 hy with rfl | hy
          · exact e
          · exact h3 y hy)).mono _) (hH.snoc hT hc hr hx.1 hx.2) (fun y hy=>hL y (by simp [hy])) (fun y hy=>⟨fun hm'=>by
      rcases List.mem_append.1 hm' with h' | h'
      · exact (hf y (by simp [hy])).1 h'
      · simp at h'
        exact hn.1 (List.mem_map.2 ⟨y,hy,h'⟩),(hf y (by simp [hy])).2⟩) hn.2
    simpa [List.append_assoc] using this
def opsF (P : Program) (E : Eqs) (ops : Array Oper) (H : List Blk) (K : Array Value → T) : List Oper → Array Value → T
  | [],t=>K t
  | o :: rest,t=>if (alT o).isSome = true then opsF P E ops H K rest t else guarded ops o t (fun t=>stepQ P E o t H fun t=>opsF P E ops H K rest t) (fun t=>opsF P E ops H K rest (putA t o.dst undef))
section
variable {P : Program} {E : Eqs} {f : FuncId}
theorem opsF_run (hE : EqsOk P E) {ops : Array Oper} {K : Array Value → T} {R : Value → List Blk → Prop} {m : List Nat} {H : List Blk} {w : World} (hH : RH m H w) {Q : Array Value → Prop}
    (hQ : ∀ t t',RA m t t' → Run P f R (K t) → Q t') :
    ∀ (l : List Oper) (t t' : Array Value),RA m t t' → Run P f R (opsF P E ops H K l t) → wpF P ops w Q l t'
  | [],t,t',ht,h=>hQ t t' ht h
  | o :: l,t,t',ht,h=>by
    have ih:=fun t t'=>opsF_run (ops:=ops) hE hH hQ l t t'
    have hC : ∀ {w'},Below w.heap.size w w' → RH m H w':=fun hb=>hH.below hb
    simp only [wpF]
    simp only [opsF] at h
    by_cases ha : (alT o).isSome = true
    · rw [if_pos ha] at h ⊢
      exact ih t t' ht h
    · rw [if_neg ha] at h ⊢
      have quiet : ∀ (u u' : Value),VR m u u' → (∀ w',Below w.heap.size w w' → ∃ x,(execOp (act t').eval o).run P w' = .ok (.value x) w' ∧ VR m u x) → (opFree o = true → ∀ w',∃ x,(execOp (act t').eval o).run P w' = .ok (.value x) w' ∧ VR m u x) →
          (∀ T x j off,o.op = .load T x → (act t').eval x = .pointer (some ⟨j,off,none⟩) → ∀ w1 w',Below w.heap.size w w1 → w'.heap[j]? = w1.heap[j]? → ∃ x,(execOp (act t').eval o).run P w' = .ok (.value x) w' ∧ VR m u x) → Run P f R (opsF P E ops H K l (putA t o.dst u)) →
          ∃ v,(Still P w o (act t') v ∧ StillAll P w o (act t') v) ∧ wpF P ops w Q l (putA t' o.dst v):=fun u u' hu hr hr2 hr3 h2=>by
        refine ⟨u',⟨fun w' hw'=>?_,fun hfr w'=>?_,fun T x j off ho hx w1 w' hb hj=>?_⟩,ih _ _ (ht.put hu _) h2⟩
        · obtain ⟨x,hx,hv⟩:=hr w' hw'
          left
          rw [hx,hv.fn hu]
        · obtain ⟨x,hx,hv⟩:=hr2 hfr w'
          rw [hx,hv.fn hu]
        · obtain ⟨y,hy,hv⟩:=hr3 T x j off ho hx w1 w' hb hj
          rw [hy,hv.fn hu]
      rcases guarded_run ht h with ⟨hw,h⟩ | ⟨hw,h⟩
      · rw [if_pos hw]
        unfold stepQ at h
        split at h
        · rename_i u hu
          obtain ⟨u',_,hv⟩:=opA_val (w:=w) ht (fun _=>hH) hE hu
          exact quiet u u' hv (fun w' hb=>opA_val (w:=w') ht (fun _=>hC hb) hE hu) (fun hfr w'=>opA_val (w:=w') ht (fun q=>absurd (hfr.symm.trans q) (by simp)) hE hu) (fun T x j off ho hx w1 w' hb hj=>opA_load ht ho hu hx (hC hb) hj) h
        · rename_i c x y hu
          obtain ⟨u',_,hv⟩:=opA_pick (E:=E) ht hu w
          have h2:=run_ite h
          cases c
          · exact quiet y u' hv (fun w' _=>opA_pick (E:=E) ht hu w') (fun _ w'=>opA_pick (E:=E) ht hu w') (fun T x j off ho _ _ _ _ _=>by rcases load_kind (P:=P) (E:=E) (t:=t) (H:=H) ho with ⟨_,q⟩ | ⟨_,q⟩ | q <;> rw [q] at hu <;> cases hu) h2
          · exact quiet x u' hv (fun w' _=>opA_pick (E:=E) ht hu w') (fun _ w'=>opA_pick (E:=E) ht hu w') (fun T x j off ho _ _ _ _ _=>by rcases load_kind (P:=P) (E:=E) (t:=t) (H:=H) ho with ⟨_,q⟩ | ⟨_,q⟩ | q <;> rw [q] at hu <;> cases hu) h2
        · rename_i c u hu
          have h2:=run_ite h
          cases c
          · exact (run_fail h2).elim
          · obtain ⟨u',_,hv⟩:=opA_chk hE ht hu rfl w
            exact quiet u u' hv (fun w' _=>opA_chk hE ht hu rfl w') (fun _ w'=>opA_chk hE ht hu rfl w') (fun T x j off ho _ _ _ _ _=>by rcases load_kind (P:=P) (E:=E) (t:=t) (H:=H) ho with ⟨_,q⟩ | ⟨_,q⟩ | q <;> rw [q] at hu <;> cases hu) h2
        · rename_i g args hu
          cases h with
          | qcall _ sel H0 args0 _ _ u hF hfl hs hcc hsn hok hk2=>
            refine ⟨u,⟨fun w' hb=>?_,fun hfr=>absurd (hfr.symm.trans (free_enter hu)) (by simp),(fun T x j off ho _ _ _ _ _=>by rcases load_kind (P:=P) (E:=E) (t:=t) (H:=H) ho with ⟨_,q⟩ | ⟨_,q⟩ | q <;> rw [q] at hu <;> cases hu)⟩,ih _ _ (ht.put (VR.refl_of_flat _ hfl) _) hk2⟩
            obtain ⟨args',hr,ha⟩:=opA_enter (E:=E) ht hu hF.1 w'
            exact .inr ⟨_,_,hr,call_reads (hC hb) hF hfl hs hcc hsn hok ha⟩
          | qcalm _ zs Z args0 _ _ u hF hfl hU hz hzc hsn hok hk2=>
            refine ⟨u,⟨fun w' hb=>?_,fun hfr=>absurd (hfr.symm.trans (free_enter hu)) (by simp),(fun T x j off ho _ _ _ _ _=>by rcases load_kind (P:=P) (E:=E) (t:=t) (H:=H) ho with ⟨_,q⟩ | ⟨_,q⟩ | q <;> rw [q] at hu <;> cases hu)⟩,ih _ _ (ht.put (VR.refl_of_flat _ hfl) _) hk2⟩
            obtain ⟨args',hr,ha⟩:=opA_enter (E:=E) ht hu hF.1 w'
            exact .inr ⟨_,_,hr,call_calm (hC hb) hF hfl hU hz hzc hsn hok ha⟩
        · exact (run_fail h).elim
      · rw [if_neg (by rw [hw]; simp)]
        exact ih _ _ (ht.put (VR.undef _) _) h
def headLen (ops : Array Oper) : Nat:=(ops.toList.takeWhile fun o=>!writes o || (alT o).isSome).length
def floats (P : Program) (ops : Array Oper) : Bool:=ops.toList.any (fun o=>(alT o).isSome) && floatB ops (headLen ops) && allocsOk P ops (headLen ops)
def tailF (P : Program) (E : Eqs) (ops : Array Oper) (K : Array Value → List Blk → T) (n : Nat) (H : List Blk) (t : Array Value) : T:=
  match fillA P (allocsOf ops n) t H with
  | some (t2,H2)=>opsN P E ops K (ops.toList.drop n) t2 H2
  | none=>.fail
def regionG (P : Program) (E : Eqs) (ops : Array Oper) (draw : Bool) (K : Array Value → List Blk → T) (t : Array Value) (H : List Blk) : T:=
  if (draw && floats P ops) = true then opsF P E ops H (tailF P E ops K (headLen ops) H) (ops.toList.take (headLen ops)) t
  else regionA P E ops draw K t H
theorem regionG_run (hE : EqsOk P E) (hm : P.follows .mixedOrders = true) {id : Nat} {ops : Array Oper} {draw : Bool} {K : Array Value → List Blk → T} {R : Value → List Blk → Prop} {m : List Nat} {t t' : Array Value} {H : List Blk} {w : World}
    (ht : RA m t t') (hH : RH m H w) (h : Run P f R (regionG P E ops draw K t H)) : (Code.region id ops draw).wp P (QN P f m w K R) (act t') w:=by
  unfold regionG at h
  by_cases hc : (draw && floats P ops) = true
  case neg=>rw [if_neg hc] at h; exact regionA_run hE hm ht hH h
  rw [if_pos hc] at h
  simp only [floats,Bool.and_eq_true] at hc
  obtain ⟨rfl,⟨_,hB⟩,hA⟩:=hc
  generalize headLen ops = n at *
  have F:=floatB_spec hB
  have hsz : n ≤ ops.size:=F.lt
  have hA' : ∀ x ∈ allocsOf ops n,∃ z,tzero P x.2.2 = some z ∧ z.cells.toList.all flat1 = true:=fun x hx=>by
    have:=List.all_eq_true.1 hA x hx
    cases hz : tzero P x.2.2 with
    | none=>simp [hz] at this
    | some z=>simp only [hz] at this; exact ⟨z,rfl,this⟩
  have hH1 : RH m H { w with drawn:=w.drawn + 1 }:=⟨hH.len,hH.nodup,hH.blk,hH.inv.keep (Nat.le_refl _) (fun _ _=>rfl),hH.far⟩
  refine wp_region_float n hm hB (fun k o d T hk ho hal=>?_) ?_
  · obtain ⟨z,hz,_⟩:=hA' (k,d,T) (mem_allocsOf.2 ⟨hk,o,ho,hal⟩)
    exact ⟨z,hz⟩
  · refine opsF_run hE hH1 (fun t t' ht h c s2 w' js hcn hchain inv=>?_) _ t t' ht h
    unfold tailF at h
    cases hfill : fillA P (allocsOf ops n) t H with
    | none=>simp only [hfill] at h; exact (run_fail h).elim
    | some p=>
      obtain ⟨t2,H2⟩:=p
      simp only [hfill] at h
      have hl : ∀ j,j < n → (listedN n ops.size).getD j false = true:=fun j hj=>by
        have : j < ops.size:=by omega
        simp [listedN,this,hj]
      have hgo:=fillA_run (s:=s2) (w:=w') (js:=js) (allocsOf ops n) t H m t2 H2 hfill (by rw [ht.size,← hcn,chain_size hchain hsz n (Nat.le_refl _),inv.size]) (fun d v v' h1 h2 h3=>?_) (hH1.below inv.below) (fun x hx=>?_) (fun x hx=>⟨fun hmem=>?_,by
        obtain ⟨hxn,o,ho,hal⟩:=mem_allocsOf.1 hx
        obtain ⟨_,z,_,_,h4⟩:=inv.al x.1 o x.2.1 x.2.2 hxn (hl _ hxn) ho hal
        exact Nat.le_trans hH1.inv.low h4⟩) ?_
      · refine opsN_run hE _ _ t2 s2 H2 w' hgo.1 hgo.2 (fun j hj=>?_) ⟨inv.below.os,inv.below.tape,inv.below.output,inv.below.size,fun k hk _=>inv.below.block k hk⟩ h
        obtain ⟨x,hx,rfl⟩:=List.mem_map.1 hj
        obtain ⟨hxn,o,ho,hal⟩:=mem_allocsOf.1 hx
        obtain ⟨_,z,_,_,h4⟩:=inv.al x.1 o x.2.1 x.2.2 hxn (hl _ hxn) ho hal
        exact h4
      · refine ht.at_ d v v' h1 ?_
        rw [← h2,← hcn]
        by_cases hx : ∃ j oj,j < n ∧ ops[j]? = some oj ∧ oj.dst = some d
        · obtain ⟨j,oj,hj,hoj,hdj⟩:=hx
          have hal : alT oj = none:=by
            cases q : alT oj with
            | none=>rfl
            | some p=>
              obtain ⟨d',T'⟩:=p
              have e : d' = d:=Option.some.inj ((alT_spec q).2.2.symm.trans hdj)
              exact absurd e (h3 (j,d',T') (mem_allocsOf.2 ⟨hj,oj,hoj,q⟩))
          rw [inv.new j oj d hj (hl j hj) hoj hal hdj]
          exact chain_far hchain n (by omega) (Nat.le_refl _) (fun k ok q1 q2 hk=>by
            by_cases q : ok.dst = some d
            · have:=F.one j k oj ok d hj q2 hoj hk hdj q
              omega
            · exact .inl q) hsz
        · have hno : ∀ j oj,j < n → ops[j]? = some oj → oj.dst ≠ some d:=fun j oj hj hoj hdj=>hx ⟨j,oj,hj,hoj,hdj⟩
          rw [inv.old d fun j oj hj _ hoj=>hno j oj hj hoj]
          exact chain_far hchain n (Nat.zero_le _) (Nat.le_refl _) (fun k ok q1 q2 hk=>.inl (hno k ok q2 hk)) hsz
      · obtain ⟨hxn,o,ho,hal⟩:=mem_allocsOf.1 hx
        obtain ⟨k1,z,k2,k3,_⟩:=inv.al x.1 o x.2.1 x.2.2 hxn (hl _ hxn) ho hal
        obtain ⟨z',q1,q2⟩:=hA' x hx
        have : z' = z:=Option.some.inj (q1.symm.trans k2)
        subst this
        exact ⟨k1,z',k2,q2,k3⟩
      · obtain ⟨hxn,o,ho,hal⟩:=mem_allocsOf.1 hx
        obtain ⟨_,z,_,_,h4⟩:=inv.al x.1 o x.2.1 x.2.2 hxn (hl _ hxn) ho hal
        have:=hH1.lt_of_mem hmem
        omega
      · have hp : (allocsOf ops n).Pairwise fun x y=>x.1 ≠ y.1:=by
          unfold allocsOf
          rw [List.pairwise_filterMap]
          refine List.Pairwise.imp ?_ (List.nodup_range (n:=n))
          intro a b hab x hx y hy
          simp only [Option.map_eq_some_iff] at hx hy
          obtain ⟨_,_,rfl⟩:=hx
          obtain ⟨_,_,rfl⟩:=hy
          exact hab
        rw [List.Nodup,List.pairwise_map]
        refine List.Pairwise.imp_of_mem ?_ hp
        intro x y hx hy hxy he
        obtain ⟨hxn,o,ho,hal⟩:=mem_allocsOf.1 hx
        obtain ⟨hyn,o2,ho2,hal2⟩:=mem_allocsOf.1 hy
        exact hxy (inv.dis x.1 y.1 o o2 hxn hyn (hl _ hxn) (hl _ hyn) ho ho2 (by rw [hal]; rfl) (by rw [hal2]; rfl) he)
end
end Go.Proofs.YtfhnlkinjbakgaaGreatDoor.Abs
namespace Go.Proofs.YtfhnlkinjbakgaaGreatDoor.Abs
open Go Go.RowKit
def isSt (o : Oper) : Bool:=(match o.op with | .store ..=>true | _=>false) && o.guard.isNone && o.dst.isNone
def isLd (_ : Array Oper) (_ : Nat) (o : Oper) : Option Tmp:=
  match o.op with
  | .load _ (.tmp d)=>some d
  | _=>none
def waitsT (ops : Array Oper) : Nat → Nat → Nat → Bool
  | 0,i,k=>Region.waitsFor .any ops i k
  | f + 1,i,k=>Region.waitsFor .any ops i k || (List.range i).any fun j=>Region.waitsFor .any ops i j && waitsT ops f j k
def behind (ops : Array Oper) (n k : Nat) (o : Oper) : Bool:=!opFree o && !waitsT ops 6 n k
def stLen (ops : Array Oper) (n : Nat) : Nat:=((ops.toList.drop n).takeWhile isSt).length
def lateB (ops : Array Oper) (n k : Nat) : Bool:=
  Region.noSelect ops && decide (0 < k) && decide (n + k ≤ ops.size) && (decide (n + k = ops.size) || (Region.sinkB .any ops (n + k) && Region.chainB .any ops (n + k))) && Region.seqB .any ops (ops.size - (n + k)) (n + k) (listedN (n + k) ops.size) &&
  ((List.range n).all fun k=>match ops[k]? with
    | some o=>(o.after.toList.all fun e=>!Region.binds .any e || decide (e.on < k)) && ((List.range n).all fun j=>floatAt ops j k o) && (!behind ops n k o || (isLd ops n o).isSome)
    | none=>false) &&
  ((List.range k).all fun q=>match ops[n + q]? with
    | some o=>isSt o && (o.after.toList.all fun e=>!Region.binds .any e || decide (e.on < n + q)) && (decide (q = 0) || Region.waitsFor .any ops (n + q) (n + q - 1)) && (List.range n).all fun j=>match ops[j]? with
        | some oj=>match oj.dst with | some d=>!(readsT ops o).contains d || Region.waitsFor .any ops (n + q) j | none=>true
        | none=>true
    | none=>false)
section
variable {P : Program} {ops : Array Oper} {w0 : World}
structure StOk (ops : Array Oper) (n q : Nat) (S : Oper) : Prop where
  at_ : ops[n + q]? = some S
  st : isSt S = true
  back : ∀ e ∈ S.after,Region.binds .any e = true → e.on < n + q
  prev : q = 0 ∨ Region.waitsFor .any ops (n + q) (n + q - 1) = true
  reads : ∀ j oj d,j < n → ops[j]? = some oj → oj.dst = some d → d ∈ readsT ops S → Region.waitsFor .any ops (n + q) j = true
structure LateOk (ops : Array Oper) (n k : Nat) : Prop extends FloatBase ops n where
  pos : 0 < k
  lt2 : n + k ≤ ops.size
  tail : n + k = ops.size ∨ (Region.sinkB .any ops (n + k) = true ∧ Region.chainB .any ops (n + k) = true)
  seq : Region.seqB .any ops (ops.size - (n + k)) (n + k) (listedN (n + k) ops.size) = true
  free : ∀ k o,k < n → ops[k]? = some o → behind ops n k o = true → (isLd ops n o).isSome = true
  sts : ∀ q,q < k → ∃ S,StOk ops n q S
theorem lateB_spec {n k : Nat} (h : lateB ops n k = true) : LateOk ops n k:=by
  unfold lateB at h
  simp only [Bool.and_eq_true,Bool.or_eq_true,decide_eq_true_eq] at h
  obtain ⟨⟨⟨⟨⟨⟨h1,h2⟩,h3⟩,h4⟩,h5⟩,h6⟩,h7⟩:=h
  have hk : ∀ k o,k < n → ops[k]? = some o → ((o.after.toList.all fun e=>!Region.binds .any e || decide (e.on < k)) = true ∧ ∀ j,j < n → floatAt ops j k o = true) ∧ (behind ops n k o = false ∨ (isLd ops n o).isSome = true):=fun k o hk ho=>by
    have:=List.all_eq_true.1 h6 k (List.mem_range.2 hk)
    simp only [ho,Bool.and_eq_true,Bool.or_eq_true,Bool.not_eq_true'] at this
    exact ⟨⟨this.1.1,fun j hj=>List.all_eq_true.1 this.1.2 j (List.mem_range.2 hj)⟩,this.2⟩
  have hf:=floatAt_spec (n:=n) fun k o hkn ho=>(hk k o hkn ho).1.2
  refine ⟨⟨h1,by omega,fun k o hkn ho e he hb=>back_spec (hk k o hkn ho).1.1 e he hb,hf.1,hf.2⟩,h2,h3,h4,h5,fun k o hkn ho hfr=>?_,fun q hq=>?_⟩
  · rcases (hk k o hkn ho).2 with q | q
    · rw [hfr] at q; cases q
    · exact q
  · have:=List.all_eq_true.1 h7 q (List.mem_range.2 hq)
    cases hS : ops[n + q]? with
    | none=>simp [hS] at this
    | some S=>
      simp only [hS,Bool.and_eq_true,Bool.or_eq_true,decide_eq_true_eq] at this
      obtain ⟨⟨⟨k1,k2⟩,k3⟩,k4⟩:=this
      refine ⟨S,hS,k1,fun e he hb=>back_spec k2 e he hb,k3,fun j oj d hj hoj hd hr=>?_⟩
      have:=List.all_eq_true.1 k4 j (List.mem_range.2 hj)
      simp only [hoj,hd,Bool.or_eq_true] at this
      rcases this with q | q
      · have : (readsT ops S).contains d = true:=by simpa using hr
        rw [this] at q; cases q
      · exact q
theorem InvF.congr {n : Nat} {c : Nat → Array Value} {l l2 : Array Bool} {s : Array Value} {w : World} {js : Nat → Nat} (inv : InvF P ops w0 n c l s w js) (h : ∀ j,j < n → l2.getD j false = l.getD j false) : InvF P ops w0 n c l2 s w js:=
  ⟨inv.size,fun d hd=>inv.old d fun j o hj hl=>hd j o hj (by rw [h j hj]; exact hl),fun j o d hj hl=>inv.new j o d hj (by rw [← h j hj]; exact hl),fun j o d T hj hl=>inv.al j o d T hj (by rw [← h j hj]; exact hl),
    fun j k oj ok hj hk hl hl2=>inv.dis j k oj ok hj hk (by rw [← h j hj]; exact hl) (by rw [← h k hk]; exact hl2),inv.below⟩
theorem left_congr {l l2 : Array Bool} : ∀ n,(∀ j,j < n → l2.getD j false = l.getD j false) → left n l2 = left n l
  | 0,_=>rfl
  | n + 1,h=>by
    have e : ∀ l : Array Bool,left (n + 1) l = left n l + (if l.getD n false = true then 0 else 1):=fun l=>by
      simp only [left,List.range_succ,List.countP_append,List.countP_singleton]
      cases l.getD n false <;> rfl
    rw [e,e,left_congr n fun j hj=>h j (by omega),h n (by omega)]
theorem InvF.same {n : Nat} {c : Nat → Array Value} {l l2 : Array Bool} {s s2 : Array Value} {w w2 : World} {js : Nat → Nat} {k q : Nat} {S : Oper} (L : LateOk ops n k) (hS : StOk ops n q S) (inv : InvF P ops w0 n c l s w js) (inv2 : InvF P ops w0 n c l2 s2 w2 js)
    (h1 : ∀ j,j < n → Region.waitsFor .any ops (n + q) j = true → l.getD j false = true) (h2 : ∀ j,j < n → l.getD j false = true → l2.getD j false = true) : execOp (act s).eval S = execOp (act s2).eval S:=by
  refine execOp_congr S (fun cs b=>Region.noSelect_spec L.sel (n + q) S cs b hS.at_) fun x hx=>?_
  cases x with
  | tmp d=>
    have hd : d ∈ readsT ops S:=by
      unfold readsT
      exact List.mem_append_left _ (List.mem_filterMap.2 ⟨.tmp d,by simpa using hx,rfl⟩)
    have e : s[d]? = s2[d]?:=by
      by_cases qq : ∃ j oj,j < n ∧ ops[j]? = some oj ∧ oj.dst = some d
      · obtain ⟨j,oj,hj,hoj,hdj⟩:=qq
        have hl:=h1 j hj (hS.reads j oj d hj hoj hdj hd)
        cases ha : alT oj with
        | none=>rw [inv.new j oj d hj hl hoj ha hdj,inv2.new j oj d hj (h2 j hj hl) hoj ha hdj]
        | some p=>
          obtain ⟨d',T⟩:=p
          have : d' = d:=Option.some.inj ((alT_spec ha).2.2.symm.trans hdj)
          subst this
          by_cases hlt : d' < s.size
          · rw [(inv.al j oj d' T hj hl hoj ha).1 hlt,(inv2.al j oj d' T hj (h2 j hj hl) hoj ha).1 (by rw [inv2.size,← inv.size]; exact hlt)]
          · rw [Array.getElem?_eq_none (Nat.le_of_not_lt hlt),Array.getElem?_eq_none (by rw [inv2.size,← inv.size]; exact Nat.le_of_not_lt hlt)]
      · have hno : ∀ j oj,j < n → ops[j]? = some oj → oj.dst ≠ some d:=fun j oj hj hoj hdj=>qq ⟨j,oj,hj,hoj,hdj⟩
        rw [inv.old d fun j oj hj _ hoj=>hno j oj hj hoj,inv2.old d fun j oj hj _ hoj=>hno j oj hj hoj]
    show s.getD d undef = s2.getD d undef
    simp only [Array.getD_eq_getD_getElem?,e]
  | _=>rfl
theorem isLd_spec {n : Nat} {o : Oper} {d : Tmp} (h : isLd ops n o = some d) : ∃ T,o.op = .load T (.tmp d):=by
  unfold isLd at h
  split at h
  · rename_i T d' ho
    cases h
    exact ⟨T,ho⟩
  · cases h
theorem alT_of_free {o : Oper} (h : opFree o = true) : alT o = none:=by
  cases q : alT o with
  | none=>rfl
  | some p=>
    obtain ⟨d,T⟩:=p
    simp [opFree,(alT_spec q).1] at h
theorem alT_of_ld {n : Nat} {o : Oper} {d : Tmp} (h : isLd ops n o = some d) : alT o = none:=by
  obtain ⟨T,ho⟩:=isLd_spec h
  unfold alT
  simp [ho]
theorem waitsT_listed {N : Nat} {listed : Array Bool} (hd : HeadInv .any ops N listed) : ∀ (f i k : Nat),listed.getD i false = true → waitsT ops f i k = true → listed.getD k false = true
  | 0,i,k,hi,h=>by
    obtain ⟨o,ho,e,he,hb,hon⟩:=Region.waitsFor_spec h
    have:=hd.closed i o ho hi e he hb
    rwa [hon] at this
  | f + 1,i,k,hi,h=>by
    simp only [waitsT,Bool.or_eq_true] at h
    rcases h with h | h
    · exact waitsT_listed hd 0 i k hi h
    · obtain ⟨j,_,hj⟩:=List.any_eq_true.1 h
      simp only [Bool.and_eq_true] at hj
      exact waitsT_listed hd f j k (waitsT_listed hd 0 i j hi hj.1) hj.2
theorem LateOk.rest {n k : Nat} {S : Oper} (L : LateOk ops n k) (hS : ops[n]? = some S) {N : Nat} {listed : Array Bool} (hd : HeadInv .any ops N listed) (hr : ∀ e ∈ S.after,Region.binds .any e = true → listed.getD e.on false = true) {j : Nat} {o : Oper} (hj : j < n) (ho : ops[j]? = some o) (hl : listed.getD j false = false) :
    opFree o = true ∨ ∃ d,isLd ops n o = some d ∧ opFree o = false ∧ waitsT ops 6 n j = false:=by
  cases q : opFree o with
  | true=>exact .inl rfl
  | false=>
    right
    have hw : waitsT ops 6 n j = false:=by
      cases hw : waitsT ops 6 n j with
      | false=>rfl
      | true=>
        have direct : ∀ i,Region.waitsFor .any ops n i = true → listed.getD i false = true:=fun i hi=>by
          obtain ⟨o2,ho2,e,he,hb,hon⟩:=Region.waitsFor_spec hi
          have : o2 = S:=Option.some.inj (ho2.symm.trans hS)
          subst this
          have:=hr e he hb
          rwa [hon] at this
        have : listed.getD j false = true:=by
          have h2 : waitsT ops (5 + 1) n j = true:=hw
          simp only [waitsT.eq_2,Bool.or_eq_true] at h2
          rcases h2 with h2 | h2
          · exact direct j h2
          · obtain ⟨i,_,hi⟩:=List.any_eq_true.1 h2
            simp only [Bool.and_eq_true] at hi
            exact waitsT_listed hd 5 i j (direct i hi.1) hi.2
        rw [hl] at this; cases this
    obtain ⟨d,hd1⟩:=Option.isSome_iff_exists.1 (L.free j o hj ho (by simp [behind,q,hw]))
    exact ⟨d,hd1,rfl,hw⟩
theorem InvF.complete {n : Nat} {c : Nat → Array Value} {k : Nat} (L : LateOk ops n k) (hc : ∀ k o,k < n → ops[k]? = some o → StepF P ops w0 o (c k) (c (k + 1))) :
    ∀ (f : Nat) (listed : Array Bool) (s : Array Value) (w : World) (js : Nat → Nat),listed.size = ops.size → left n listed = f → (∀ j o,j < n → ops[j]? = some o → listed.getD j false = false → alT o = none) → InvF P ops w0 n c listed s w js →
      ∃ s2 l2,InvF P ops w0 n c l2 s2 w js ∧ (∀ j,j < n → l2.getD j false = true)
  | 0,listed,s,w,js,_,hf,_,inv=>⟨s,listed,inv,left_zero n hf⟩
  | f + 1,listed,s,w,js,hsz,hf,hfr,inv=>by
    obtain ⟨i,hi,hu,hmin⟩:=left_pos n (by omega : left n listed ≠ 0)
    have hlt:=L.lt
    have ho : ops[i]? = some ops[i]:=Array.getElem?_eq_getElem (by omega)
    have hr : i ∈ Region.ready .any ops listed:=mem_ready.2 ⟨getD_in (by omega) hu,_,ho,fun e he hb=>hmin _ (L.back i _ hi ho e he hb)⟩
    have hleft : left n (listed.setIfInBounds i true) = f:=by have:=(left_set hu (by omega : i < listed.size) n).1 hi; omega
    have al:=hfr i _ hi ho hu
    rcases hc i _ hi ho with ⟨ha,_⟩ | ⟨_,v,hv,_⟩
    · rw [al] at ha; cases ha
    · exact InvF.complete L hc f _ _ w js (by simp [hsz]) hleft (fun j o hj hoj hl=>hfr j o hj hoj (by
        by_cases e : i = j
        · subst e; exact hu
        · rwa [getD_set_ne false e] at hl)) (inv.put L.toFloatBase hc hsz hi ho al hv (Below.refl _ _))
theorem St.alone {S : Oper} (h : isSt S = true) : S.guard = none ∧ S.dst = none ∧ opFree S = false ∧ alT S = none:=by
  unfold isSt at h
  simp only [Bool.and_eq_true,Option.isNone_iff_eq_none] at h
  obtain ⟨⟨h1,h2⟩,h3⟩:=h
  refine ⟨h2,h3,?_,?_⟩
  · cases ho : S.op <;> simp [ho] at h1 <;> simp [opFree,ho]
  · unfold alT
    rw [h2,h3]
    split <;> simp_all
def Ran (P : Program) (S : Oper) (s : Array Value) (w w' : World) : Prop:=(execOp (act s).eval S).run P w = .ok .skip w' ∨ ∃ v,(execOp (act s).eval S).run P w = .ok (.value v) w'
theorem Ran.fn {S : Oper} {s : Array Value} {w a b : World} (h : Ran P S s w a) (k : Ran P S s w b) : a = b:=by
  rcases h with h | ⟨v,h⟩ <;> rcases k with k | ⟨u,k⟩ <;> rw [h] at k <;> cases k <;> rfl
def stAt (S : Oper) : Option Tmp:=
  match S.op with
  | .store _ (.tmp d) _=>some d
  | _=>none
def FarS (S : Oper) (s : Array Value) (w w' : World) : Prop:=∀ d j off,stAt S = some d → s[d]? = some (.pointer (some ⟨j,off,none⟩)) → ∀ k,k ≠ j → w'.heap[k]? = w.heap[k]?
def RanL (P : Program) (s : Array Value) : List Oper → World → World → Prop
  | [],w,w'=>w' = w
  | S :: l,w,w'=>∃ wm,Ran P S s w wm ∧ RanL P s l wm w'
def RanF (P : Program) (s : Array Value) : List Oper → World → World → Prop
  | [],w,w'=>w' = w
  | S :: l,w,w'=>∃ wm,(Ran P S s w wm ∧ FarS S s w wm) ∧ RanF P s l wm w'
theorem RanF.forget {s : Array Value} : ∀ {l : List Oper} {w w' : World},RanF P s l w w' → RanL P s l w w'
  | [],_,_,h=>h
  | _ :: _,_,_,⟨wm,h1,h2⟩=>⟨wm,h1.1,h2.forget⟩
theorem RanL.fn {s : Array Value} : ∀ {l : List Oper} {w a b : World},RanL P s l w a → RanL P s l w b → a = b
  | [],_,_,_,h1,h2=>h1.trans h2.symm
  | _ :: _,_,_,_,⟨_,h1,h2⟩,⟨_,k1,k2⟩=>by
    have:=h1.fn k1
    subst this
    exact h2.fn k2
theorem RanL.same {s s2 : Array Value} : ∀ {l : List Oper} {w w' : World},(∀ S ∈ l,execOp (act s).eval S = execOp (act s2).eval S) → RanL P s l w w' → RanL P s2 l w w'
  | [],_,_,_,h=>h
  | S :: l,_,_,he,⟨wm,h1,h2⟩=>⟨wm,by unfold Ran at h1 ⊢; rw [← he S (by simp)]; exact h1,h2.same fun S hS=>he S (by simp [hS])⟩
theorem RanL.snoc {s : Array Value} {S : Oper} : ∀ {l : List Oper} {w wm w' : World},RanL P s l w wm → Ran P S s wm w' → RanL P s (l ++ [S]) w w'
  | [],_,_,w',h,h2=>by cases h; exact ⟨w',h2,rfl⟩
  | _ :: _,_,_,_,⟨wn,h1,h2⟩,h3=>⟨wn,h1,h2.snoc h3⟩
theorem RanF.part {s : Array Value} : ∀ {l l2 : List Oper} {w w' : World},RanF P s (l ++ l2) w w' → ∃ wm,RanF P s l w wm ∧ RanF P s l2 wm w'
  | [],_,w,_,h=>⟨w,rfl,h⟩
  | _ :: _,_,_,_,⟨wn,h1,h2⟩=>by
    obtain ⟨wm,k1,k2⟩:=h2.part
    exact ⟨wm,⟨wn,h1,k1⟩,k2⟩
def storesOf (ops : Array Oper) (n k : Nat) : List Oper:=(ops.toList.drop n).take k
theorem storesOf_at {n k q : Nat} (hq : q < k) : (storesOf ops n k)[q]? = ops[n + q]?:=by
  unfold storesOf
  rw [List.getElem?_take_of_lt hq,List.getElem?_drop,Array.getElem?_toList]
theorem stores_mem {n k q : Nat} {S : Oper} (hqk : q ≤ k) (h : S ∈ (storesOf ops n k).take q) : ∃ r,r < q ∧ ops[n + r]? = some S:=by
  obtain ⟨r,hr,rfl⟩:=List.getElem_of_mem h
  rw [List.length_take] at hr
  refine ⟨r,by omega,?_⟩
  rw [← storesOf_at (k:=k) (by omega),List.getElem_take]
  exact List.getElem?_eq_getElem (by omega)
theorem stores_split {n k q : Nat} {S : Oper} (hq : q < k) (hS : ops[n + q]? = some S) : (storesOf ops n k).take (q + 1) = (storesOf ops n k).take q ++ [S]:=by
  have h : (storesOf ops n k)[q]? = some S:=by rw [storesOf_at hq]; exact hS
  rw [List.take_add_one,h]
  rfl
theorem LateOk.no_tail {n k : Nat} (L : LateOk ops n k) {listed : Array Bool} (hd : HeadInv .any ops (n + k) listed) {i0 : Nat} (hi0 : i0 < n + k) (hu : listed.getD i0 false = false) {i : Nat} (hi : i ∈ Region.ready .any ops listed) : i < n + k:=by
  rcases Nat.lt_or_ge i (n + k) with h | h
  · exact h
  · obtain ⟨_,o,ho,_⟩:=mem_ready.1 hi
    have hlt:=(Array.getElem?_eq_some_iff.1 ho).1
    rcases L.tail with h2 | ⟨h2,h3⟩
    · omega
    · have hsz:=hd.size
      have hlt2:=L.lt2
      exact absurd hi (tail_waits h2 h3 (by omega) hd _ i0 rfl hi0 (getD_in (by omega) hu) i h)
theorem wpAny_late {n k : Nat} {c : Nat → Array Value} {Q : Exit → Act → World → Prop} (L : LateOk ops n k) (hc : ∀ k o,k < n → ops[k]? = some o → StepF P ops w0 o (c k) (c (k + 1)))
    (hz : ∀ k o d T,k < n → ops[k]? = some o → alT o = some (d,T) → ∃ z,tzero P T = some z)
    (hld : ∀ kk o d,kk < n → ops[kk]? = some o → opFree o = false → isLd ops n o = some d → waitsT ops 6 n kk = false → ∃ j off,(c kk)[d]? = some (.pointer (some ⟨j,off,none⟩)) ∧
      ∀ s w js l,InvF P ops w0 n c l s w js → (∀ j,j < n → l.getD j false = true) → ∀ q wq,q ≤ k → RanF P s ((storesOf ops n k).take q) w wq → wq.heap[j]? = w.heap[j]?)
    (hQ : ∀ s w js l,InvF P ops w0 n c l s w js → (∀ j,j < n → l.getD j false = true) → ∃ w',RanF P s (storesOf ops n k) w w' ∧ wpAny P .any ops Q (ops.size - (n + k)) (listedN (n + k) ops.size) (act s) w') :
    ∀ (f q : Nat) (listed : Array Bool) (s : Array Value) (w wq : World) (js : Nat → Nat),q ≤ k → HeadInv .any ops (n + k) listed → (∀ r,r < k → listed.getD (n + r) false = decide (r < q)) → left n listed + (k - q) = f → InvF P ops w0 n c listed s w js →
      RanL P s ((storesOf ops n k).take q) w wq → wpAny P .any ops Q (f + (ops.size - (n + k))) listed (act s) wq:=by
  intro f
  induction f with
  | zero=>
    intro q listed s w wq js hqk hd hls hf inv hr
    have hq : q = k:=by omega
    subst hq
    have hl0 : left n listed = 0:=by omega
    have e : listed = listedN (n + q) ops.size:=by
      refine Array.ext (by rw [hd.size]; simp [listedN]) fun i h1 h2=>?_
      simp only [listedN,List.getElem_toArray,List.getElem_map,List.getElem_range]
      by_cases hi : i < n
      · have:=left_zero n hl0 i hi
        have h3 : i < n + q:=by omega
        simp only [h3,decide_true]
        simpa [Array.getD,h1] using this
      · by_cases hi2 : i < n + q
        · have:=hls (i - n) (by omega)
          rw [show n + (i - n) = i by omega] at this
          have h3 : i - n < q:=by omega
          simp only [hi2,h3,decide_true] at this ⊢
          simpa [Array.getD,h1] using this
        · have:=hd.tail i (by omega) (by rw [← hd.size]; exact h1)
          simp only [hi2,decide_false]
          simpa [Array.getD,h1] using this
    obtain ⟨w2,h2,h3⟩:=hQ s w js listed inv (left_zero n hl0)
    have hlen : (storesOf ops n q).take q = storesOf ops n q:=List.take_of_length_le (by unfold storesOf; rw [List.length_take]; omega)
    rw [hlen] at hr
    rw [Nat.zero_add,e,hr.fn h2.forget]
    exact h3
  | succ f ih=>
    intro q listed s w wq js hqk hd hls hf inv hr
    have hsz:=hd.size
    have hlt:=L.lt2
    have hpos:=L.pos
    obtain ⟨S0,hS0⟩:=L.sts 0 hpos
    have hS0at : ops[n]? = some S0:=hS0.at_
    obtain ⟨i0,hi0,hu0,r0⟩ : ∃ i0,i0 < n + k ∧ listed.getD i0 false = false ∧ i0 ∈ Region.ready .any ops listed:=by
      by_cases hl : left n listed = 0
      · have hq : q < k:=by omega
        obtain ⟨S,hS⟩:=L.sts q hq
        have hu : listed.getD (n + q) false = false:=by rw [hls q hq]; simp
        refine ⟨n + q,by omega,hu,mem_ready.2 ⟨getD_in (by omega) hu,S,hS.at_,fun e he hb=>?_⟩⟩
        have hon:=hS.back e he hb
        by_cases h : e.on < n
        · exact left_zero n hl _ h
        · have:=hls (e.on - n) (by omega)
          rw [show n + (e.on - n) = e.on by omega] at this
          rw [this]
          exact decide_eq_true (by omega)
      · obtain ⟨i0,hi0,hu0,hmin⟩:=left_pos n hl
        have ho0 : ops[i0]? = some ops[i0]:=Array.getElem?_eq_getElem (by omega)
        exact ⟨i0,by omega,hu0,mem_ready.2 ⟨getD_in (by omega) hu0,_,ho0,fun e he hb=>hmin _ (L.back i0 _ hi0 ho0 e he hb)⟩⟩
    rw [show f + 1 + (ops.size - (n + k)) = (f + (ops.size - (n + k))) + 1 by omega]
    refine ⟨fun h=>(by rw [h] at r0; cases r0),fun i hi=>?_⟩
    have hin1:=L.no_tail hd hi0 hu0 hi
    obtain ⟨hiu,o,ho,hall⟩:=mem_ready.1 hi
    have hu:=getD_both hiu
    have hnext:=hd.set hi hin1
    have done : ∀ r S,r < q → StOk ops n r S → ∀ j,j < n → Region.waitsFor .any ops (n + r) j = true → listed.getD j false = true:=fun r S hrq hS j _ hj=>by
      obtain ⟨oS,hoS,e,he,hb,hon⟩:=Region.waitsFor_spec hj
      have hl : listed.getD (n + r) false = true:=by rw [hls r (by omega)]; exact decide_eq_true hrq
      have:=hd.closed (n + r) oS hoS hl e he hb
      rwa [hon] at this
    have first : 0 < q → ∀ e ∈ S0.after,Region.binds .any e = true → listed.getD e.on false = true:=fun h e he hb=>by
      have hl : listed.getD n false = true:=by have:=hls 0 hpos; rw [Nat.add_zero] at this; rw [this]; exact decide_eq_true h
      exact hd.closed n S0 hS0at hl e he hb
    have sameL : ∀ {l2 s2 w2},InvF P ops w0 n c l2 s2 w2 js → (∀ j,j < n → listed.getD j false = true → l2.getD j false = true) → RanL P s2 ((storesOf ops n k).take q) w wq:=fun inv2 h2=>by
      refine hr.same fun S hS=>?_
      obtain ⟨r,hrq,hSr⟩:=stores_mem hqk hS
      obtain ⟨S',hS'⟩:=L.sts r (by omega)
      have : S' = S:=Option.some.inj (hS'.at_.symm.trans hSr)
      subst this
      exact inv.same L hS' inv2 (done r S' hrq hS') h2
    by_cases hin : i < n
    · have hleft : left n (listed.setIfInBounds i true) + (k - q) = f:=by have:=(left_set hu (by omega : i < listed.size) n).1 hin; omega
      have hls' : ∀ r,r < k → (listed.setIfInBounds i true).getD (n + r) false = decide (r < q):=fun r hrk=>by rw [getD_set_ne false (by omega)]; exact hls r hrk
      have hev:=inv.evals L.toFloatBase hc hin ho hi
      have hw : Region.wanted o (yielded ops (act s).tmps) = Region.wanted o (yielded ops (c i)):=hev.2
      unfold wpOp
      simp only [ho]
      by_cases hq0 : q = 0
      · subst hq0
        have hww : wq = w:=hr
        subst hww
        have go : ∀ s2 w2 js2,InvF P ops w0 n c (listed.setIfInBounds i true) s2 w2 js2 → wpAny P .any ops Q (f + (ops.size - (n + k))) (listed.setIfInBounds i true) (act s2) w2:=fun s2 w2 js2 inv2=>
          ih 0 _ s2 w2 w2 js2 (Nat.zero_le _) hnext hls' hleft inv2 rfl
        rcases hc i o hin ho with ⟨ha,_⟩ | ⟨ha,v,hv,hx⟩
        · obtain ⟨⟨d,T⟩,hT⟩:=Option.isSome_iff_exists.1 ha
          obtain ⟨z,hz'⟩:=hz i o d T hin ho hT
          obtain ⟨hop,hg,hdst⟩:=alT_spec hT
          rw [if_pos (by simp [Region.wanted,hg])]
          left
          unfold Oper.wp
          have hrun : (execOp (act s).eval o).run P wq = .ok (.value (.pointer (some ⟨wq.heap.size,0,none⟩))) (wq.alloc (.cells z.cells T)):=by
            simp only [execOp,hop,Instr.alloc,Sem.run_bind,run_zeroValue hz' wq,Result.andThen_ok]
            rfl
          rw [hrun,Oper.upon_value,act_put]
          exact go _ _ _ (inv.make L.toFloatBase hsz hin ho hT hz' hu)
        · rcases hx with ⟨hw1,hst,_⟩ | ⟨hw1,rfl⟩
          · rw [if_pos (hw.trans hw1)]
            left
            unfold Oper.wp
            rw [hev.1]
            rcases hst wq inv.below with hr | ⟨g,args,hr,hcall⟩
            · rw [hr,Oper.upon_value,act_put]
              exact go _ _ _ (inv.put L.toFloatBase hc hsz hin ho ha hv (Below.refl _ _))
            · rw [hr]
              refine hcall.mono ?_
              rintro e w2 ⟨rfl,hb⟩
              show wpAny P .any ops Q (f + (ops.size - (n + k))) (listed.setIfInBounds i true) ((act s).put o.dst v) w2
              rw [act_put]
              exact go _ _ _ (inv.put L.toFloatBase hc hsz hin ho ha hv hb)
          · rw [if_neg (by rw [hw,hw1]; simp),act_put]
            exact go _ _ _ (inv.put L.toFloatBase hc hsz hin ho ha hv (Below.refl _ _))
      · have hrest:=L.rest hS0at hd (first (by omega)) hin ho hu
        have al : alT o = none:=by
          rcases hrest with h | ⟨d,h,_⟩
          · exact alT_of_free h
          · exact alT_of_ld h
        rcases hc i o hin ho with ⟨ha,_⟩ | ⟨_,v,hv,hx⟩
        · rw [al] at ha; cases ha
        · have inv2:=inv.put L.toFloatBase hc hsz hin ho al hv (Below.refl _ w)
          have go : wpAny P .any ops Q (f + (ops.size - (n + k))) (listed.setIfInBounds i true) (act (putA s o.dst v)) wq:=
            ih q _ _ w wq js hqk hnext hls' hleft inv2 (sameL inv2 fun j _ hj=>getD_set_true hj)
          rcases hx with ⟨hw1,_,hall2⟩ | ⟨hw1,rfl⟩
          · rw [if_pos (hw.trans hw1)]
            left
            unfold Oper.wp
            have hrun : (execOp (act (c i)).eval o).run P wq = .ok (.value v) wq:=by
              rcases hrest with h | ⟨d,hd1,hfr,hw6⟩
              · exact hall2.1 h wq
              · obtain ⟨j,off,hp,hfar⟩:=hld i o d hin ho hfr hd1 hw6
                obtain ⟨s2,l2,inv3,hl2⟩:=InvF.complete L hc _ listed s w js hsz rfl (fun j oj hj hoj hl=>by
                  rcases L.rest hS0at hd (first (by omega)) hj hoj hl with h | ⟨d,h,_⟩
                  · exact alT_of_free h
                  · exact alT_of_ld h) inv
                obtain ⟨w',hF,_⟩:=hQ s2 w js l2 inv3 hl2
                have hsp : storesOf ops n k = (storesOf ops n k).take q ++ (storesOf ops n k).drop q:=(List.take_append_drop q _).symm
                rw [hsp] at hF
                obtain ⟨wm,hF1,_⟩:=hF.part
                have : wm = wq:=hF1.forget.fn (sameL inv3 fun j hj _=>hl2 j hj)
                subst this
                obtain ⟨T,hop⟩:=isLd_spec hd1
                refine hall2.2 T (.tmp d) j off hop ?_ w wm inv.below (hfar s2 w js l2 inv3 hl2 q wm hqk hF1)
                show (c i).getD d undef = _
                simp [Array.getD_eq_getD_getElem?,hp]
            rw [hev.1,hrun,Oper.upon_value,act_put]
            exact go
          · rw [if_neg (by rw [hw,hw1]; simp),act_put]
            exact go
    · obtain ⟨r,rfl⟩ : ∃ r,i = n + r:=⟨i - n,by omega⟩
      have hrk : r < k:=by omega
      obtain ⟨S,hS⟩:=L.sts r hrk
      have hrq : r = q:=by
        have h1 : ¬ r < q:=by
          intro h
          rw [hls r hrk,decide_eq_true h] at hu
          cases hu
        rcases hS.prev with h | h
        · omega
        · obtain ⟨oS,hoS,e,he,hb,hon⟩:=Region.waitsFor_spec h
          have : oS = o:=Option.some.inj (hoS.symm.trans ho)
          subst this
          have h2:=hall e he hb
          rw [hon] at h2
          by_cases h0 : r = 0
          · omega
          · have h3:=hls (r - 1) (by omega)
            rw [show n + (r - 1) = n + r - 1 by omega,h2] at h3
            have:=of_decide_eq_true h3.symm
            omega
      subst hrq
      have hoS : o = S:=Option.some.inj (ho.symm.trans hS.at_)
      subst hoS
      have ready1 : ∀ e ∈ S0.after,Region.binds .any e = true → listed.getD e.on false = true:=by
        by_cases h0 : r = 0
        · subst h0
          have : o = S0:=Option.some.inj (hS.at_.symm.trans hS0.at_)
          subst this
          exact hall
        · exact first (by omega)
      obtain ⟨s2,l2,inv2,hl2⟩:=InvF.complete L hc _ listed s w js hsz rfl (fun j oj hj hoj hl=>by
        rcases L.rest hS0at hd ready1 hj hoj hl with h | ⟨d,h,_⟩
        · exact alT_of_free h
        · exact alT_of_ld h) inv
      obtain ⟨w',hF,_⟩:=hQ s2 w js l2 inv2 hl2
      have hsp : storesOf ops n k = (storesOf ops n k).take r ++ (o :: (storesOf ops n k).drop (r + 1)):=by
        have h1:=(List.take_append_drop (r + 1) (storesOf ops n k)).symm
        rw [stores_split hrk hS.at_] at h1
        simpa using h1
      rw [hsp] at hF
      obtain ⟨wm,hF1,wn,hF2,_⟩:=hF.part
      have : wm = wq:=hF1.forget.fn (sameL inv2 fun j hj _=>hl2 j hj)
      subst this
      have hr2 : Ran P o s wm wn:=by
        have:=inv.same L hS inv2 (fun j _ hj=>by
          obtain ⟨oS,hoS,e,he,hb,hon⟩:=Region.waitsFor_spec hj
          have : oS = o:=Option.some.inj (hoS.symm.trans ho)
          subst this
          have:=hall e he hb
          rwa [hon] at this) (fun j hj _=>hl2 j hj)
        have h1:=hF2.1
        unfold Ran at h1 ⊢
        rw [this]; exact h1
      have g:=ih (r + 1) (listed.setIfInBounds (n + r) true) s w wn js (by omega) hnext (fun r2 hr2k=>by
          by_cases h : r2 = r
          · subst h
            rw [decide_eq_true (Nat.lt_succ_self _)]
            simp [hsz,show n + r2 < ops.size by omega]
          · rw [getD_set_ne false (by omega),hls r2 hr2k]
            by_cases h2 : r2 < r
            · rw [decide_eq_true h2,decide_eq_true (by omega)]
            · rw [decide_eq_false h2,decide_eq_false (by omega)])
        (by rw [left_congr n fun j hj=>getD_set_ne false (by omega)]; omega) (inv.congr fun j hj=>getD_set_ne false (by omega)) (by rw [stores_split hrk hS.at_]; exact hr.snoc hr2)
      obtain ⟨hg,hdst,_,_⟩:=St.alone hS.st
      unfold wpOp
      simp only [ho]
      rw [if_pos (by simp [Region.wanted,hg])]
      left
      unfold Oper.wp
      rcases hr2 with hr2 | ⟨v,hr2⟩
      · rw [hr2,Oper.upon_skip,act_put,hdst]; exact g
      · rw [hr2,Oper.upon_value,act_put,hdst]; exact g
end
section
variable {P : Program} {E : Eqs} {f : FuncId}
theorem fill_done {ops : Array Oper} {n : Nat} {m : List Nat} {H H2 : List Blk} {t t' t2 s2 : Array Value} {w1 w' : World} {c : Nat → Array Value} {l : Array Bool} {js : Nat → Nat} (F : FloatBase ops n)
    (hA' : ∀ x ∈ allocsOf ops n,∃ z,tzero P x.2.2 = some z ∧ z.cells.toList.all flat1 = true) (hH1 : RH m H w1) (ht : RA m t t') (hcn : c n = t') (hchain : ∀ k o,k < n → ops[k]? = some o → StepF P ops w1 o (c k) (c (k + 1)))
    (inv : InvF P ops w1 n c l s2 w' js) (hl : ∀ j,j < n → l.getD j false = true) (hfill : fillA P (allocsOf ops n) t H = some (t2,H2)) :
    RA (m ++ (allocsOf ops n).map fun x=>js x.1) t2 s2 ∧ RH (m ++ (allocsOf ops n).map fun x=>js x.1) H2 w' ∧ ∀ j ∈ (allocsOf ops n).map fun x=>js x.1,w1.heap.size ≤ j:=by
  have hsz : n ≤ ops.size:=F.lt
  have fresh : ∀ j ∈ (allocsOf ops n).map fun x=>js x.1,w1.heap.size ≤ j:=fun j hj=>by
    obtain ⟨x,hx,rfl⟩:=List.mem_map.1 hj
    obtain ⟨hxn,o,ho,hal⟩:=mem_allocsOf.1 hx
    obtain ⟨_,z,_,_,h4⟩:=inv.al x.1 o x.2.1 x.2.2 hxn (hl _ hxn) ho hal
    exact h4
  have hgo:=fillA_run (s:=s2) (w:=w') (js:=js) (allocsOf ops n) t H m t2 H2 hfill (by rw [ht.size,← hcn,chain_size hchain hsz n (Nat.le_refl _),inv.size]) (fun d v v' h1 h2 h3=>?_) (hH1.below inv.below) (fun x hx=>?_) (fun x hx=>⟨fun hmem=>?_,by
        obtain ⟨hxn,o,ho,hal⟩:=mem_allocsOf.1 hx
        obtain ⟨_,z,_,_,h4⟩:=inv.al x.1 o x.2.1 x.2.2 hxn (hl _ hxn) ho hal
        exact Nat.le_trans hH1.inv.low h4⟩) ?_
  · exact ⟨hgo.1,hgo.2,fresh⟩
  · refine ht.at_ d v v' h1 ?_
    rw [← h2,← hcn]
    by_cases hx : ∃ j oj,j < n ∧ ops[j]? = some oj ∧ oj.dst = some d
    · obtain ⟨j,oj,hj,hoj,hdj⟩:=hx
      have hal : alT oj = none:=by
        cases q : alT oj with
        | none=>rfl
        | some p=>
          obtain ⟨d',T'⟩:=p
          have e : d' = d:=Option.some.inj ((alT_spec q).2.2.symm.trans hdj)
          exact absurd e (h3 (j,d',T') (mem_allocsOf.2 ⟨hj,oj,hoj,q⟩))
      rw [inv.new j oj d hj (hl j hj) hoj hal hdj]
      exact chain_far hchain n (by omega) (Nat.le_refl _) (fun k ok q1 q2 hk=>by
        by_cases q : ok.dst = some d
        · have:=F.one j k oj ok d hj q2 hoj hk hdj q
          omega
        · exact .inl q) hsz
    · have hno : ∀ j oj,j < n → ops[j]? = some oj → oj.dst ≠ some d:=fun j oj hj hoj hdj=>hx ⟨j,oj,hj,hoj,hdj⟩
      rw [inv.old d fun j oj hj _ hoj=>hno j oj hj hoj]
      exact chain_far hchain n (Nat.zero_le _) (Nat.le_refl _) (fun k ok q1 q2 hk=>.inl (hno k ok q2 hk)) hsz
  · obtain ⟨hxn,o,ho,hal⟩:=mem_allocsOf.1 hx
    obtain ⟨k1,z,k2,k3,_⟩:=inv.al x.1 o x.2.1 x.2.2 hxn (hl _ hxn) ho hal
    obtain ⟨z',q1,q2⟩:=hA' x hx
    have : z' = z:=Option.some.inj (q1.symm.trans k2)
    subst this
    exact ⟨k1,z',k2,q2,k3⟩
  · have h4:=fresh (js x.1) (List.mem_map.2 ⟨x,hx,rfl⟩)
    have:=hH1.lt_of_mem hmem
    omega
  · have hp : (allocsOf ops n).Pairwise fun x y=>x.1 ≠ y.1:=by
      unfold allocsOf
      rw [List.pairwise_filterMap]
      refine List.Pairwise.imp ?_ (List.nodup_range (n:=n))
      intro a b hab x hx y hy
      simp only [Option.map_eq_some_iff] at hx hy
      obtain ⟨_,_,rfl⟩:=hx
      obtain ⟨_,_,rfl⟩:=hy
      exact hab
    rw [List.Nodup,List.pairwise_map]
    refine List.Pairwise.imp_of_mem ?_ hp
    intro x y hx hy hxy he
    obtain ⟨hxn,o,ho,hal⟩:=mem_allocsOf.1 hx
    obtain ⟨hyn,o2,ho2,hal2⟩:=mem_allocsOf.1 hy
    exact hxy (inv.dis x.1 y.1 o o2 hxn hyn (hl _ hxn) (hl _ hyn) ho ho2 (by rw [hal]; rfl) (by rw [hal2]; rfl) he)
def lates (P : Program) (ops : Array Oper) (n k : Nat) : Bool:=ops.toList.any writes && !Region.sinkB .any ops n && lateB ops n k && allocsOk P ops n
def ptrAt (ops : Array Oper) (n : Nat) (t : Array Value) (d : Tmp) : Option Nat:=
  if (List.range n).all (fun j=>match ops[j]? with | some oj=>decide (oj.dst ≠ some d) | none=>true) then
    match t[d]? with
    | some (.pointer (some ⟨i,_,none⟩))=>some i
    | _=>none
  else none
def anyBehind (ops : Array Oper) (n : Nat) : Bool:=(List.range n).any fun k=>match ops[k]? with | some o=>behind ops n k o | none=>false
def fieldOf (P : Program) (ops : Array Oper) (kk : Nat) (d : Tmp) : Option (Nat × Tmp):=
  match (List.range kk).find? (fun j=>match ops[j]? with | some oj=>decide (oj.dst = some d) | none=>false) with
  | some jj=>match ops[jj]? with
    | some oj=>match oj.op with
      | .fieldAddr S (.tmp e) f=>if oj.guard.isNone && (foff P S f).isSome && (List.range kk).all (fun j=>decide (j ≤ jj) || (match ops[j]? with | some o=>decide (o.dst ≠ some d) | none=>true)) then some (jj,e) else none
      | _=>none
    | none=>none
  | none=>none
def ptrLd (P : Program) (ops : Array Oper) (n kk : Nat) (t : Array Value) (d : Tmp) : Option Nat:=
  match ptrAt ops n t d with
  | some i=>some i
  | none=>match fieldOf P ops kk d with
    | some (_,e)=>if d < t.size then ptrAt ops n t e else none
    | none=>none
def newAt (ops : Array Oper) (n : Nat) (t : Array Value) (d : Tmp) : Bool:=decide (d < t.size) && (List.range n).any fun j=>match (ops[j]?).bind alT with | some p=>decide (p.1 = d) | none=>false
def apartB (P : Program) (ops : Array Oper) (n k : Nat) (t : Array Value) : Bool:=
  !anyBehind ops n ||
  (List.range k).all fun q=>match (ops[n + q]?).bind stAt with
    | some d=>(List.range n).all fun kk=>match ops[kk]? with
        | some o=>!behind ops n kk o || (match (isLd ops n o).bind (ptrLd P ops n kk t) with
          | some j=>(match ptrAt ops n t d with | some i=>decide (j ≠ i) | none=>newAt ops n t d)
          | none=>false)
        | none=>true
    | none=>false
def regionJ (P : Program) (E : Eqs) (ops : Array Oper) (draw : Bool) (K : Array Value → List Blk → T) (t : Array Value) (H : List Blk) : T:=
  if (draw && (lates P ops (headLen ops) (stLen ops (headLen ops)) && apartB P ops (headLen ops) (stLen ops (headLen ops)) t)) = true then opsF P E ops H (tailF P E ops K (headLen ops) H) (ops.toList.take (headLen ops)) t
  else regionG P E ops draw K t H
theorem store_kind {S : Oper} (hS : isSt S = true) (t : Array Value) (H : List Blk) : (∃ v G,opA P E S t H = .mem v G) ∨ opA P E S t H = .bad:=by
  unfold isSt at hS
  simp only [Bool.and_eq_true] at hS
  obtain ⟨⟨hS,_⟩,_⟩:=hS
  split at hS
  · rename_i T a x ho
    unfold opA
    simp only [ho]
    split
    · split
      · exact .inl ⟨_,_,rfl⟩
      · exact .inr rfl
    · exact .inr rfl
  · cases hS
theorem store_first {m : List Nat} {t t' : Array Value} {H : List Blk} {w : World} {R : Value → List Blk → Prop} {ops : Array Oper} {K : Array Value → List Blk → T} {S : Oper} {l : List Oper} (hS : isSt S = true) (ht : RA m t t') (hH : RH m H w) (h : Run P f R (opsN P E ops K (S :: l) t H)) :
    ∃ w' v t2 t2' n G,Ran P S t' w w' ∧ t2' = t' ∧ t2 = putA t S.dst v ∧ RA (m ++ n) t2 t2' ∧ RH (m ++ n) G w' ∧ (∀ j ∈ n,w.heap.size ≤ j) ∧ Kept m w w' ∧ (∀ d j off,stAt S = some d → t'[d]? = some (.pointer (some ⟨j,off,none⟩)) → ∀ k,k ≠ j → w'.heap[k]? = w.heap[k]?) ∧ Run P f R (opsN P E ops K l t2 G):=by
  obtain ⟨hg,hdst,_,_⟩:=St.alone hS
  rcases store_kind (P:=P) (E:=E) hS t H with ⟨u,H2,hu⟩ | hu
  · simp only [opsN,guarded,hg,stepN,hu] at h
    have hS2:=hS
    unfold isSt at hS2
    simp only [Bool.and_eq_true] at hS2
    obtain ⟨⟨hS2,_⟩,_⟩:=hS2
    split at hS2
    · rename_i T a x ho
      unfold opA at hu
      simp only [ho] at hu
      split at hu
      · rename_i ua ux ha hx
        split at hu
        · rename_i G' hG
          injection hu with h1 h2
          subst h1; subst h2
          obtain ⟨w',hr,hH',hk,hfar⟩:=storeA_run hH (ev_rel ht ha) (ev_rel ht hx) hG
          refine ⟨w',undef,_,t',[],G',.inl ?_,rfl,rfl,?_,by simpa using hH',by simp,hk,fun d j off hd hp=>hfar j off ?_,h⟩
          · simp only [execOp,ho,Sem.run_bind,hr,Result.andThen_ok,Sem.run_pure]
          · rw [hdst,List.append_nil]; exact ht
          · unfold stAt at hd
            simp only [ho] at hd
            split at hd
            · rename_i T2 d2 x2 he
              cases hd
              cases he
              show t'.getD d undef = _
              simp [Array.getD_eq_getD_getElem?,hp]
            · cases hd
        · cases hu
      · cases hu
    · cases hS2
  · simp only [opsN,guarded,hg,stepN,hu] at h
    exact (run_fail h).elim
theorem ptrAt_spec {ops : Array Oper} {n : Nat} {t : Array Value} {d : Tmp} {i : Nat} (h : ptrAt ops n t d = some i) : (∀ j oj,j < n → ops[j]? = some oj → oj.dst ≠ some d) ∧ ∃ off,t[d]? = some (.pointer (some ⟨i,off,none⟩)):=by
  unfold ptrAt at h
  split at h
  · rename_i hall
    refine ⟨fun j oj hj hoj=>?_,?_⟩
    · have:=List.all_eq_true.1 hall j (List.mem_range.2 hj)
      simp only [hoj,decide_eq_true_eq] at this
      exact this
    · split at h
      · rename_i i' off ht
        cases h
        exact ⟨off,ht⟩
      · cases h
  · cases h
theorem stores_run {R : Value → List Blk → Prop} {ops : Array Oper} {K : Array Value → List Blk → T} {l : List Oper} : ∀ (Ls : List Oper) (m : List Nat) (t t' : Array Value) (H : List Blk) (w : World),(∀ S ∈ Ls,isSt S = true) → RA m t t' → RH m H w → Run P f R (opsN P E ops K (Ls ++ l) t H) →
    ∃ w' t2 n G,RanF P t' Ls w w' ∧ RA (m ++ n) t2 t' ∧ RH (m ++ n) G w' ∧ (∀ j ∈ n,w.heap.size ≤ j) ∧ Kept m w w' ∧ Run P f R (opsN P E ops K l t2 G)
  | [],m,t,t',H,w,_,ht,hH,h=>⟨w,t,[],H,rfl,by simpa using ht,by simpa using hH,by simp,Kept.refl _ _,h⟩
  | S :: Ls,m,t,t',H,w,hs,ht,hH,h=>by
    obtain ⟨w1,v,t3,t3',n1,G1,hr,rfl,_,hra,hrh,hn1,hk1,hfar,h2⟩:=store_first (hs S (by simp)) ht hH h
    obtain ⟨w',t2,n2,G,h3,h4,h5,h6,h7,h8⟩:=stores_run Ls (m ++ n1) t3 t3' G1 w1 (fun S hS=>hs S (by simp [hS])) hra hrh h2
    refine ⟨w',t2,n1 ++ n2,G,⟨w1,⟨hr,hfar⟩,h3⟩,by rw [← List.append_assoc]; exact h4,by rw [← List.append_assoc]; exact h5,fun j hj=>?_,hk1.trans h7 hn1,h8⟩
    rcases List.mem_append.1 hj with hj | hj
    · exact hn1 j hj
    · exact Nat.le_trans hk1.size (h6 j hj)
theorem far_all {s : Array Value} {j : Nat} : ∀ {l : List Oper} {w w' : World},RanF P s l w w' → (∀ S ∈ l,∃ d jS off,stAt S = some d ∧ s[d]? = some (.pointer (some ⟨jS,off,none⟩)) ∧ j ≠ jS) → w'.heap[j]? = w.heap[j]?
  | [],_,_,h,_=>by cases h; rfl
  | S :: l,w,w',⟨wm,⟨_,h1⟩,h2⟩,hs=>by
    obtain ⟨d,jS,off,k1,k2,k3⟩:=hs S (by simp)
    rw [far_all h2 fun S hS=>hs S (by simp [hS])]
    exact h1 d jS off k1 k2 j k3
theorem fieldOf_spec {ops : Array Oper} {kk : Nat} {d : Tmp} {jj : Nat} {e : Tmp} (h : fieldOf P ops kk d = some (jj,e)) :
    jj < kk ∧ ∃ oj S f n,ops[jj]? = some oj ∧ oj.op = .fieldAddr S (.tmp e) f ∧ oj.guard = none ∧ oj.dst = some d ∧ foff P S f = some n ∧ ∀ j o,jj < j → j < kk → ops[j]? = some o → o.dst ≠ some d:=by
  unfold fieldOf at h
  split at h
  · rename_i jj' hf
    have hlt:=List.mem_range.1 (List.mem_of_find?_eq_some hf)
    have hd:=List.find?_some hf
    split at h
    · rename_i oj hoj
      split at h
      · rename_i S e' f hop
        split at h
        · rename_i hc
          simp only [Option.some.injEq,Prod.mk.injEq] at h
          obtain ⟨rfl,rfl⟩:=h
          simp only [Bool.and_eq_true,Option.isNone_iff_eq_none] at hc
          obtain ⟨⟨hg,hn⟩,hall⟩:=hc
          obtain ⟨n,hn⟩:=Option.isSome_iff_exists.1 hn
          simp only [hoj,decide_eq_true_eq] at hd
          refine ⟨hlt,oj,S,f,n,hoj,hop,hg,hd,hn,fun j o h1 h2 ho=>?_⟩
          have:=List.all_eq_true.1 hall j (List.mem_range.2 h2)
          simp only [ho,Bool.or_eq_true,decide_eq_true_eq] at this
          rcases this with h3 | h3
          · omega
          · exact h3
        · cases h
      · cases h
    · cases h
  · cases h
theorem newAt_spec {ops : Array Oper} {n : Nat} {t : Array Value} {d : Tmp} (h : newAt ops n t d = true) : d < t.size ∧ ∃ j o T,j < n ∧ ops[j]? = some o ∧ alT o = some (d,T):=by
  unfold newAt at h
  simp only [Bool.and_eq_true,decide_eq_true_eq,List.any_eq_true,List.mem_range] at h
  obtain ⟨h1,j,hj,h2⟩:=h
  refine ⟨h1,j,?_⟩
  cases ho : ops[j]? with
  | none=>simp [ho] at h2
  | some o=>
    simp only [ho,Option.bind_some] at h2
    cases ha : alT o with
    | none=>simp [ha] at h2
    | some p=>
      obtain ⟨d',T⟩:=p
      simp only [ha,decide_eq_true_eq] at h2
      subst h2
      exact ⟨o,T,hj,rfl,ha⟩
theorem ptrLd_chain {ops : Array Oper} {n kk : Nat} {m : List Nat} {t t' : Array Value} {d : Tmp} {i : Nat} {w0 : World} {c : Nat → Array Value} (ht : RA m t t') (h0 : c 0 = t') (hn : n ≤ ops.size) (hkn : kk < n)
    (hc : ∀ k o,k < n → ops[k]? = some o → StepF P ops w0 o (c k) (c (k + 1))) (h : ptrLd P ops n kk t d = some i) : ∃ j off,m[i]? = some j ∧ (c kk)[d]? = some (.pointer (some ⟨j,off,none⟩)):=by
  unfold ptrLd at h
  split at h
  · rename_i i' hp
    cases h
    obtain ⟨hnw,off,htj⟩:=ptrAt_spec hp
    obtain ⟨vL,hvL,hvr⟩:=ht.slot htj
    cases hvr with
    | pl _ h'=>simp [flat1] at h'
    | ptr _ j _ _ hj=>
      refine ⟨j,off,hj,?_⟩
      rw [chain_far hc kk (Nat.zero_le _) (by omega) (fun j2 o2 _ h2 ho2=>.inl (hnw j2 o2 (by omega) ho2)) hn,h0]
      exact hvL
  · split at h
    · rename_i jj e hf
      split at h
      · rename_i hds
        obtain ⟨hjk,oj,S,f,fo,hoj,hop,hg,hdst,hfo,hlast⟩:=fieldOf_spec hf
        obtain ⟨hnw,off,hte⟩:=ptrAt_spec h
        obtain ⟨vL,hvL,hvr⟩:=ht.slot hte
        cases hvr with
        | pl _ h'=>simp [flat1] at h'
        | ptr _ j _ _ hj=>
          refine ⟨j,off + fo,hj,?_⟩
          rw [chain_far hc (i:=jj + 1) kk (by omega) (by omega) (fun j2 o2 h1 h2 ho2=>.inl (hlast j2 o2 (by omega) h2 ho2)) hn]
          have he : (c jj)[e]? = some (.pointer (some ⟨j,off,none⟩)):=by
            rw [chain_far hc jj (Nat.zero_le _) (by omega) (fun j2 o2 _ h2 ho2=>.inl (hnw j2 o2 (by omega) ho2)) hn,h0]
            exact hvL
          have hal : alT oj = none:=by
            unfold alT
            rw [hop]
          rcases hc jj oj (by omega) hoj with ⟨ha,_⟩ | ⟨_,v,hv,hx⟩
          · rw [hal] at ha; cases ha
          · have hw : Region.wanted oj (yielded ops (c jj)) = true:=by simp [Region.wanted,hg]
            rcases hx with ⟨_,_,hall⟩ | ⟨hw2,_⟩
            · have hfree : opFree oj = true:=by simp [opFree,hop]
              have hr:=hall.1 hfree w0
              have hev : (act (c jj)).eval (.tmp e) = .pointer (some ⟨j,off,none⟩):=by
                show (c jj).getD e undef = _
                simp [Array.getD_eq_getD_getElem?,he]
              have hr2 : (execOp (act (c jj)).eval oj).run P w0 = .ok (.value (.pointer (some ⟨j,off + fo,none⟩))) w0:=by
                simp only [execOp,hop,hev,Sem.run_bind,run_fieldAt hfo j off w0,Result.andThen_ok,Sem.run_pure]
              rw [hr] at hr2
              have hvv : v = .pointer (some ⟨j,off + fo,none⟩):=by simpa using hr2
              rw [hv,hdst,hvv]
              show ((c jj).setIfInBounds d _)[d]? = _
              have hsz : d < (c jj).size:=by
                rw [chain_size hc hn jj (by omega),h0,← ht.size]
                exact hds
              rw [Array.getElem?_setIfInBounds_self,if_pos hsz]
            · rw [hw] at hw2; cases hw2
      · cases h
    · cases h
theorem regionJ_run (hE : EqsOk P E) (hm : P.follows .mixedOrders = true) {id : Nat} {ops : Array Oper} {draw : Bool} {K : Array Value → List Blk → T} {R : Value → List Blk → Prop} {m : List Nat} {t t' : Array Value} {H : List Blk} {w : World}
    (ht : RA m t t') (hH : RH m H w) (h : Run P f R (regionJ P E ops draw K t H)) : (Code.region id ops draw).wp P (QN P f m w K R) (act t') w:=by
  unfold regionJ at h
  generalize hk : stLen ops (headLen ops) = k at *
  by_cases hc : (draw && (lates P ops (headLen ops) k && apartB P ops (headLen ops) k t)) = true
  case neg=>rw [if_neg hc] at h; exact regionG_run hE hm ht hH h
  rw [if_pos hc] at h
  simp only [lates,Bool.and_eq_true] at hc
  obtain ⟨rfl,⟨⟨_,hB⟩,hA⟩,hapart⟩:=hc
  generalize headLen ops = n at *
  have L:=lateB_spec hB
  have hlt:=L.lt2
  have hA' : ∀ x ∈ allocsOf ops n,∃ z,tzero P x.2.2 = some z ∧ z.cells.toList.all flat1 = true:=fun x hx=>by
    have:=List.all_eq_true.1 hA x hx
    cases hz : tzero P x.2.2 with
    | none=>simp [hz] at this
    | some z=>simp only [hz] at this; exact ⟨z,rfl,this⟩
  have hH1 : RH m H { w with drawn:=w.drawn + 1 }:=⟨hH.len,hH.nodup,hH.blk,hH.inv.keep (Nat.le_refl _) (fun _ _=>rfl),hH.far⟩
  have hloads : ∀ kk o d,kk < n → ops[kk]? = some o → opFree o = false → isLd ops n o = some d → waitsT ops 6 n kk = false → ∃ i,ptrLd P ops n kk t d = some i ∧
      (∀ S,S ∈ storesOf ops n k → ∃ dS,stAt S = some dS ∧ ((∃ iS,ptrAt ops n t dS = some iS ∧ i ≠ iS) ∨ newAt ops n t dS = true)):=fun kk o d hkn ho hfr hld hw=>by
    have hb : behind ops n kk o = true:=by simp [behind,hfr,hw]
    have hany : anyBehind ops n = true:=List.any_eq_true.2 ⟨kk,List.mem_range.2 hkn,by simp only [ho]; exact hb⟩
    unfold apartB at hapart
    rw [hany] at hapart
    simp only [Bool.not_true,Bool.false_or] at hapart
    have one : ∀ q,q < k → ∃ S dS j,ops[n + q]? = some S ∧ stAt S = some dS ∧ ptrLd P ops n kk t d = some j ∧ ((∃ iS,ptrAt ops n t dS = some iS ∧ j ≠ iS) ∨ newAt ops n t dS = true):=fun q hq=>by
      have hap:=List.all_eq_true.1 hapart q (List.mem_range.2 hq)
      obtain ⟨S,hS⟩:=L.sts q hq
      simp only [hS.at_,Option.bind_some] at hap
      cases hst : stAt S with
      | none=>simp only [hst] at hap; cases hap
      | some dS=>
        simp only [hst] at hap
        have:=List.all_eq_true.1 hap kk (List.mem_range.2 hkn)
        simp only [ho,hb,Bool.not_true,Bool.false_or,hld,Option.bind_some] at this
        cases hpd : ptrLd P ops n kk t d with
        | none=>simp only [hpd] at this; cases this
        | some j0=>
          simp only [hpd] at this
          refine ⟨S,dS,j0,hS.at_,hst,rfl,?_⟩
          cases hp : ptrAt ops n t dS with
          | some i=>simp only [hp,decide_eq_true_eq] at this; exact .inl ⟨i,rfl,this⟩
          | none=>simp only [hp] at this; exact .inr this
    obtain ⟨_,_,j0,_,_,hpd,_⟩:=one 0 L.pos
    refine ⟨j0,hpd,fun S hS=>?_⟩
    have hlen : (storesOf ops n k).take k = storesOf ops n k:=List.take_of_length_le (by unfold storesOf; rw [List.length_take]; omega)
    rw [← hlen] at hS
    obtain ⟨q,hq,hSq⟩:=stores_mem (Nat.le_refl k) hS
    obtain ⟨S',dS,j1,h1,h2,h4,h5⟩:=one q hq
    have : S' = S:=Option.some.inj (h1.symm.trans hSq)
    subst this
    have hj1 : j1 = j0:=Option.some.inj (h4.symm.trans hpd)
    subst hj1
    exact ⟨dS,h2,h5⟩
  have hF:=opsF_run (Q:=fun t'=>∀ (c : Nat → Array Value),c n = t' → (∀ k o,k < n → ops[k]? = some o → StepF P ops { w with drawn:=w.drawn + 1 } o (c k) (c (k + 1))) →
      ∀ s w2 js l,InvF P ops { w with drawn:=w.drawn + 1 } n c l s w2 js → (∀ j,j < n → l.getD j false = true) → ∃ w',RanF P s (storesOf ops n k) w2 w' ∧ wpList P ops (QN P f m w K R) (ops.toList.drop (n + k)) (act s) w')
    hE hH1 (fun t t' ht h c hcn hchain s w2 js l inv hl=>?_) _ t t' ht h
  · obtain ⟨c,h0,hQ,hc⟩:=wpF_chain _ _ hF
    have hln : (ops.toList.take n).length = n:=by rw [List.length_take,Array.length_toList]; omega
    have hc' : ∀ k o,k < n → ops[k]? = some o → StepF P ops { w with drawn:=w.drawn + 1 } o (c k) (c (k + 1)):=fun k o hk ho=>hc k o (by rw [List.getElem?_take_of_lt hk,Array.getElem?_toList]; exact ho)
    rw [hln] at hQ
    refine wp_region_any hm ?_
    have rep : ∀ j,(Array.replicate ops.size false).getD j false = false:=fun j=>getD_replicate_false _ _
    have Hh:=wpAny_late (Q:=QN P f m w K R) L hc' (fun k o d T hk ho hal=>by
        obtain ⟨z,hz,_⟩:=hA' (k,d,T) (mem_allocsOf.2 ⟨hk,o,ho,hal⟩)
        exact ⟨z,hz⟩) (fun kk o d hkn ho hfr hld hw=>by
        obtain ⟨i,hpi,hsts⟩:=hloads kk o d hkn ho hfr hld hw
        obtain ⟨j,off,hmj,hp⟩:=ptrLd_chain ht h0 (by omega) hkn hc' hpi
        refine ⟨j,off,hp,fun s2 w2 js l inv hl q wq hqk hr=>?_⟩
        refine far_all hr fun S hS=>?_
        obtain ⟨dS,k1,k2⟩:=hsts S (List.mem_of_mem_take hS)
        rcases k2 with ⟨iS,k2,k3⟩ | k2
        · obtain ⟨hnw,off2,hti⟩:=ptrAt_spec k2
          obtain ⟨vS,hvS,hvr⟩:=ht.slot hti
          cases hvr with
          | pl _ h'=>simp [flat1] at h'
          | ptr _ jS _ _ hjS=>
          refine ⟨dS,jS,off2,k1,?_,fun e=>k3 (by subst e; exact nodup_inj hH.nodup hmj hjS)⟩
          rw [inv.old dS fun j2 o2 hj2 _ ho2=>hnw j2 o2 hj2 ho2,h0]
          exact hvS
        · obtain ⟨hds,ja,oa,T,hja,hoa,hal⟩:=newAt_spec k2
          obtain ⟨hin,z,_,_,hge⟩:=inv.al ja oa dS T hja (hl ja hja) hoa hal
          refine ⟨dS,js ja,0,k1,hin (by rw [inv.size,h0,← ht.size]; exact hds),fun e=>?_⟩
          have hlt3:=hH.lt hmj
          have hge' : w.heap.size ≤ js ja:=hge
          omega) (fun s2 w2 js l inv hl=>by
        obtain ⟨w',hr,hw⟩:=hQ c rfl hc' s2 w2 js l inv hl
        have:=wpAny_of_seq (md:=.any) (Q':=QN P f m w K R) (P:=P) (ops.toList.drop (n + k)) (n + k) (listedN (n + k) ops.size) (act s2) w' (fun j=>by rw [List.getElem?_drop,Array.getElem?_toList]) (by rw [List.length_drop,Array.length_toList]; exact L.seq) hw
        rw [List.length_drop,Array.length_toList] at this
        exact ⟨w',hr,this⟩) (n + k) 0 (Array.replicate ops.size false) t' { w with drawn:=w.drawn + 1 } { w with drawn:=w.drawn + 1 } (fun _=>0) (Nat.zero_le _)
      ⟨by simp,fun j oj _ hl=>(by rw [rep] at hl; cases hl),fun t _ ht=>getD_in (by simpa using ht) (rep _)⟩ (fun r _=>by rw [rep]; rfl)
      (by
        have : ∀ k,left k (Array.replicate ops.size false) = k:=fun k=>by
          induction k with
          | zero=>rfl
          | succ k ih=>
            have e : left (k + 1) (Array.replicate ops.size false) = left k (Array.replicate ops.size false) + 1:=by
              simp only [left,List.range_succ,List.countP_append,List.countP_singleton,rep]
              rfl
            rw [e,ih]
        rw [this n]; rfl)
      ⟨by rw [h0],fun d _=>by rw [h0],fun j o d hj hl=>(by rw [rep] at hl; cases hl),fun j o d T hj hl=>(by rw [rep] at hl; cases hl),fun j k oj ok hj hk hl=>(by rw [rep] at hl; cases hl),Below.refl _ _⟩ rfl
    rw [show n + k + (ops.size - (n + k)) = ops.size by omega] at Hh
    exact Hh
  · unfold tailF at h
    cases hfill : fillA P (allocsOf ops n) t H with
    | none=>simp only [hfill] at h; exact (run_fail h).elim
    | some p=>
      obtain ⟨t2,H2⟩:=p
      simp only [hfill] at h
      obtain ⟨hra,hrh,hfr⟩:=fill_done L.toFloatBase hA' hH1 ht hcn hchain inv hl hfill
      have hdrop : ops.toList.drop n = storesOf ops n k ++ ops.toList.drop (n + k):=by
        unfold storesOf
        rw [← List.drop_drop]
        exact (List.take_append_drop k _).symm
      rw [hdrop] at h
      have hall : ∀ S ∈ storesOf ops n k,isSt S = true:=fun S hS=>by
        have hlen : (storesOf ops n k).take k = storesOf ops n k:=List.take_of_length_le (by unfold storesOf; rw [List.length_take]; omega)
        rw [← hlen] at hS
        obtain ⟨q,hq,hSq⟩:=stores_mem (Nat.le_refl k) hS
        obtain ⟨S',hS'⟩:=L.sts q hq
        have : S' = S:=Option.some.inj (hS'.at_.symm.trans hSq)
        subst this
        exact hS'.st
      obtain ⟨w',t3,n',G,hr,hra2,hrh2,hn2,hk2,h2⟩:=stores_run _ _ _ _ _ _ hall hra hrh h
      refine ⟨w',hr,?_⟩
      have k1 : Kept m w w2:=⟨inv.below.os,inv.below.tape,inv.below.output,inv.below.size,fun k hk _=>inv.below.block k hk⟩
      rw [List.append_assoc] at hra2 hrh2
      refine opsN_run hE _ _ t3 s G w' hra2 hrh2 (fun j hj=>?_) (k1.trans hk2 hfr) h2
      rcases List.mem_append.1 hj with hj | hj
      · exact hfr j hj
      · exact Nat.le_trans inv.below.size (hn2 j hj)
end
end Go.Proofs.YtfhnlkinjbakgaaGreatDoor.Abs
namespace Go.Proofs.YtfhnlkinjbakgaaGreatDoor.Abs
open Go Go.RowKit
def dull (o : Oper) : Oper:=if isSt o then { o with op:=.assign (.const (.bool true)) } else o
theorem dull_after (o : Oper) : (dull o).after = o.after:=by unfold dull; split <;> rfl
theorem dull_dst (o : Oper) : (dull o).dst = o.dst:=by unfold dull; split <;> rfl
theorem dull_of {o : Oper} (h : isSt o = false) : dull o = o:=by unfold dull; rw [h]; rfl
theorem alT_dull (o : Oper) : alT (dull o) = alT o:=by
  cases h : isSt o with
  | false=>rw [dull_of h]
  | true=>
    rw [(St.alone h).2.2.2]
    unfold dull
    rw [h]
    rfl
theorem dull_at {ops : Array Oper} {i : Nat} {o : Oper} (h : ops[i]? = some o) : (ops.map dull)[i]? = some (dull o):=by rw [Array.getElem?_map,h]; rfl
theorem yielded_dull (ops : Array Oper) (t : Array Value) : yielded (ops.map dull) t = yielded ops t:=by
  funext j
  have : ((ops.map dull)[j]?).bind (·.dst) = (ops[j]?).bind (·.dst):=by
    rw [Array.getElem?_map]
    cases ops[j]? with
    | none=>rfl
    | some o=>exact dull_dst o
  unfold yielded
  rw [this]
def stIx (ops : Array Oper) : Nat:=ops.toList.findIdx isSt
def oneB (P : Program) (ops : Array Oper) : Bool:=
  match ops[stIx ops]? with
  | some S=>isSt S && Region.noSelect (ops.map dull) && ((List.range ops.size).all fun k=>match ops[k]? with
      | some o=>(decide (k = stIx ops) || (!isSt o && (opFree o || waitsT ops 6 (stIx ops) k))) && (o.after.toList.all fun e=>!Region.binds .any e || decide (e.on < k)) && ((List.range ops.size).all fun j=>floatAt (ops.map dull) j k (dull o)) &&
          (match o.dst with | some d=>!(readsT ops S).contains d || Region.waitsFor .any ops (stIx ops) k | none=>true)
      | none=>false) && allocsOk P (ops.map dull) ops.size
  | none=>false
structure OneOk (ops : Array Oper) (p : Nat) (S : Oper) : Prop where
  base : FloatBase (ops.map dull) ops.size
  at_ : ops[p]? = some S
  st : isSt S = true
  rest : ∀ i o,ops[i]? = some o → i ≠ p → isSt o = false ∧ (opFree o = true ∨ waitsT ops 6 p i = true)
  reads : ∀ j oj d,ops[j]? = some oj → oj.dst = some d → d ∈ readsT ops S → Region.waitsFor .any ops p j = true
theorem oneB_spec {P : Program} {ops : Array Oper} (h : oneB P ops = true) : ∃ S,OneOk ops (stIx ops) S ∧ allocsOk P (ops.map dull) ops.size = true:=by
  unfold oneB at h
  split at h
  · rename_i S hS
    simp only [Bool.and_eq_true] at h
    obtain ⟨⟨⟨h1,h2⟩,h3⟩,h4⟩:=h
    have lt : ∀ {i : Nat} {o : Oper},ops[i]? = some o → i < ops.size:=fun ho=>(Array.getElem?_eq_some_iff.1 ho).1
    have hk : ∀ k o,ops[k]? = some o → (((k = stIx ops ∨ (isSt o = false ∧ (opFree o = true ∨ waitsT ops 6 (stIx ops) k = true))) ∧ (o.after.toList.all fun e=>!Region.binds .any e || decide (e.on < k)) = true) ∧ (∀ j,j < ops.size → floatAt (ops.map dull) j k (dull o) = true)) ∧
        ∀ d,o.dst = some d → d ∈ readsT ops S → Region.waitsFor .any ops (stIx ops) k = true:=fun k o ho=>by
      have:=List.all_eq_true.1 h3 k (List.mem_range.2 (lt ho))
      simp only [ho,Bool.and_eq_true,Bool.or_eq_true,decide_eq_true_eq,Bool.not_eq_true'] at this
      refine ⟨⟨this.1.1,fun j hj=>List.all_eq_true.1 this.1.2 j (List.mem_range.2 hj)⟩,fun d hd hr=>?_⟩
      have h5:=this.2
      simp only [hd,Bool.or_eq_true,Bool.not_eq_true'] at h5
      rcases h5 with q | q
      · have : (readsT ops S).contains d = true:=by simpa using hr
        rw [this] at q; cases q
      · exact q
    have un : ∀ {k o'},(ops.map dull)[k]? = some o' → ∃ o,ops[k]? = some o ∧ o' = dull o:=fun {k o'} ho=>by
      rw [Array.getElem?_map] at ho
      cases hx : ops[k]? with
      | none=>rw [hx] at ho; cases ho
      | some o=>rw [hx] at ho; exact ⟨o,hx,(Option.some.inj ho).symm⟩
    have hf:=floatAt_spec (ops:=ops.map dull) (n:=ops.size) fun k o hkn ho j hj=>by
      obtain ⟨o2,ho2,rfl⟩:=un ho
      exact (hk k o2 ho2).1.2 j hj
    refine ⟨S,⟨⟨h2,by simp,fun k o hkn ho e he hb=>?_,hf.1,hf.2⟩,hS,h1,fun i o ho hi=>?_,fun j oj d hoj hd hr=>(hk j oj hoj).2 d hd hr⟩,h4⟩
    · obtain ⟨o2,ho2,rfl⟩:=un ho
      rw [dull_after] at he
      exact back_spec (hk k o2 ho2).1.1.2 e he hb
    · rcases (hk i o ho).1.1.1 with q | q
      · exact absurd q hi
      · exact q
  · cases h
section
variable {P : Program} {ops : Array Oper} {w0 : World}
theorem InvF.completeF {n : Nat} {c : Nat → Array Value} (F : FloatBase ops n) (hc : ∀ k o,k < n → ops[k]? = some o → StepF P ops w0 o (c k) (c (k + 1))) :
    ∀ (f : Nat) (listed : Array Bool) (s : Array Value) (w : World) (js : Nat → Nat),listed.size = ops.size → left n listed = f → (∀ j o,j < n → ops[j]? = some o → listed.getD j false = false → alT o = none) → InvF P ops w0 n c listed s w js →
      ∃ s2 l2,InvF P ops w0 n c l2 s2 w js ∧ (∀ j,j < n → l2.getD j false = true)
  | 0,listed,s,w,js,_,hf,_,inv=>⟨s,listed,inv,left_zero n hf⟩
  | f + 1,listed,s,w,js,hsz,hf,hfr,inv=>by
    obtain ⟨i,hi,hu,hmin⟩:=left_pos n (by omega : left n listed ≠ 0)
    have hlt:=F.lt
    have ho : ops[i]? = some ops[i]:=Array.getElem?_eq_getElem (by omega)
    have hleft : left n (listed.setIfInBounds i true) = f:=by have:=(left_set hu (by omega : i < listed.size) n).1 hi; omega
    have al:=hfr i _ hi ho hu
    rcases hc i _ hi ho with ⟨ha,_⟩ | ⟨_,v,hv,_⟩
    · rw [al] at ha; cases ha
    · exact InvF.completeF F hc f _ _ w js (by simp [hsz]) hleft (fun j o hj hoj hl=>hfr j o hj hoj (by
        by_cases e : i = j
        · subst e; exact hu
        · rwa [getD_set_ne false e] at hl)) (inv.put F hc hsz hi ho al hv (Below.refl _ _))
theorem isSt_op {S : Oper} (h : isSt S = true) : ∃ T a x,S.op = .store T a x:=by
  unfold isSt at h
  simp only [Bool.and_eq_true] at h
  obtain ⟨⟨h,_⟩,_⟩:=h
  split at h
  · rename_i T a x ho; exact ⟨T,a,x,ho⟩
  · cases h
theorem InvF.sameD {p : Nat} {S : Oper} {c : Nat → Array Value} {l l2 : Array Bool} {s s2 : Array Value} {w w2 : World} {js : Nat → Nat} (O : OneOk ops p S) (inv : InvF P (ops.map dull) w0 ops.size c l s w js) (inv2 : InvF P (ops.map dull) w0 ops.size c l2 s2 w2 js)
    (h1 : ∀ j,Region.waitsFor .any ops p j = true → l.getD j false = true) (h2 : ∀ j,j < ops.size → l.getD j false = true → l2.getD j false = true) : execOp (act s).eval S = execOp (act s2).eval S:=by
  refine execOp_congr S (fun cs b e=>?_) fun x hx=>?_
  · obtain ⟨T,a,x,ho⟩:=isSt_op O.st
    rw [ho] at e; cases e
  cases x with
  | tmp d=>
    have hd : d ∈ readsT ops S:=by
      unfold readsT
      exact List.mem_append_left _ (List.mem_filterMap.2 ⟨.tmp d,by simpa using hx,rfl⟩)
    have e : s[d]? = s2[d]?:=by
      by_cases qq : ∃ j oj,j < ops.size ∧ (ops.map dull)[j]? = some oj ∧ oj.dst = some d
      · obtain ⟨j,oj,hj,hoj,hdj⟩:=qq
        have ho0 : ops[j]? = some ops[j]:=Array.getElem?_eq_getElem hj
        have : oj = dull ops[j]:=Option.some.inj (hoj.symm.trans (dull_at ho0))
        have hl:=h1 j (O.reads j _ d ho0 (by rw [← dull_dst,← this]; exact hdj) hd)
        cases ha : alT oj with
        | none=>rw [inv.new j oj d hj hl hoj ha hdj,inv2.new j oj d hj (h2 j hj hl) hoj ha hdj]
        | some q=>
          obtain ⟨d',T⟩:=q
          have : d' = d:=Option.some.inj ((alT_spec ha).2.2.symm.trans hdj)
          subst this
          by_cases hlt : d' < s.size
          · rw [(inv.al j oj d' T hj hl hoj ha).1 hlt,(inv2.al j oj d' T hj (h2 j hj hl) hoj ha).1 (by rw [inv2.size,← inv.size]; exact hlt)]
          · rw [Array.getElem?_eq_none (Nat.le_of_not_lt hlt),Array.getElem?_eq_none (by rw [inv2.size,← inv.size]; exact Nat.le_of_not_lt hlt)]
      · have hno : ∀ j oj,j < ops.size → (ops.map dull)[j]? = some oj → oj.dst ≠ some d:=fun j oj hj hoj hdj=>qq ⟨j,oj,hj,hoj,hdj⟩
        rw [inv.old d fun j oj hj _ hoj=>hno j oj hj hoj,inv2.old d fun j oj hj _ hoj=>hno j oj hj hoj]
    show s.getD d undef = s2.getD d undef
    simp only [Array.getD_eq_getD_getElem?,e]
  | _=>rfl
theorem wpAny_one {p : Nat} {S : Oper} {c : Nat → Array Value} {Q : Exit → Act → World → Prop} (O : OneOk ops p S) (hc : ∀ k o,k < ops.size → (ops.map dull)[k]? = some o → StepF P (ops.map dull) w0 o (c k) (c (k + 1)))
    (hz : ∀ k o d T,k < ops.size → (ops.map dull)[k]? = some o → alT o = some (d,T) → ∃ z,tzero P T = some z)
    (hQ : ∀ s w js l,InvF P (ops.map dull) w0 ops.size c l s w js → (∀ j,j < ops.size → l.getD j false = true) → ∃ w',Ran P S s w w' ∧ Q .normal (act s) w') :
    ∀ (f : Nat) (listed : Array Bool) (s : Array Value) (w wq : World) (js : Nat → Nat),HeadInv .any ops ops.size listed → left ops.size listed = f → InvF P (ops.map dull) w0 ops.size c listed s w js →
      (listed.getD p false = false → wq = w) → (listed.getD p false = true → Ran P S s w wq) → wpAny P .any ops Q f listed (act s) wq:=by
  have hpl : p < ops.size:=(Array.getElem?_eq_some_iff.1 O.at_).1
  intro f
  induction f with
  | zero=>
    intro listed s w wq js hd hf inv _ hr
    have hall:=left_zero ops.size hf
    refine ⟨?_,?_⟩
    · cases hrd : Region.ready .any ops listed with
      | nil=>rfl
      | cons i l=>
        have hi : i ∈ Region.ready .any ops listed:=by rw [hrd]; exact List.mem_cons_self
        obtain ⟨h1,o,ho,_⟩:=mem_ready.1 hi
        have h2:=getD_both h1
        rw [hall i (Array.getElem?_eq_some_iff.1 ho).1] at h2
        cases h2
    · obtain ⟨w',h2,h3⟩:=hQ s w js listed inv hall
      rw [(hr (hall p hpl)).fn h2]
      exact h3
  | succ f ih=>
    intro listed s w wq js hd hf inv hr0 hr
    have hsz:=hd.size
    have hszD : listed.size = (ops.map dull).size:=by simpa using hsz
    obtain ⟨i0,hi0,hu0,hmin⟩:=left_pos ops.size (by omega : left ops.size listed ≠ 0)
    have r0 : i0 ∈ Region.ready .any ops listed:=by
      have ho0 : ops[i0]? = some ops[i0]:=Array.getElem?_eq_getElem hi0
      exact mem_ready.2 ⟨getD_in (by omega) hu0,_,ho0,fun e he hb=>hmin _ (O.base.back i0 _ hi0 (dull_at ho0) e (by rw [dull_after]; exact he) hb)⟩
    refine ⟨fun h=>(by rw [h] at r0; cases r0),fun i hi=>?_⟩
    obtain ⟨hiu,o,ho,hall⟩:=mem_ready.1 hi
    have hin : i < ops.size:=(Array.getElem?_eq_some_iff.1 ho).1
    have hu:=getD_both hiu
    have hnext:=hd.set hi hin
    have hleft : left ops.size (listed.setIfInBounds i true) = f:=by have:=(left_set hu (by omega : i < listed.size) ops.size).1 hin; omega
    have hiD : i ∈ Region.ready .any (ops.map dull) listed:=mem_ready.2 ⟨hiu,dull o,dull_at ho,fun e he hb=>hall e (by rw [dull_after] at he; exact he) hb⟩
    have rest : (∀ e ∈ S.after,Region.binds .any e = true → listed.getD e.on false = true) → ∀ j oj,j ≠ p → ops[j]? = some oj → listed.getD j false = false → opFree oj = true:=fun hS j oj hj hoj hl=>by
      rcases (O.rest j oj hoj hj).2 with h | h
      · exact h
      · have direct : ∀ i,Region.waitsFor .any ops p i = true → listed.getD i false = true:=fun i hi=>by
          obtain ⟨o2,ho2,e,he,hb,hon⟩:=Region.waitsFor_spec hi
          have : o2 = S:=Option.some.inj (ho2.symm.trans O.at_)
          subst this
          have:=hS e he hb
          rwa [hon] at this
        have : listed.getD j false = true:=by
          have h2 : waitsT ops (5 + 1) p j = true:=h
          simp only [waitsT.eq_2,Bool.or_eq_true] at h2
          rcases h2 with h2 | h2
          · exact direct j h2
          · obtain ⟨i,_,hi⟩:=List.any_eq_true.1 h2
            simp only [Bool.and_eq_true] at hi
            exact waitsT_listed hd 5 i j (direct i hi.1) hi.2
        rw [hl] at this; cases this
    have alfree : (∀ e ∈ S.after,Region.binds .any e = true → listed.getD e.on false = true) → ∀ j oj,j < ops.size → (ops.map dull)[j]? = some oj → listed.getD j false = false → alT oj = none:=fun hS j oj hj hoj hl=>by
      have ho0 : ops[j]? = some ops[j]:=Array.getElem?_eq_getElem hj
      have e : oj = dull ops[j]:=Option.some.inj (hoj.symm.trans (dull_at ho0))
      rw [e,alT_dull]
      by_cases hjp : j = p
      · subst hjp
        have : ops[j] = S:=Option.some.inj (ho0.symm.trans O.at_)
        rw [this]
        exact (St.alone O.st).2.2.2
      · exact alT_of_free (rest hS j _ hjp ho0 hl)
    by_cases hip : i = p
    · subst hip
      have : o = S:=Option.some.inj (ho.symm.trans O.at_)
      subst this
      have hwq:=hr0 hu
      subst hwq
      obtain ⟨hg,hdst,_,hal⟩:=St.alone O.st
      obtain ⟨s2,l2,inv2,hl2⟩:=InvF.completeF O.base hc _ listed s wq js hszD rfl (alfree hall) inv
      obtain ⟨w',hr2,_⟩:=hQ s2 wq js l2 inv2 hl2
      have hsame:=inv.sameD O inv2 (fun j hj=>by
          obtain ⟨oS,hoS,e,he,hb,hon⟩:=Region.waitsFor_spec hj
          have : oS = o:=Option.some.inj (hoS.symm.trans ho)
          subst this
          have:=hall e he hb
          rwa [hon] at this) (fun j hj _=>hl2 j hj)
      have hr3 : Ran P o s wq w':=by unfold Ran at hr2 ⊢; rw [hsame]; exact hr2
      have inv3 : InvF P (ops.map dull) w0 ops.size c (listed.setIfInBounds i true) s wq js:=by
        rcases hc i _ hin (dull_at ho) with ⟨ha,_⟩ | ⟨ha,v,hv,_⟩
        · rw [alT_dull,hal] at ha; cases ha
        · have:=inv.put O.base hc hszD hin (dull_at ho) ha hv (Below.refl _ wq)
          rw [dull_dst,hdst] at this
          exact this
      have g:=ih (listed.setIfInBounds i true) s wq w' js hnext hleft inv3 (fun h=>by simp [show i < listed.size by omega] at h) (fun _=>hr3)
      unfold wpOp
      simp only [ho]
      rw [if_pos (by simp [Region.wanted,hg])]
      left
      unfold Oper.wp
      rcases hr3 with hr3 | ⟨v,hr3⟩
      · rw [hr3,Oper.upon_skip,act_put,hdst]; exact g
      · rw [hr3,Oper.upon_value,act_put,hdst]; exact g
    · have hns:=(O.rest i o ho hip).1
      have hoD : (ops.map dull)[i]? = some o:=by rw [dull_at ho,dull_of hns]
      have hev:=inv.evals O.base hc hin hoD hiD
      rw [yielded_dull,yielded_dull] at hev
      have hw : Region.wanted o (yielded ops (act s).tmps) = Region.wanted o (yielded ops (c i)):=hev.2
      have keep : (listed.setIfInBounds i true).getD p false = listed.getD p false:=getD_set_ne false hip
      unfold wpOp
      simp only [ho]
      cases hp : listed.getD p false with
      | false=>
        have hwq:=hr0 hp
        subst hwq
        have go : ∀ s2 w2 js2,InvF P (ops.map dull) w0 ops.size c (listed.setIfInBounds i true) s2 w2 js2 → wpAny P .any ops Q f (listed.setIfInBounds i true) (act s2) w2:=fun s2 w2 js2 inv2=>
          ih _ s2 w2 w2 js2 hnext hleft inv2 (fun _=>rfl) (fun h=>by rw [keep,hp] at h; cases h)
        rcases hc i o hin hoD with ⟨ha,_⟩ | ⟨ha,v,hv,hx⟩
        · obtain ⟨⟨d,T⟩,hT⟩:=Option.isSome_iff_exists.1 ha
          obtain ⟨z,hz'⟩:=hz i o d T hin hoD hT
          obtain ⟨hop,hg,hdst⟩:=alT_spec hT
          rw [if_pos (by simp [Region.wanted,hg])]
          left
          unfold Oper.wp
          have hrun : (execOp (act s).eval o).run P wq = .ok (.value (.pointer (some ⟨wq.heap.size,0,none⟩))) (wq.alloc (.cells z.cells T)):=by
            simp only [execOp,hop,Instr.alloc,Sem.run_bind,run_zeroValue hz' wq,Result.andThen_ok]
            rfl
          rw [hrun,Oper.upon_value,act_put]
          exact go _ _ _ (inv.make O.base hszD hin hoD hT hz' hu)
        · rcases hx with ⟨hw1,hst,_⟩ | ⟨hw1,rfl⟩
          · rw [yielded_dull] at hw1
            rw [if_pos (hw.trans hw1)]
            left
            unfold Oper.wp
            rw [hev.1]
            rcases hst wq inv.below with hr | ⟨g,args,hr,hcall⟩
            · rw [hr,Oper.upon_value,act_put]
              exact go _ _ _ (inv.put O.base hc hszD hin hoD ha hv (Below.refl _ _))
            · rw [hr]
              refine hcall.mono ?_
              rintro e w2 ⟨rfl,hb⟩
              show wpAny P .any ops Q f (listed.setIfInBounds i true) ((act s).put o.dst v) w2
              rw [act_put]
              exact go _ _ _ (inv.put O.base hc hszD hin hoD ha hv hb)
          · rw [yielded_dull] at hw1
            rw [if_neg (by rw [hw,hw1]; simp),act_put]
            exact go _ _ _ (inv.put O.base hc hszD hin hoD ha hv (Below.refl _ _))
      | true=>
        have hSr : ∀ e ∈ S.after,Region.binds .any e = true → listed.getD e.on false = true:=fun e he hb=>hd.closed p S O.at_ hp e he hb
        have hfree:=rest hSr i o hip ho hu
        have al : alT o = none:=alT_of_free hfree
        have hrn:=hr hp
        rcases hc i o hin hoD with ⟨ha,_⟩ | ⟨_,v,hv,hx⟩
        · rw [al] at ha; cases ha
        · have inv2:=inv.put O.base hc hszD hin hoD al hv (Below.refl _ w)
          have hsame:=inv.sameD O inv2 (fun j hj=>by
            obtain ⟨oS,hoS,e,he,hb,hon⟩:=Region.waitsFor_spec hj
            have : oS = S:=Option.some.inj (hoS.symm.trans O.at_)
            subst this
            have:=hSr e he hb
            rwa [hon] at this) (fun j _ hj=>getD_set_true hj)
          have hrn2 : Ran P S (putA s o.dst v) w wq:=by unfold Ran at hrn ⊢; rw [← hsame]; exact hrn
          have go : wpAny P .any ops Q f (listed.setIfInBounds i true) (act (putA s o.dst v)) wq:=
            ih _ _ w wq js hnext hleft inv2 (fun h=>by rw [keep,hp] at h; cases h) (fun _=>hrn2)
          rcases hx with ⟨hw1,_,hall2⟩ | ⟨hw1,rfl⟩
          · rw [yielded_dull] at hw1
            rw [if_pos (hw.trans hw1)]
            left
            unfold Oper.wp
            rw [hev.1,hall2.1 hfree wq,Oper.upon_value,act_put]
            exact go
          · rw [yielded_dull] at hw1
            rw [if_neg (by rw [hw,hw1]; simp),act_put]
            exact go
end
def isAs (o : Oper) : Bool:=(match o.op with | .assign _=>true | _=>false) && o.guard.isNone && o.dst.isSome
def shapeW (ops : Array Oper) : Bool:=ops.toList.any isSt && !(ops.toList.drop (stIx ops + 1)).isEmpty && (ops.toList.drop (stIx ops + 1)).all isAs && (ops.map dull).toList.all fun o=>!writes o || (alT o).isSome
def regionW (P : Program) (E : Eqs) (ops : Array Oper) (draw : Bool) (K : Array Value → List Blk → T) (t : Array Value) (H : List Blk) : T:=
  if (draw && (shapeW ops && oneB P ops)) = true then
    opsF P E (ops.map dull) H (fun t=>match fillA P (allocsOf (ops.map dull) ops.size) t H with
      | some (t2,H2)=>opsN P E ops K ((ops.toList.drop (stIx ops)).take 1) t2 H2
      | none=>.fail) (ops.map dull).toList t
  else regionJ P E ops draw K t H
section
variable {P : Program} {E : Eqs} {f : FuncId}
theorem regionW_run (hE : EqsOk P E) (hm : P.follows .mixedOrders = true) {id : Nat} {ops : Array Oper} {draw : Bool} {K : Array Value → List Blk → T} {R : Value → List Blk → Prop} {m : List Nat} {t t' : Array Value} {H : List Blk} {w : World}
    (ht : RA m t t') (hH : RH m H w) (h : Run P f R (regionW P E ops draw K t H)) : (Code.region id ops draw).wp P (QN P f m w K R) (act t') w:=by
  unfold regionW at h
  by_cases hc : (draw && (shapeW ops && oneB P ops)) = true
  case neg=>rw [if_neg hc] at h; exact regionJ_run hE hm ht hH h
  rw [if_pos hc] at h
  simp only [Bool.and_eq_true] at hc
  obtain ⟨rfl,⟨_,hB⟩⟩:=hc
  obtain ⟨S,O,hA⟩:=oneB_spec hB
  generalize hp : stIx ops = p at *
  have hpl : p < ops.size:=(Array.getElem?_eq_some_iff.1 O.at_).1
  have hA' : ∀ x ∈ allocsOf (ops.map dull) ops.size,∃ z,tzero P x.2.2 = some z ∧ z.cells.toList.all flat1 = true:=fun x hx=>by
    have:=List.all_eq_true.1 hA x hx
    cases hz : tzero P x.2.2 with
    | none=>simp [hz] at this
    | some z=>simp only [hz] at this; exact ⟨z,rfl,this⟩
  have hH1 : RH m H { w with drawn:=w.drawn + 1 }:=⟨hH.len,hH.nodup,hH.blk,hH.inv.keep (Nat.le_refl _) (fun _ _=>rfl),hH.far⟩
  have hone : (ops.toList.drop p).take 1 = [S]:=by
    have h1 : ops.toList[p]? = some S:=by rw [Array.getElem?_toList]; exact O.at_
    obtain ⟨hlt,e⟩:=List.getElem?_eq_some_iff.1 h1
    rw [List.drop_eq_getElem_cons hlt,e]
    rfl
  rw [hone] at h
  have hF:=opsF_run (Q:=fun t'=>∀ (c : Nat → Array Value),c ops.size = t' → (∀ k o,k < ops.size → (ops.map dull)[k]? = some o → StepF P (ops.map dull) { w with drawn:=w.drawn + 1 } o (c k) (c (k + 1))) →
      ∀ s w2 js l,InvF P (ops.map dull) { w with drawn:=w.drawn + 1 } ops.size c l s w2 js → (∀ j,j < ops.size → l.getD j false = true) → ∃ w',Ran P S s w2 w' ∧ QN P f m w K R .normal (act s) w')
    hE hH1 (fun t t' ht h c hcn hchain s w2 js l inv hl=>?_) _ t t' ht h
  · obtain ⟨c,h0,hQ,hc⟩:=wpF_chain _ _ hF
    have hln : (ops.map dull).toList.length = ops.size:=by simp
    rw [hln] at hQ
    have hc' : ∀ k o,k < ops.size → (ops.map dull)[k]? = some o → StepF P (ops.map dull) { w with drawn:=w.drawn + 1 } o (c k) (c (k + 1)):=fun k o _ ho=>hc k o (by rw [Array.getElem?_toList]; exact ho)
    refine wp_region_any hm ?_
    have rep : ∀ j,(Array.replicate ops.size false).getD j false = false:=fun j=>getD_replicate_false _ _
    rw [← h0]
    exact wpAny_one O hc' (fun k o d T hk ho hal=>by
        obtain ⟨z,hz,_⟩:=hA' (k,d,T) (mem_allocsOf.2 ⟨hk,o,ho,hal⟩)
        exact ⟨z,hz⟩) (hQ c rfl hc') ops.size (Array.replicate ops.size false) (c 0) { w with drawn:=w.drawn + 1 } { w with drawn:=w.drawn + 1 } (fun _=>0)
      ⟨by simp,fun j oj _ hl=>(by rw [rep] at hl; cases hl),fun t _ ht=>getD_in (by simpa using ht) (rep _)⟩
      (by
        have : ∀ k,left k (Array.replicate ops.size false) = k:=fun k=>by
          induction k with
          | zero=>rfl
          | succ k ih=>
            have e : left (k + 1) (Array.replicate ops.size false) = left k (Array.replicate ops.size false) + 1:=by
              simp only [left,List.range_succ,List.countP_append,List.countP_singleton,rep]
              rfl
            rw [e,ih]
        exact this ops.size)
      ⟨rfl,fun d _=>rfl,fun j o d hj hl=>(by rw [rep] at hl; cases hl),fun j o d T hj hl=>(by rw [rep] at hl; cases hl),fun j k oj ok hj hk hl=>(by rw [rep] at hl; cases hl),Below.refl _ _⟩ (fun _=>rfl) (fun h=>by rw [rep] at h; cases h)
  · cases hfill : fillA P (allocsOf (ops.map dull) ops.size) t H with
    | none=>simp only [hfill] at h; exact (run_fail h).elim
    | some q=>
      obtain ⟨t2,H2⟩:=q
      simp only [hfill] at h
      obtain ⟨hra,hrh,hfr⟩:=fill_done O.base hA' hH1 ht hcn hchain inv hl hfill
      obtain ⟨w',v,t3,t3',n',G,hr,rfl,_,hra2,hrh2,hn2,hk2,_,h2⟩:=store_first O.st hra hrh h
      refine ⟨w',hr,rfl,_,_,_,G,rfl,by rw [← List.append_assoc]; exact hra2,by rw [← List.append_assoc]; exact hrh2,fun j hj=>?_,?_,h2⟩
      · rcases List.mem_append.1 hj with hj | hj
        · exact hfr j hj
        · exact Nat.le_trans inv.below.size (hn2 j hj)
      · have k1 : Kept m w w2:=⟨inv.below.os,inv.below.tape,inv.below.output,inv.below.size,fun k hk _=>inv.below.block k hk⟩
        exact k1.trans hk2 hfr
end
end Go.Proofs.YtfhnlkinjbakgaaGreatDoor.Abs
