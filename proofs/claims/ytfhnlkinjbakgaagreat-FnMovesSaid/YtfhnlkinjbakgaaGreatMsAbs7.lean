/- The abstract machine, seventh part: a region that draws its order: what only reads, in any order; behind it what writes, in the text's order. -/
import Derived.Test.YtfhnlkinjbakgaaGreatMsAbs6
namespace Go.Proofs.YtfhnlkinjbakgaaGreat.Abs
open Go Go.RowKit
section
variable {P : Program} {ops : Array Oper} {md : Region.Mode} {C : World → Prop}
def wpAnyLQ (P : Program) (md : Region.Mode) (ops : Array Oper) (C : World → Prop) (n : Nat) (L : Array Bool → Act → Prop) : Nat → Array Bool → Act → Prop
  | 0,listed,a=>L listed a
  | f + 1,listed,a=>
    Region.ready md ops listed ≠ [] ∧ ∀ i ∈ Region.ready md ops listed,i < n ∧ qOp P ops C i (wpAnyLQ P md ops C n L f (listed.setIfInBounds i true)) a
theorem wpAny_of_headQ {n g : Nat} {L : Array Bool → Act → Prop} {Q' : Exit → Act → World → Prop} (hL : ∀ listed a w,C w → L listed a → wpAny P md ops Q' g listed a w) :
    ∀ (f : Nat) (listed : Array Bool) (a : Act) (w : World),C w → wpAnyLQ P md ops C n L f listed a → wpAny P md ops Q' (f + g) listed a w
  | 0,listed,a,w,hw,h=>by rw [Nat.zero_add]; exact hL _ _ _ hw h
  | f + 1,listed,a,w,hw,h=>by
    rw [show f + 1 + g = (f + g) + 1 by omega]
    exact ⟨fun h0=>absurd h0 h.1,fun i hi=>wpOp_of_qOp hw (fun a' w' hw' h'=>wpAny_of_headQ hL f _ a' w' hw' h') (h.2 i hi).2⟩
theorem wpAnyLQ_first {n i : Nat} {oi : Oper} {v : Value} {L : Array Bool → Act → Prop} (hi : ops[i]? = some oi) (hsel : ∀ (j : Nat) (o : Oper) cs b,ops[j]? = some o → o.op ≠ .select cs b)
    (hs : Region.sinkB md ops n = true) (hc : Region.chainB md ops n = true) (hn : n < ops.size) (hin : i < n)
    (hdone : ∀ listed a,L listed a → ∀ j ∈ Region.ready md ops listed,n ≤ j) :
    ∀ (f : Nat) (listed : Array Bool) (a : Act),HeadInv md ops n listed →
      (∀ j oj,ops[j]? = some oj → j ≠ i → listed.getD j true = false → (∀ e ∈ oj.after,Region.binds md e = true → e.on ≠ i) → oi.apart ops oj = true) →
      i ∈ Region.ready md ops listed → YieldsIn P ops C oi v a →
      wpAnyLQ P md ops C n L f (listed.setIfInBounds i true) (a.put oi.dst v) → wpAnyLQ P md ops C n L (f + 1) listed a:=by
  intro f
  induction f with
  | zero=>
    intro listed a inv _ hr hy H
    have hun:=(mem_ready.1 hr).1
    refine ⟨fun h=>(by rw [h] at hr; cases hr),fun j hj=>?_⟩
    have hjn : j < n:=by
      rcases Nat.lt_or_ge j n with h | h
      · exact h
      · exact absurd hj (tail_waits hs hc hn inv _ i rfl hin hun j h)
    refine ⟨hjn,?_⟩
    by_cases hji : j = i
    · subst hji; exact hy.qOp hi H
    · have:=hdone _ _ H j (ready_mono hj hji)
      omega
  | succ f ih=>
    intro listed a inv hfree hr hy H
    have hun:=(mem_ready.1 hr).1
    refine ⟨fun h=>(by rw [h] at hr; cases hr),fun j hj=>?_⟩
    have hjn : j < n:=by
      rcases Nat.lt_or_ge j n with h | h
      · exact h
      · exact absurd hj (tail_waits hs hc hn inv _ i rfl hin hun j h)
    refine ⟨hjn,?_⟩
    by_cases hji : j = i
    · subst hji; exact hy.qOp hi H
    · have h1:=(H.2 j (ready_mono hj hji)).2
      obtain ⟨hjun,oj,hoj,hall⟩:=mem_ready.1 hj
      have hnot : ∀ e ∈ oj.after,Region.binds md e = true → e.on ≠ i:=fun e he hb heq=>by
        have h1:=hall e he hb
        rw [heq,getD_both hun] at h1
        cases h1
      have h2:=qOp_put hoj (hfree j oj hoj hji hjun hnot) (fun cs b=>hsel i oi cs b hi) (fun cs b=>hsel j oj cs b hoj) hy h1
      have hfree' : ∀ k ok,ops[k]? = some ok → k ≠ i → (listed.setIfInBounds j true).getD k true = false →
          (∀ e ∈ ok.after,Region.binds md e = true → e.on ≠ i) → oi.apart ops ok = true:=fun k ok hk hki hun hno=>by
        refine hfree k ok hk hki ?_ hno
        by_cases hjk : j = k
        · subst hjk; exact hjun
        · rw [getD_set_ne true hjk] at hun; exact hun
      refine qOp_mono (fun a' h3=>ih (listed.setIfInBounds j true) a' (inv.set hj hjn) hfree' (ready_mono hr (Ne.symm hji)) h3.1 ?_) h2
      rw [Array.setIfInBounds_comm _ _ hji]
      exact h3.2
theorem wpAnyLQ_lex {n g : Nat} {Lq : Act → Prop} (hsel : Region.noSelect ops = true) (hs : Region.sinkB md ops n = true) (hc : Region.chainB md ops n = true) (hn : n < ops.size) :
    ∀ (l : List Oper) (k : Nat) (listed : Array Bool) (a : Act),(∀ j,j < l.length → l[j]? = ops[k + j]?) → k + l.length = n → HeadInv md ops n listed →
    Region.lexHead md ops g l.length k listed = true → wpQuiet P ops C Lq l a →
    wpAnyLQ P md ops C n (fun listed' a'=>Region.seqB md ops g n listed' = true ∧ Lq a') l.length listed a
  | [],k,listed,a,_,hk,_,hB,h=>by
    have : k = n:=by simpa using hk
    subst this
    exact ⟨by simpa [Region.lexHead] using hB,h⟩
  | o :: l,k,listed,a,hl,hk,inv,hB,h=>by
    have h0 : ops[k]? = some o:=by simpa using (hl 0 (by simp)).symm
    simp only [List.length_cons,Region.lexHead,Bool.and_eq_true] at hB
    obtain ⟨⟨hr,hf⟩,hB'⟩:=hB
    have hkn : k < n:=by simp only [List.length_cons] at hk; omega
    have hr' : k ∈ Region.ready md ops listed:=by simpa using hr
    have hst : qOp P ops C k (wpQuiet P ops C Lq l) a:=by unfold qOp; simp only [h0]; exact h
    obtain ⟨v,hy,hK⟩:=yieldsIn_of_qOp h0 hst
    exact wpAnyLQ_first h0 (Region.noSelect_spec hsel) hs hc hn hkn (fun listed' a' hL=>seqB_ready hL.1) l.length listed a inv (Region.free_spec h0 hf) hr' hy
      (wpAnyLQ_lex hsel hs hc hn l (k + 1) _ _ (fun j hj=>by have:=hl (j + 1) (by simp; omega); simpa [Nat.add_assoc,Nat.add_comm 1 j] using this) (by simp only [List.length_cons] at hk; omega) (inv.set hr' hkn) hB' hK)
theorem wp_region_quiet_tail {id : Nat} {Q : Exit → Act → World → Prop} {a : Act} {w : World} {ops : Array Oper} (n : Nat) (hm : P.follows .mixedOrders = true) (hB : Region.lexTailB .any ops n = true) (hC : C { w with drawn:=w.drawn + 1 })
    (h : wpQuiet P ops C (fun a'=>∀ w',C w' → wpList P ops Q (ops.toList.drop n) a' w') (ops.toList.take n) a) : (Code.region id ops true).wp P Q a w:=by
  obtain ⟨l⟩:=ops
  simp only [Region.lexTailB,Bool.and_eq_true,decide_eq_true_eq] at hB
  obtain ⟨⟨⟨⟨hsel,hn⟩,hs⟩,hc⟩,hlex⟩:=hB
  have hn' : n < l.length:=by simpa using hn
  have htl : (l.take n).length = n:=by rw [List.length_take]; omega
  have hdl : (l.drop n).length = l.toArray.size - n:=by simp
  have inv0 : HeadInv .any l.toArray n (Array.replicate l.toArray.size false):=
    ⟨by simp,fun j oj _ hl=>(by rw [getD_replicate_false] at hl; cases hl),fun t _ ht=>getD_in (by simpa using ht) (getD_replicate_false _ _)⟩
  have H:=wpAnyLQ_lex (md:=.any) (g:=l.toArray.size - n) hsel hs hc hn (l.take n) 0 _ a (fun j hj=>by
    have hj' : j < n:=by rw [htl] at hj; exact hj
    simp [hj']) (by simpa using htl) inv0 (by rw [htl]; exact hlex) h
  refine wp_region_any hm ?_
  have:=wpAny_of_headQ (C:=C) (Q':=Q) (g:=l.toArray.size - n) (fun listed a' w' hw' hL=>by
    have:=wpAny_of_seq (md:=.any) (Q':=Q) (l.drop n) n listed a' w' (fun j=>by simp [List.getElem?_drop]) (by rw [hdl]; exact hL.1) (hL.2 w' hw')
    rwa [hdl] at this) _ _ _ _ hC H
  have hsz : l.toArray.size = l.length:=by simp
  rw [htl,show n + (l.toArray.size - n) = l.toArray.size by rw [hsz]; omega] at this
  exact this
end
def stepQ (P : Program) (E : Eqs) (o : Oper) (t : Array Value) (H : List Blk) (K : Array Value → T) : T:=
  match opA P E o t H with
  | .val v=>K (putA t o.dst v)
  | .pick c a b=>.ite c (K (putA t o.dst a)) (K (putA t o.dst b))
  | .chk c v=>.ite c (K (putA t o.dst v)) .fail
  | .enter f args=>.qcall f args H fun v=>K (putA t o.dst v)
  | _=>.fail
def stepR (P : Program) (E : Eqs) (o : Oper) (t : Array Value) (H : List Blk) (K : Array Value → T) : T:=
  match opA P E o t H with
  | .opt x=>.opt x fun v=>K (putA t o.dst v)
  | _=>stepQ P E o t H K
def opsQ (P : Program) (E : Eqs) (ops : Array Oper) (H : List Blk) (K : Array Value → T) : List Oper → Array Value → T
  | [],t=>K t
  | o :: rest,t=>guarded ops o t (fun t=>stepR P E o t H fun t=>opsQ P E ops H K rest t) (fun t=>opsQ P E ops H K rest (putA t o.dst undef))
section
variable {P : Program} {E : Eqs} {f : FuncId}
theorem opsQ_run (hE : EqsOk P E) {ops : Array Oper} {K : Array Value → T} {R : Value → List Blk → Prop} {m : List Nat} {H : List Blk} {w : World} (hH : RH m H w) {Q : Act → Prop}
    (hQ : ∀ t t',RA m t t' → Run P f R (K t) → Q (act t')) :
    ∀ (l : List Oper) (t t' : Array Value),RA m t t' → Run P f R (opsQ P E ops H K l t) → wpQuiet P ops (fun w'=>Below w.heap.size w w') Q l (act t')
  | [],t,t',ht,h=>hQ t t' ht h
  | o :: l,t,t',ht,h=>by
    have ih:=fun t t'=>opsQ_run (ops:=ops) hE hH hQ l t t'
    have hC : ∀ {w'},Below w.heap.size w w' → RH m H w':=fun hb=>hH.below hb
    have quiet : ∀ (u u' : Value),VR m u u' → (∀ w',Below w.heap.size w w' → ∃ x,(execOp (act t').eval o).run P w' = .ok (.value x) w' ∧ VR m u x) → Run P f R (opsQ P E ops H K l (putA t o.dst u)) →
        o.quiet P (act t') (fun w'=>Below w.heap.size w w') (wpQuiet P ops (fun w'=>Below w.heap.size w w') Q l):=fun u u' hu hr h2=>by
      refine ⟨u',fun w' hw'=>?_,?_⟩
      · obtain ⟨x,hx,hv⟩:=hr w' hw'
        unfold Oper.quietAt
        rw [hx]
        exact ⟨rfl,hv.fn hu⟩
      · rw [act_put]; exact ih _ _ (ht.put hu _) h2
    simp only [wpQuiet]
    simp only [opsQ] at h
    rcases guarded_run ht h with ⟨hw,h⟩ | ⟨hw,h⟩
    · have hw' : Region.wanted o (yielded ops (act t').tmps) = true:=hw
      rw [if_pos hw']
      unfold stepR at h
      split at h
      · rename_i x hu
        cases h with
        | opt _ _ u hx hk2=>
          obtain ⟨u',_,hv⟩:=opA_opt ht hH hu hx
          exact quiet u u' hv (fun w' hb=>opA_opt (w:=w') ht (hC hb) hu hx) hk2
      unfold stepQ at h
      split at h
      · rename_i u hu
        obtain ⟨u',_,hv⟩:=opA_val (w:=w) ht (fun _=>hH) hE hu
        exact quiet u u' hv (fun w' hb=>opA_val (w:=w') ht (fun _=>hC hb) hE hu) h
      · rename_i c x y hu
        obtain ⟨u',_,hv⟩:=opA_pick (E:=E) ht hu w
        have h2:=run_ite h
        cases c
        · exact quiet y u' hv (fun w' _=>opA_pick (E:=E) ht hu w') h2
        · exact quiet x u' hv (fun w' _=>opA_pick (E:=E) ht hu w') h2
      · rename_i c u hu
        have h2:=run_ite h
        cases c
        · exact (run_fail h2).elim
        · obtain ⟨u',_,hv⟩:=opA_chk hE ht hu rfl w
          exact quiet u u' hv (fun w' _=>opA_chk hE ht hu rfl w') h2
      · rename_i g args hu
        cases h with
        | qcall _ sel H0 args0 _ _ u hF hfl hs hcc hsn hok hk2=>
          refine ⟨u,fun w' hb=>?_,?_⟩
          · obtain ⟨args',hr,ha⟩:=opA_enter (E:=E) ht hu hF.1 w'
            unfold Oper.quietAt
            rw [hr]
            refine ⟨rfl,(call_reads (hC hb) hF hfl hs hcc hsn hok ha).mono ?_⟩
            rintro e w2 ⟨rfl,hb2⟩
            exact ⟨rfl,hb.trans (hb2.mono hb.size)⟩
          · rw [act_put]; exact ih _ _ (ht.put (VR.refl_of_flat _ hfl) _) hk2
        | qcalm _ zs Z args0 _ _ u hF hfl hU hz hzc hsn hok hk2=>
          refine ⟨u,fun w' hb=>?_,?_⟩
          · obtain ⟨args',hr,ha⟩:=opA_enter (E:=E) ht hu hF.1 w'
            unfold Oper.quietAt
            rw [hr]
            refine ⟨rfl,(call_calm (hC hb) hF hfl hU hz hzc hsn hok ha).mono ?_⟩
            rintro e w2 ⟨rfl,hb2⟩
            exact ⟨rfl,hb.trans (hb2.mono hb.size)⟩
          · rw [act_put]; exact ih _ _ (ht.put (VR.refl_of_flat _ hfl) _) hk2
      · exact (run_fail h).elim
    · have hw' : ¬ Region.wanted o (yielded ops (act t').tmps) = true:=by
        show ¬ Region.wanted o (yielded ops t') = true
        simp [hw]
      rw [if_neg hw',act_put]
      exact ih _ _ (ht.put (VR.undef _) _) h
end
def writes (o : Oper) : Bool:=
  match o.op with
  | .alloc _ | .box .. | .store .. | .buildSlice ..=>true
  | _=>false
def regionA (P : Program) (E : Eqs) (ops : Array Oper) (draw : Bool) (K : Array Value → List Blk → T) (t : Array Value) (H : List Blk) : T:=
  if draw then
    if Region.lexB .any ops && !ops.toList.any writes then opsQ P E ops H (fun t=>K t H) ops.toList t
    else
      let n:=(ops.toList.takeWhile fun o=>!writes o).length
      if Region.lexTailB .any ops n then opsQ P E ops H (fun t=>opsN P E ops K (ops.toList.drop n) t H) (ops.toList.take n) t else .fail
  else opsN P E ops K ops.toList t H
section
variable {P : Program} {E : Eqs} {f : FuncId}
theorem Kept.drewn (m : List Nat) (w : World) : Kept m w { w with drawn:=w.drawn + 1 }:=⟨rfl,rfl,rfl,Nat.le_refl _,fun _ _ _=>rfl⟩
theorem regionA_run (hE : EqsOk P E) (hm : P.follows .mixedOrders = true) {id : Nat} {ops : Array Oper} {draw : Bool} {K : Array Value → List Blk → T} {R : Value → List Blk → Prop} {m : List Nat} {t t' : Array Value} {H : List Blk} {w : World}
    (ht : RA m t t') (hH : RH m H w) (h : Run P f R (regionA P E ops draw K t H)) : (Code.region id ops draw).wp P (QN P f m w K R) (act t') w:=by
  have ht0 : RA (m ++ []) t t':=by simpa using ht
  unfold regionA at h
  cases draw with
  | false=>
    simp only [Bool.false_eq_true,if_false] at h
    exact wp_region_list (opsN_run hE ops.toList [] t t' H w ht0 (by simpa using hH) (by simp) (Kept.refl _ _) h)
  | true=>
    simp only [if_true] at h
    have hH1 : RH m H { w with drawn:=w.drawn + 1 }:=⟨hH.len,hH.nodup,hH.blk⟩
    have kept : ∀ {w'},Below ({ w with drawn:=w.drawn + 1 } : World).heap.size { w with drawn:=w.drawn + 1 } w' → Kept m w w':=fun hb=>⟨hb.os,hb.tape,hb.output,hb.size,fun k hk _=>hb.block k hk⟩
    split at h
    · rename_i hc
      simp only [Bool.and_eq_true] at hc
      refine wp_region_quiet (C:=fun w'=>Below ({ w with drawn:=w.drawn + 1 } : World).heap.size { w with drawn:=w.drawn + 1 } w') hm hc.1 (Below.refl _ _) ?_
      refine opsQ_run hE hH1 (fun t t' ht h w' hb=>?_) ops.toList t t' ht h
      exact ⟨rfl,[],t,t',H,rfl,by simpa using ht,by simpa using hH1.below hb,by simp,kept hb,h⟩
    · split at h
      · rename_i hc
        refine wp_region_quiet_tail (C:=fun w'=>Below ({ w with drawn:=w.drawn + 1 } : World).heap.size { w with drawn:=w.drawn + 1 } w') _ hm hc (Below.refl _ _) ?_
        refine opsQ_run hE hH1 (fun t t' ht h w' hb=>?_) _ t t' ht h
        exact opsN_run hE _ [] t t' H w' (by simpa using ht) (by simpa using hH1.below hb) (by simp) (kept hb) h
      · exact (run_fail h).elim
end
end Go.Proofs.YtfhnlkinjbakgaaGreat.Abs
