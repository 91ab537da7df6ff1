/- The abstract machine: a region that draws its order and holds a call that makes blocks: every order is walked. -/
import Derived.Test.YtfhnlkinjbakgaaGreatMsAbsW
namespace Go.Proofs.YtfhnlkinjbakgaaGreat.Abs
open Go Go.RowKit
def isMaker (o : Oper) : Bool:=
  match o.op with
  | .call c=>(c.args.toList.all fun x=>match x with | .func _=>true | _=>false) && c.args.size == 1
  | _=>false
def bothL : List T → T
  | []=>.fail
  | [x]=>x
  | x :: xs=>.both x (bothL xs)
def isLoud (P : Program) (o : Oper) : Bool:=
  match o.op with
  | .call c=>c.argTypes.toList.any fun T=>match P.types[T]? with
    | some i=>match i.desc with
      | .pointer e=>match P.types[e]? with | some j=>j.hasPointers | none=>false
      | _=>false
    | none=>false
  | _=>false
def early (ops : Array Oper) (listed : Array Bool) (i : Nat) : Bool:=(match ops[i]? with | some o=>opFree o | none=>false) && Region.free .any ops listed i
def stepV (P : Program) (E : Eqs) (o : Oper) (t : Array Value) (H : List Blk) (K : Array Value → T) : T:=
  match opA P E o t H with
  | .val v=>K (putA t o.dst v)
  | .pick c a b=>.ite c (K (putA t o.dst a)) (K (putA t o.dst b))
  | .chk c v=>.ite c (K (putA t o.dst v)) .fail
  | _=>.fail
def anyA (P : Program) (E : Eqs) (ops : Array Oper) (K : Array Value → List Blk → T) : Nat → Array Bool → Array Value → List Blk → T
  | 0,listed,t,H=>if (Region.ready .any ops listed).isEmpty then K t H else .fail
  | n + 1,listed,t,H=>
    match Region.ready .any ops listed with
    | []=>K t H
    | rs=>match rs.find? (early ops listed) with
      | some i=>match ops[i]? with
        | none=>.fail
        | some o=>guarded ops o t (fun t=>stepV P E o t H fun t=>anyA P E ops K n (listed.setIfInBounds i true) t H) (fun t=>anyA P E ops K n (listed.setIfInBounds i true) (putA t o.dst undef) H)
      | none=>bothL (rs.map fun i=>match ops[i]? with
        | none=>.fail
        | some o=>guarded ops o t (fun t=>stepN P E o t H fun t H=>anyA P E ops K n (listed.setIfInBounds i true) t H) (fun t=>anyA P E ops K n (listed.setIfInBounds i true) (putA t o.dst undef) H))
section
variable {P : Program} {E : Eqs} {f : FuncId}
theorem run_bothL {R : Value → List Blk → Prop} : ∀ {l : List T} {x : T},Run P f R (bothL l) → x ∈ l → Run P f R x
  | [_],x,h,hx=>by rw [List.mem_singleton] at hx; subst hx; exact h
  | a :: b :: l,x,h,hx=>by
    cases h with
    | both _ _ ha hb=>
      rcases List.mem_cons.1 hx with rfl | hx
      · exact ha
      · exact run_bothL hb hx
theorem step_wp (hE : EqsOk P E) {ops : Array Oper} {o : Oper} {Kt : Array Value → List Blk → T} {R : Value → List Blk → Prop} {m : List Nat} {t t' : Array Value} {H : List Blk} {w : World} {KK : Act → World → Prop} {Q : Exit → Act → World → Prop}
    (ht : RA m t t') (hH : RH m H w)
    (next : ∀ (n' : List Nat) (t2 t2' : Array Value) (H2 : List Blk) (w2 : World),RA (m ++ n') t2 t2' → RH (m ++ n') H2 w2 → (∀ j ∈ n',w.heap.size ≤ j) → Kept m w w2 → Run P f R (Kt t2 H2) → KK (act t2') w2)
    (h : Run P f R (guarded ops o t (fun t=>stepN P E o t H Kt) (fun t=>Kt (putA t o.dst undef) H))) :
    if Region.wanted o (yielded ops (act t').tmps) then o.wp P (act t') w KK Q ∨ (o.asks P (act t') w ∧ LetsOut Q) else KK ((act t').put o.dst undef) w:=by
  have same : ∀ (t2 t2' : Array Value) ,RA m t2 t2' → Run P f R (Kt t2 H) → KK (act t2') w:=fun t2 t2' a1 a5=>
    next [] t2 t2' H w (by simpa using a1) (by simpa using hH) (by simp) (Kept.refl _ _) a5
  rcases guarded_run ht h with ⟨hw,h⟩ | ⟨hw,h⟩
  · have hw' : Region.wanted o (yielded ops (act t').tmps) = true:=hw
    rw [if_pos hw']
    left
    unfold Oper.wp
    unfold stepN at h
    split at h
    · rename_i u hu
      obtain ⟨u',hr,hv⟩:=opA_val (w:=w) ht (fun _=>hH) hE hu
      rw [hr,Oper.upon_value,act_put]
      exact same _ _ (ht.put hv _) h
    · rename_i u H2 hu
      obtain ⟨w',u',n',hr,hv,hH',hn',hk'⟩:=opA_mem ht hH hu
      have h2:=next n' (putA t o.dst u) (putA t' o.dst u') H2 w' ((ht.mono n').put hv _) hH' hn' hk' h
      rcases hr with hr | ⟨hr,rfl⟩
      · rw [hr,Oper.upon_value,act_put]; exact h2
      · rw [hr,Oper.upon_skip,act_put]; exact h2
    · rename_i c x y hu
      obtain ⟨u',hr,hv⟩:=opA_pick (E:=E) ht hu w
      rw [hr,Oper.upon_value,act_put]
      have h2:=run_ite h
      cases c
      · exact same _ _ (ht.put hv _) h2
      · exact same _ _ (ht.put hv _) h2
    · rename_i c u hu
      have h2:=run_ite h
      cases c
      · exact (run_fail h2).elim
      · obtain ⟨u',hr,hv⟩:=opA_chk hE ht hu rfl w
        rw [hr,Oper.upon_value,act_put]
        exact same _ _ (ht.put hv _) h2
    · rename_i x hu
      cases h with
      | opt _ _ u hx hk2=>
        obtain ⟨u',hr,hv⟩:=opA_opt ht hH hu hx
        rw [hr,Oper.upon_value,act_put]
        exact same _ _ (ht.put hv _) hk2
    · rename_i g args hu
      cases h with
      | call _ sel H0 args0 _ _ u hF hfl hs hcc hsn hok hk2=>
        obtain ⟨args',hr,ha⟩:=opA_enter (E:=E) ht hu hF.1 w
        rw [hr,Oper.upon_enter]
        refine (call_reads hH hF hfl hs hcc hsn hok ha).mono ?_
        rintro e w' ⟨rfl,hb⟩
        show KK ((act t').put o.dst u) w'
        rw [act_put]
        exact next [] _ _ H w' (by simpa using ht.put (VR.refl_of_flat _ hfl) o.dst) (by simpa using hH.below hb) (by simp) (Kept.of_below hb) hk2
      | new _ _ _ _ S hF hS hok hk2=>
        obtain ⟨args',hr,ha⟩:=opA_enter (E:=E) ht hu hF.1 w
        rw [hr,Oper.upon_enter]
        refine (call_new hH hF hS hok ha).mono ?_
        rintro e w' ⟨u,X,v',n',rfl,hv,hH',hn',hk',hs⟩
        show KK ((act t').put o.dst v') w'
        rw [act_put]
        exact next n' _ _ _ w' ((ht.mono n').put hv _) hH' hn' hk' (hk2 u X hs)
      | chg _ zs xs Z X0 args0 _ _ S hF hz hzc hx hcc hsn hok hS hk2=>
        obtain ⟨args',hr,ha⟩:=opA_enter (E:=E) ht hu hF.1 w
        rw [hr,Oper.upon_enter]
        refine (call_chg hH hF hz hzc hx hcc hsn hok hS ha).mono ?_
        rintro e w' ⟨u,X,v',n',rfl,hv,hH',hn',hk',hs'⟩
        show KK ((act t').put o.dst v') w'
        rw [act_put]
        exact next n' _ _ _ w' ((ht.mono n').put hv _) hH' hn' hk' (hk2 u X hs')
    · exact (run_fail h).elim
  · have hw' : ¬ Region.wanted o (yielded ops (act t').tmps) = true:=by
      show ¬ Region.wanted o (yielded ops t') = true
      simp [hw]
    rw [if_neg hw',act_put]
    exact same _ _ (ht.put (VR.undef _) _) h
theorem early_yields (hE : EqsOk P E) {ops : Array Oper} {o : Oper} (hf : opFree o = true) {Kt : Array Value → T} {R : Value → List Blk → Prop} {m : List Nat} {t t' : Array Value} {H : List Blk} {w : World}
    (ht : RA m t t') (h : Run P f R (guarded ops o t (fun t=>stepV P E o t H Kt) (fun t=>Kt (putA t o.dst undef)))) :
    ∃ v u,Yields P ops o v (act t') ∧ VR m u v ∧ Run P f R (Kt (putA t o.dst u)):=by
  have vac : ∀ w,opFree o = false → RH m H w:=fun w e=>by rw [hf] at e; cases e
  have quiet : ∀ (u u' : Value),VR m u u' → (∀ w',∃ x,(execOp (act t').eval o).run P w' = .ok (.value x) w' ∧ VR m u x) → ∀ w',(execOp (act t').eval o).run P w' = .ok (.value u') w':=fun u u' hu hr w'=>by
    obtain ⟨x,hx,hv⟩:=hr w'
    rw [hx,hv.fn hu]
  rcases guarded_run ht h with ⟨hw,h⟩ | ⟨hw,h⟩
  · unfold stepV at h
    split at h
    · rename_i u hu
      obtain ⟨u',_,hv⟩:=opA_val (w:=w) ht (vac w) hE hu
      exact ⟨u',u,.inl ⟨hw,quiet u u' hv fun w'=>opA_val ht (vac w') hE hu⟩,hv,h⟩
    · rename_i c x y hu
      obtain ⟨u',_,hv⟩:=opA_pick (E:=E) ht hu w
      have h2:=run_ite h
      cases c
      · exact ⟨u',y,.inl ⟨hw,quiet y u' hv fun w'=>opA_pick (E:=E) ht hu w'⟩,hv,h2⟩
      · exact ⟨u',x,.inl ⟨hw,quiet x u' hv fun w'=>opA_pick (E:=E) ht hu w'⟩,hv,h2⟩
    · rename_i c u hu
      have h2:=run_ite h
      cases c
      · exact (run_fail h2).elim
      · obtain ⟨u',_,hv⟩:=opA_chk hE ht hu rfl w
        exact ⟨u',u,.inl ⟨hw,quiet u u' hv fun w'=>opA_chk hE ht hu rfl w'⟩,hv,h2⟩
    · exact (run_fail h).elim
  · exact ⟨undef,undef,.inr ⟨hw,rfl⟩,VR.undef _,h⟩
theorem anyA_run (hE : EqsOk P E) {ops : Array Oper} (hsel : Region.noSelect ops = true) {K : Array Value → List Blk → T} {R : Value → List Blk → Prop} {m0 : List Nat} {w0 : World} :
    ∀ (fuel : Nat) (listed : Array Bool) (n : List Nat) (t t' : Array Value) (H : List Blk) (w : World),RA (m0 ++ n) t t' → RH (m0 ++ n) H w → (∀ j ∈ n,w0.heap.size ≤ j) → Kept m0 w0 w →
      Run P f R (anyA P E ops K fuel listed t H) → wpAny P .any ops (QN P f m0 w0 K R) fuel listed (act t') w
  | 0,listed,n,t,t',H,w,ht,hH,hn,hk,h=>by
    unfold anyA at h
    split at h
    · rename_i hr
      exact ⟨by simpa using hr,rfl,n,t,t',H,rfl,ht,hH,hn,hk,h⟩
    · exact (run_fail h).elim
  | fuel + 1,listed,n,t,t',H,w,ht,hH,hn,hk,h=>by
    unfold anyA at h
    split at h
    · rename_i hr
      exact ⟨fun _=>⟨rfl,n,t,t',H,rfl,ht,hH,hn,hk,h⟩,fun i hi=>by rw [hr] at hi; cases hi⟩
    · rename_i rs hne
      split at h
      · rename_i i hfi
        have hi:=List.mem_of_find?_eq_some hfi
        have he:=List.find?_some hfi
        cases ho : ops[i]? with
        | none=>simp only [ho] at h; exact (run_fail h).elim
        | some o=>
          simp only [ho] at h
          unfold early at he
          simp only [ho,Bool.and_eq_true] at he
          obtain ⟨v,u,hy,hv,h2⟩:=early_yields (w:=w) hE he.1 ht h
          refine wpAny_take ho hsel he.2 (by simpa using hi) (fun c a w h=>by cases h.1) hy ?_
          rw [act_put]
          exact anyA_run hE hsel fuel _ n _ _ H w (ht.put hv _) hH hn hk h2
      · refine ⟨fun h0=>absurd h0 hne,fun i hi=>?_⟩
        have h1:=run_bothL h (List.mem_map_of_mem hi)
        unfold wpOp
        cases ho : ops[i]? with
        | none=>simp only [ho] at h1; exact (run_fail h1).elim
        | some o=>
          simp only [ho] at h1
          exact step_wp hE ht hH (fun n' t2 t2' H2 w2 a1 a2 a3 a4 a5=>by
            refine anyA_run hE hsel fuel _ (n ++ n') t2 t2' H2 w2 (by rw [← List.append_assoc]; exact a1) (by rw [← List.append_assoc]; exact a2) (fun j hj=>?_) (hk.trans a4 hn) a5
            rcases List.mem_append.1 hj with hj | hj
            · exact hn j hj
            · exact Nat.le_trans hk.size (a3 j hj)) h1
def regionO (P : Program) (E : Eqs) (ops : Array Oper) (draw : Bool) (K : Array Value → List Blk → T) (t : Array Value) (H : List Blk) : T:=
  if draw && (Region.noSelect ops && ops.toList.any fun o=>isMaker o || isLoud P o) then anyA P E ops K ops.size (Array.replicate ops.size false) t H
  else regionW P E ops draw K t H
theorem regionO_run (hE : EqsOk P E) (hm : P.follows .mixedOrders = true) {id : Nat} {ops : Array Oper} {draw : Bool} {K : Array Value → List Blk → T} {R : Value → List Blk → Prop} {m : List Nat} {t t' : Array Value} {H : List Blk} {w : World}
    (ht : RA m t t') (hH : RH m H w) (h : Run P f R (regionO P E ops draw K t H)) : (Code.region id ops draw).wp P (QN P f m w K R) (act t') w:=by
  unfold regionO at h
  split at h
  · rename_i hd
    simp only [Bool.and_eq_true] at hd
    rw [hd.1]
    have hH1 : RH m H { w with drawn:=w.drawn + 1 }:=⟨hH.len,hH.nodup,hH.blk⟩
    refine wp_region_any hm ?_
    exact anyA_run hE hd.2.1 _ _ [] t t' H _ (by simpa using ht) (by simpa using hH1) (by simp) (Kept.drewn _ _) h
  · exact regionW_run hE hm ht hH h
end
end Go.Proofs.YtfhnlkinjbakgaaGreat.Abs
