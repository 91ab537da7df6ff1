/- The abstract machine: a region that draws its order and holds a call that makes blocks: every order is walked. -/
import Derived.Test.YtfhnlkinjbakgaaGreatSsAbsW
namespace Go.Proofs.YtfhnlkinjbakgaaGreat.Abs
open Go Go.RowKit
def Ag6 (o : Oper) : Bool:=
  match o.op with
  | .call c=>(c.args.toList.all fun x=>match x with | .func _=>true | _=>false) && c.args.size == 1
  | _=>false
def Ae2 : List T → T
  | []=>.fail
  | [x]=>x
  | x :: xs=>.both x (Ae2 xs)
def Ajp (P : Program) (o : Oper) : Bool:=
  match o.op with
  | .call c=>c.argTypes.toList.any fun T=>match P.types[T]? with
    | some i=>match i.desc with
      | .pointer e=>match P.types[e]? with | some j=>j.hasPointers | none=>false
      | _=>false
    | none=>false
  | _=>false
def Ail (ops : Array Oper) (listed : Array Bool) (i : Nat) : Bool:=(match ops[i]? with | some o=>Is o | none=>false) && Region.free .any ops listed i
def Acm (P : Program) (E : V4) (o : Oper) (t : Array Value) (H : List C6) (K : Array Value → T) : T:=
  match dP P E o t H with
  | .val v=>K (Fb t o.dst v)
  | .pick c a b=>.ite c (K (Fb t o.dst a)) (K (Fb t o.dst b))
  | .chk c v=>.ite c (K (Fb t o.dst v)) .fail
  | _=>.fail
def tX (P : Program) (E : V4) (ops : Array Oper) (K : Array Value → List C6 → T) : Nat → Array Bool → Array Value → List C6 → T
  | 0,listed,t,H=>if (Region.ready .any ops listed).isEmpty then K t H else .fail
  | n + 1,listed,t,H=>
    match Region.ready .any ops listed with
    | []=>K t H
    | rs=>match rs.find? (Ail ops listed) with
      | some i=>match ops[i]? with
        | none=>.fail
        | some o=>Pz ops o t (fun t=>Acm P E o t H fun t=>tX P E ops K n (listed.setIfInBounds i true) t H) (fun t=>tX P E ops K n (listed.setIfInBounds i true) (Fb t o.dst undef) H)
      | none=>Ae2 (rs.map fun i=>match ops[i]? with
        | none=>.fail
        | some o=>Pz ops o t (fun t=>i8 P E o t H fun t H=>tX P E ops K n (listed.setIfInBounds i true) t H) (fun t=>tX P E ops K n (listed.setIfInBounds i true) (Fb t o.dst undef) H))
section
variable {P : Program} {E : V4} {f : FuncId}
theorem mG {R : Value → List C6 → Prop} : ∀ {l : List T} {x : T},Ac P f R (Ae2 l) → x ∈ l → Ac P f R x
  | [_],x,h,hx=>by rw [List.mem_singleton] at hx; subst hx; exact h
  | a :: b :: l,x,h,hx=>by
    cases h with
    | both _ _ ha hb=>
      rcases List.mem_cons.1 hx with rfl | hx
      · exact ha
      · exact mG hb hx
theorem Agm (hE : Nl P E) {ops : Array Oper} {o : Oper} {Kt : Array Value → List C6 → T} {R : Value → List C6 → Prop} {m : List Nat} {t t' : Array Value} {H : List C6} {w : World} {KK : Act → World → Prop} {Q : Exit → Act → World → Prop}
    (ht : RA m t t') (hH : RH m H w)
    (next : ∀ (n' : List Nat) (t2 t2' : Array Value) (H2 : List C6) (w2 : World),RA (m ++ n') t2 t2' → RH (m ++ n') H2 w2 → (∀ j ∈ n',w.heap.size ≤ j) → H5 m w w2 → Ac P f R (Kt t2 H2) → KK (Fh t2') w2)
    (h : Ac P f R (Pz ops o t (fun t=>i8 P E o t H Kt) (fun t=>Kt (Fb t o.dst undef) H))) :
    if Region.wanted o (yielded ops (Fh t').tmps) then o.wp P (Fh t') w KK Q ∨ (o.asks P (Fh t') w ∧ LetsOut Q) else KK ((Fh t').put o.dst undef) w:=by
  have same : ∀ (t2 t2' : Array Value) ,RA m t2 t2' → Ac P f R (Kt t2 H) → KK (Fh t2') w:=fun t2 t2' a1 a5=>
    next [] t2 t2' H w (by simpa using a1) (by simpa using hH) (by simp) (H5.refl _ _) a5
  rcases Rf ht h with ⟨hw,h⟩ | ⟨hw,h⟩
  · have hw' : Region.wanted o (yielded ops (Fh t').tmps) = true:=hw
    rw [if_pos hw']
    left
    unfold Oper.wp
    unfold i8 at h
    split at h
    · rename_i u hu
      obtain ⟨u',hr,hv⟩:=R9 (w:=w) ht (fun _=>hH) hE hu
      rw [hr,Oper.upon_value,Dl]
      exact same _ _ (ht.put hv _) h
    · rename_i u H2 hu
      obtain ⟨w',u',n',hr,hv,hH',hn',hk'⟩:=xX ht hH hu
      have h2:=next n' (Fb t o.dst u) (Fb t' o.dst u') H2 w' ((ht.mono n').put hv _) hH' hn' hk' h
      rcases hr with hr | ⟨hr,rfl⟩
      · rw [hr,Oper.upon_value,Dl]; exact h2
      · rw [hr,Oper.upon_skip,Dl]; exact h2
    · rename_i c x y hu
      obtain ⟨u',hr,hv⟩:=Ku (E:=E) ht hu w
      rw [hr,Oper.upon_value,Dl]
      have h2:=Ob h
      cases c
      · exact same _ _ (ht.put hv _) h2
      · exact same _ _ (ht.put hv _) h2
    · rename_i c u hu
      have h2:=Ob h
      cases c
      · exact (E7 h2).elim
      · obtain ⟨u',hr,hv⟩:=Sa hE ht hu rfl w
        rw [hr,Oper.upon_value,Dl]
        exact same _ _ (ht.put hv _) h2
    · rename_i x hu
      cases h with
      | opt _ _ u hx hk2=>
        obtain ⟨u',hr,hv⟩:=gK ht hH hu hx
        rw [hr,Oper.upon_value,Dl]
        exact same _ _ (ht.put hv _) hk2
    · rename_i g args hu
      cases h with
      | call _ sel H0 args0 _ _ u hF hfl hs hcc mZ hok hk2=>
        obtain ⟨args',hr,ha⟩:=O2 (E:=E) ht hu hF.1 w
        rw [hr,Oper.upon_enter]
        refine (Ww hH hF hfl hs hcc mZ hok ha).mono ?_
        rintro e w' ⟨rfl,hb⟩
        show KK ((Fh t').put o.dst u) w'
        rw [Dl]
        exact next [] _ _ H w' (by simpa using ht.put (VR.refl_of_flat _ hfl) o.dst) (by simpa using hH.below hb) (by simp) (H5.of_below hb) hk2
      | new _ _ _ _ S hF hS hok hk2=>
        obtain ⟨args',hr,ha⟩:=O2 (E:=E) ht hu hF.1 w
        rw [hr,Oper.upon_enter]
        refine (tP hH hF hS hok ha).mono ?_
        rintro e w' ⟨u,X,v',n',rfl,hv,hH',hn',hk',hs⟩
        show KK ((Fh t').put o.dst v') w'
        rw [Dl]
        exact next n' _ _ _ w' ((ht.mono n').put hv _) hH' hn' hk' (hk2 u X hs)
      | chg _ zs xs Z X0 args0 _ _ S hF hz hzc hx hcc mZ hok hS hk2=>
        obtain ⟨args',hr,ha⟩:=O2 (E:=E) ht hu hF.1 w
        rw [hr,Oper.upon_enter]
        refine (tQ hH hF hz hzc hx hcc mZ hok hS ha).mono ?_
        rintro e w' ⟨u,X,v',n',rfl,hv,hH',hn',hk',hs'⟩
        show KK ((Fh t').put o.dst v') w'
        rw [Dl]
        exact next n' _ _ _ w' ((ht.mono n').put hv _) hH' hn' hk' (hk2 u X hs')
    · exact (E7 h).elim
  · have hw' : ¬ Region.wanted o (yielded ops (Fh t').tmps) = true:=by
      show ¬ Region.wanted o (yielded ops t') = true
      simp [hw]
    rw [if_neg hw',Dl]
    exact same _ _ (ht.put (VR.undef _) _) h
theorem pR (hE : Nl P E) {ops : Array Oper} {o : Oper} (hf : Is o = true) {Kt : Array Value → T} {R : Value → List C6 → Prop} {m : List Nat} {t t' : Array Value} {H : List C6} {w : World}
    (ht : RA m t t') (h : Ac P f R (Pz ops o t (fun t=>Acm P E o t H Kt) (fun t=>Kt (Fb t o.dst undef)))) :
    ∃ v u,Yields P ops o v (Fh t') ∧ VR m u v ∧ Ac P f R (Kt (Fb t o.dst u)):=by
  have vac : ∀ w,Is o = false → RH m H w:=fun w e=>by rw [hf] at e; cases e
  have quiet : ∀ (u u' : Value),VR m u u' → (∀ w',∃ x,(execOp (Fh t').eval o).run P w' = .ok (.value x) w' ∧ VR m u x) → ∀ w',(execOp (Fh t').eval o).run P w' = .ok (.value u') w':=fun u u' hu hr w'=>by
    obtain ⟨x,hx,hv⟩:=hr w'
    rw [hx,hv.fn hu]
  rcases Rf ht h with ⟨hw,h⟩ | ⟨hw,h⟩
  · unfold Acm at h
    split at h
    · rename_i u hu
      obtain ⟨u',_,hv⟩:=R9 (w:=w) ht (vac w) hE hu
      exact ⟨u',u,.inl ⟨hw,quiet u u' hv fun w'=>R9 ht (vac w') hE hu⟩,hv,h⟩
    · rename_i c x y hu
      obtain ⟨u',_,hv⟩:=Ku (E:=E) ht hu w
      have h2:=Ob h
      cases c
      · exact ⟨u',y,.inl ⟨hw,quiet y u' hv fun w'=>Ku (E:=E) ht hu w'⟩,hv,h2⟩
      · exact ⟨u',x,.inl ⟨hw,quiet x u' hv fun w'=>Ku (E:=E) ht hu w'⟩,hv,h2⟩
    · rename_i c u hu
      have h2:=Ob h
      cases c
      · exact (E7 h2).elim
      · obtain ⟨u',_,hv⟩:=Sa hE ht hu rfl w
        exact ⟨u',u,.inl ⟨hw,quiet u u' hv fun w'=>Sa hE ht hu rfl w'⟩,hv,h2⟩
    · exact (E7 h).elim
  · exact ⟨undef,undef,.inr ⟨hw,rfl⟩,VR.undef _,h⟩
theorem kX (hE : Nl P E) {ops : Array Oper} (hsel : Region.noSelect ops = true) {K : Array Value → List C6 → T} {R : Value → List C6 → Prop} {m0 : List Nat} {w0 : World} :
    ∀ (fuel : Nat) (listed : Array Bool) (n : List Nat) (t t' : Array Value) (H : List C6) (w : World),RA (m0 ++ n) t t' → RH (m0 ++ n) H w → (∀ j ∈ n,w0.heap.size ≤ j) → H5 m0 w0 w →
      Ac P f R (tX P E ops K fuel listed t H) → wpAny P .any ops (QN P f m0 w0 K R) fuel listed (Fh t') w
  | 0,listed,n,t,t',H,w,ht,hH,hn,hk,h=>by
    unfold tX at h
    split at h
    · rename_i hr
      exact ⟨by simpa using hr,rfl,n,t,t',H,rfl,ht,hH,hn,hk,h⟩
    · exact (E7 h).elim
  | fuel + 1,listed,n,t,t',H,w,ht,hH,hn,hk,h=>by
    unfold tX at h
    split at h
    · rename_i hr
      exact ⟨fun _=>⟨rfl,n,t,t',H,rfl,ht,hH,hn,hk,h⟩,fun i hi=>by rw [hr] at hi; cases hi⟩
    · rename_i rs hne
      split at h
      · rename_i i hfi
        have hi:=List.mem_of_find?_eq_some hfi
        have he:=List.find?_some hfi
        cases ho : ops[i]? with
        | none=>simp only [ho] at h; exact (E7 h).elim
        | some o=>
          simp only [ho] at h
          unfold Ail at he
          simp only [ho,Bool.and_eq_true] at he
          obtain ⟨v,u,hy,hv,h2⟩:=pR (w:=w) hE he.1 ht h
          refine wpAny_take ho hsel he.2 (by simpa using hi) (fun c a w h=>by cases h.1) hy ?_
          rw [Dl]
          exact kX hE hsel fuel _ n _ _ H w (ht.put hv _) hH hn hk h2
      · refine ⟨fun h0=>absurd h0 hne,fun i hi=>?_⟩
        have h1:=mG h (List.mem_map_of_mem hi)
        unfold wpOp
        cases ho : ops[i]? with
        | none=>simp only [ho] at h1; exact (E7 h1).elim
        | some o=>
          simp only [ho] at h1
          exact Agm hE ht hH (fun n' t2 t2' H2 w2 a1 a2 a3 a4 a5=>by
            refine kX hE hsel fuel _ (n ++ n') t2 t2' H2 w2 (by rw [← List.append_assoc]; exact a1) (by rw [← List.append_assoc]; exact a2) (fun j hj=>?_) (hk.trans a4 hn) a5
            rcases List.mem_append.1 hj with hj | hj
            · exact hn j hj
            · exact Nat.le_trans hk.size (a3 j hj)) h1
def o9 (P : Program) (E : V4) (ops : Array Oper) (draw : Bool) (K : Array Value → List C6 → T) (t : Array Value) (H : List C6) : T:=
  if draw && (Region.noSelect ops && ops.toList.any fun o=>Ag6 o || Ajp P o) then tX P E ops K ops.size (Array.replicate ops.size false) t H
  else o8 P E ops draw K t H
theorem rC (hE : Nl P E) (hm : P.follows .mixedOrders = true) {id : Nat} {ops : Array Oper} {draw : Bool} {K : Array Value → List C6 → T} {R : Value → List C6 → Prop} {m : List Nat} {t t' : Array Value} {H : List C6} {w : World}
    (ht : RA m t t') (hH : RH m H w) (h : Ac P f R (o9 P E ops draw K t H)) : (Code.region id ops draw).wp P (QN P f m w K R) (Fh t') w:=by
  unfold o9 at h
  split at h
  · rename_i hd
    simp only [Bool.and_eq_true] at hd
    rw [hd.1]
    have hH1 : RH m H { w with drawn:=w.drawn + 1 }:=⟨hH.len,hH.nodup,hH.blk⟩
    refine wp_region_any hm ?_
    exact kX hE hd.2.1 _ _ [] t t' H _ (by simpa using ht) (by simpa using hH1) (by simp) (H5.drewn _ _) h
  · exact rB hE hm ht hH h
end
end Go.Proofs.YtfhnlkinjbakgaaGreat.Abs
