/- The abstract machine, sixth part: regions, code, whole functions. -/
import Derived.Test.YtfhnlkinjbakgaaGreatMsAbs5
namespace Go.Proofs.YtfhnlkinjbakgaaGreat.Abs
open Go Go.RowKit
section
variable {P : Program} {E : Eqs} {f : FuncId}
theorem mapM_at {α β : Type} {φ : α → Option β} : ∀ {l : List α} {r : List β},l.mapM φ = some r → ∀ (k : Nat) (a : α),l[k]? = some a → r[k]? = φ a:=by
  intro l
  induction l with
  | nil=>intro r h k a hk; simp at hk
  | cons x l ih=>
    intro r h k a hk
    simp only [List.mapM_cons,Option.bind_eq_bind,Option.bind_eq_some_iff,Option.pure_def,Option.some.injEq] at h
    obtain ⟨y,hy,r',hr,rfl⟩:=h
    cases k with
    | zero=>simp at hk; subst hk; simp [hy]
    | succ k=>simp at hk; simpa using ih hr k a hk
theorem mapM_len {α β : Type} {φ : α → Option β} : ∀ {l : List α} {r : List β},l.mapM φ = some r → r.length = l.length:=by
  intro l
  induction l with
  | nil=>intro r h; simp at h; subst h; rfl
  | cons x l ih=>
    intro r h
    simp only [List.mapM_cons,Option.bind_eq_bind,Option.bind_eq_some_iff,Option.pure_def,Option.some.injEq] at h
    obtain ⟨y,hy,r',hr,rfl⟩:=h
    simp [ih hr]
theorem arg_rel {m m0 sel : List Nat} (hm : sel.mapM (fun i=>m[i]?) = some m0) {v v' : Value} (ho : argOk sel.length v = true) (h : VR m (renum sel v) v') : VR m0 v v':=by
  have ptr : ∀ (i o : Nat) (u' : Value),i < sel.length → VR m (.pointer (some ⟨sel.getD i 0,o,none⟩)) u' → VR m0 (.pointer (some ⟨i,o,none⟩)) u':=fun i o u' hi hv=>by
    cases hv with
    | pl _ h'=>simp [flat1] at h'
    | ptr _ j _ _ hj=>
      refine .ptr i j o none ?_
      rw [mapM_at hm i sel[i] (List.getElem?_eq_getElem hi)]
      simpa [List.getD,List.getElem?_eq_getElem hi] using hj
  have slc : ∀ (i o l c : Nat) (u' : Value),i < sel.length → VR m (.slice (some ⟨sel.getD i 0,o,none⟩) l c) u' → VR m0 (.slice (some ⟨i,o,none⟩) l c) u':=fun i o l c u' hi hv=>by
    cases hv with
    | pl _ h'=>simp [flat1] at h'
    | slice _ j _ _ _ _ hj=>
      refine .slice i j o l c none ?_
      rw [mapM_at hm i sel[i] (List.getElem?_eq_getElem hi)]
      simpa [List.getD,List.getElem?_eq_getElem hi] using hj
  have flat_ : flat v = true → VR m v v' → VR m0 v v':=fun hf hv=>by rw [hv.eq_of_flat hf]; exact VR.refl_of_flat m0 hf
  cases v with
  | pointer a=>
    cases a with
    | none=>exact flat_ rfl h
    | some a=>
      obtain ⟨i,o,s⟩:=a
      cases s with
      | none=>exact ptr i o v' (by simpa [argOk] using ho) h
      | some s=>simp [argOk,flat,flat1] at ho
  | func fn a c=>
    simp only [argOk,Bool.and_eq_true,beq_iff_eq] at ho
    simp only [renum] at h
    cases h with
    | pl _ h'=>simp [flat1] at h'
    | func _ _ a' _ c' ha hc h1 h2=>
      simp at hc
      refine .func fn a a' c c' ha hc (fun i v v' k1 _=>?_) fun i u u' k1 k2=>?_
      · rw [Array.getElem?_eq_none (by omega)] at k1; cases k1
      · have hu:=List.all_eq_true.1 ho.2 u (by rw [Array.mem_toList_iff]; exact Array.mem_of_getElem? k1)
        have k3:=h2 i _ u' (by rw [List.getElem?_toArray,List.getElem?_map,Array.getElem?_toList,k1]; rfl) k2
        cases u with
        | pointer q=>
          cases q with
          | none=>rw [VR.eq_of_flat (v:=.pointer none) rfl k3]; exact .pl _ rfl
          | some q=>
            obtain ⟨i,o,s⟩:=q
            cases s with
            | none=>exact ptr i o u' (by simpa using hu) k3
            | some s=>simp [flat1] at hu
        | _=>first | (simp [flat1] at hu; done) | (rw [VR.eq_of_flat (by first | rfl | exact hu) k3]; exact .pl _ hu)
  | slice a l c=>
    cases a with
    | none=>exact flat_ rfl h
    | some a=>
      obtain ⟨i,o,s⟩:=a
      cases s with
      | none=>exact slc i o l c v' (by simpa [argOk] using ho) h
      | some s=>simp [argOk,flat,flat1] at ho
  | agg cs=>exact flat_ ho h
  | tuple cs=>exact flat_ ho h
  | _=>exact flat_ ho h
theorem args_rel {m m0 sel : List Nat} (hm : sel.mapM (fun i=>m[i]?) = some m0) {args args' : Array Value} (ho : args.toList.all (argOk sel.length) = true)
    (h : RA m (args.toList.map (renum sel)).toArray args') : RA m0 args args':=by
  refine ⟨by have:=h.size; simpa using this,fun i v v' h1 h2=>?_⟩
  refine arg_rel hm (List.all_eq_true.1 ho v (by rw [Array.mem_toList_iff]; exact Array.mem_of_getElem? h1)) (h.at_ i _ v' ?_ h2)
  rw [List.getElem?_toArray,List.getElem?_map,Array.getElem?_toList,h1]; rfl
theorem call_reads {m : List Nat} {H H0 : List Blk} {w : World} {g : FuncId} {sel : List Nat} {args args' : Array Value} {u : Value} (hH : RH m H w)
    (hF : Fun P g H0 args u H0) (hu : flat u = true) (hs : sel.mapM (fun i=>H[i]?) = some H0) (hc : H0.all (fun b=>b.1.toList.all flat) = true) (hn : sel.Nodup) (ho : args.toList.all (argOk sel.length) = true)
    (ha : RA m (args.toList.map (renum sel)).toArray args') : Calls P g args' w fun e w'=>e = .returned u ∧ Below w.heap.size w w':=by
  obtain ⟨m0,hm0,hH0,_⟩:=select hH hs hc hn
  refine (hF.2 m0 args' w (args_rel hm0 ho ha) hH0).mono ?_
  rintro e w' ⟨v',n,rfl,hv,hH',_,hk⟩
  have hn0 : n = []:=by
    have h1:=hH'.len
    have h2:=hH0.len
    simp at h1
    exact List.length_eq_zero_iff.1 (by omega)
  subst hn0
  rw [List.append_nil] at hv hH'
  exact ⟨by rw [hv.eq_of_flat hu],hH0.below_of hH' hk⟩
theorem shift1_rel {m : List Nat} {k : Nat} (n : List Nat) (hk : m.length = k) {v v' : Value} (h : VR n v v') : (flat1 v = true ∨ (∃ i o,v = .pointer (some ⟨i,o,none⟩)) ∨ ∃ i o s l c,v = .slice (some ⟨i,o,s⟩) l c) → VR (m ++ n) (shift1 k v) v':=by
  rintro (hf | ⟨i,o,rfl⟩ | ⟨i,o,s,l,c,rfl⟩)
  · have e : shift1 k v = v:=by
      cases v with
      | slice a l c=>cases a with
        | none=>rfl
        | some a=>simp [flat1] at hf
      | pointer a=>cases a with
        | none=>rfl
        | some a=>simp [flat1] at hf
      | _=>rfl
    rw [e]
    have : flat v = true:=by cases v <;> first | exact hf | (simp [flat1] at hf)
    rw [h.eq_of_flat this]
    exact .pl v hf
  · cases h with
    | pl _ h'=>simp [flat1] at h'
    | ptr _ j _ _ hj=>
      refine .ptr (k + i) j o none ?_
      rw [List.getElem?_append_right (by omega)]
      simpa [hk] using hj
  · cases h with
    | pl _ h'=>simp [flat1] at h'
    | slice _ j _ _ _ _ hj=>
      refine .slice (k + i) j o l c s ?_
      rw [List.getElem?_append_right (by omega)]
      simpa [hk] using hj
theorem shift_rel {m n : List Nat} {k : Nat} (hk : m.length = k) {u v' : Value} (hu : newOk u = true) (h : VR n u v') : VR (m ++ n) (shiftV k u) v':=by
  have flat_ : ∀ {u v' : Value},flat u = true → VR n u v' → VR (m ++ n) u v':=fun hf hv=>by rw [hv.eq_of_flat hf]; exact VR.refl_of_flat _ hf
  cases u with
  | tuple vs=>
    simp only [newOk] at hu
    cases h with
    | pl _ h'=>simp [flat1] at h'
    | tuple _ vs' hs h1=>
      refine .tuple _ vs' (by simpa using hs) fun i u u' k1 k2=>?_
      simp only [List.getElem?_toArray,List.getElem?_map,Array.getElem?_toList,Option.map_eq_some_iff] at k1
      obtain ⟨q,hq,rfl⟩:=k1
      have hq':=List.all_eq_true.1 hu q (by rw [Array.mem_toList_iff]; exact Array.mem_of_getElem? hq)
      have hr:=h1 i q u' hq k2
      cases q with
      | agg cs=>exact flat_ (by exact hq') hr
      | pointer a=>
        cases a with
        | none=>exact shift1_rel n hk hr (.inl rfl)
        | some a=>
          obtain ⟨i,o,s⟩:=a
          cases s with
          | none=>exact shift1_rel n hk hr (.inr (.inl ⟨i,o,rfl⟩))
          | some s=>simp [flat1] at hq'
      | slice a l c=>
        cases a with
        | none=>exact shift1_rel n hk hr (.inl rfl)
        | some a=>obtain ⟨i,o,s⟩:=a; exact shift1_rel n hk hr (.inr (.inr ⟨i,o,s,l,c,rfl⟩))
      | _=>exact shift1_rel n hk hr (.inl hq')
  | func fn a c=>
    simp only [newOk,Bool.and_eq_true,beq_iff_eq] at hu
    cases h with
    | pl _ h'=>simp [flat1] at h'
    | func _ _ a' _ c' ha hc h1 h2=>
      refine .func fn a a' _ c' ha (by simpa using hc) (fun i v v' k1 _=>?_) fun i q q' k1 k2=>?_
      · rw [Array.getElem?_eq_none (by omega)] at k1; cases k1
      · simp only [List.getElem?_toArray,List.getElem?_map,Array.getElem?_toList,Option.map_eq_some_iff] at k1
        obtain ⟨q,hq,rfl⟩:=k1
        have hq':=List.all_eq_true.1 hu.2 q (by rw [Array.mem_toList_iff]; exact Array.mem_of_getElem? hq)
        have hr:=h2 i q q' hq k2
        cases q with
        | pointer a=>
          cases a with
          | none=>exact shift1_rel n hk hr (.inl rfl)
          | some a=>
            obtain ⟨i,o,s⟩:=a
            cases s with
            | none=>exact shift1_rel n hk hr (.inr (.inl ⟨i,o,rfl⟩))
            | some s=>simp [flat1] at hq'
        | _=>exact shift1_rel n hk hr (.inl hq')
  | pointer a=>
    cases a with
    | none=>exact shift1_rel n hk h (.inl rfl)
    | some a=>
      obtain ⟨i,o,s⟩:=a
      cases s with
      | none=>exact shift1_rel n hk h (.inr (.inl ⟨i,o,rfl⟩))
      | some s=>simp [newOk,flat,flat1] at hu
  | agg cs=>exact flat_ hu h
  | slice a l c=>cases a with
    | none=>exact flat_ hu h
    | some a=>obtain ⟨i,o,s⟩:=a; exact shift1_rel n hk h (.inr (.inr ⟨i,o,s,l,c,rfl⟩))
  | _=>exact flat_ hu h
theorem RH.beside {m n : List Nat} {H X : List Blk} {w w' : World} (hH : RH m H w) (hX : RH n X w') (hfl : X.all (fun b=>b.1.toList.all calm) = true) (hn : ∀ j ∈ n,w.heap.size ≤ j) (hk : Kept [] w w') : RH (m ++ n) (H ++ X) w':=by
  refine ⟨by simp [hH.len,hX.len],?_,fun i j b hj hb=>?_⟩
  · rw [List.nodup_append]
    refine ⟨hH.nodup,hX.nodup,fun a ha b hb=>?_⟩
    have h1:=hH.lt_of_mem ha
    have h2:=hn b hb
    omega
  · by_cases hi : i < m.length
    · rw [List.getElem?_append_left hi] at hj
      rw [List.getElem?_append_left (by rw [← hH.len]; exact hi)] at hb
      obtain ⟨cs,hc,hr⟩:=hH.blk i j b hj hb
      exact ⟨cs,by rw [hk.block j (hH.lt hj) (by simp)]; exact hc,hr.mono n⟩
    · rw [List.getElem?_append_right (by omega)] at hj
      rw [List.getElem?_append_right (by rw [← hH.len]; omega),← hH.len] at hb
      obtain ⟨cs,hc,hr⟩:=hX.blk _ j b hj hb
      refine ⟨cs,hc,hr.size,fun i v v' h1 h2=>?_⟩
      have hf:=List.all_eq_true.1 hfl b (List.mem_of_getElem? hb)
      have hv:=List.all_eq_true.1 hf v (by rw [Array.mem_toList_iff]; exact Array.mem_of_getElem? h1)
      simp only [calm,Bool.or_eq_true] at hv
      have h3:=hr.at_ i v v' h1 h2
      rcases hv with (hv | hv) | hv
      · have : flat v = true:=by cases v <;> first | exact hv | (simp [flat1] at hv)
        rw [h3.eq_of_flat this]
        exact .pl v hv
      rotate_left
      · rw [h3.eq_of_flat (bare_flat hv)]
        exact VR.refl_of_flat _ (bare_flat hv)
      · cases h3 with
        | pl _ h=>exact .pl _ h
        | raw v'=>exact .raw v'
        | _=>simp [isRaw] at hv
theorem call_new {m : List Nat} {H : List Blk} {w : World} {g : FuncId} {args args' : Array Value} {S : Value → List Blk → Prop} (hH : RH m H w)
    (hF : FunR P g [] args S) (hS : ∀ u X,S u X → newOk u = true ∧ X.all (fun b=>b.1.toList.all calm) = true) (ho : args.toList.all flat = true) (ha : RA m args args') :
    Calls P g args' w fun e w'=>∃ u X v' n,e = .returned v' ∧ VR (m ++ n) (shiftV H.length u) v' ∧ RH (m ++ n) (H ++ X) w' ∧ (∀ j ∈ n,w.heap.size ≤ j) ∧ Kept m w w' ∧ S u X:=by
  have ha0 : RA [] args args':=⟨ha.size,fun i v v' h1 h2=>by
    have hf:=List.all_eq_true.1 ho v (by rw [Array.mem_toList_iff]; exact Array.mem_of_getElem? h1)
    rw [(ha.at_ i v v' h1 h2).eq_of_flat hf]
    exact VR.refl_of_flat _ hf⟩
  refine (hF.2 [] args' w ha0 (RH.nil w)).mono ?_
  rintro e w' ⟨u,v',n,X,rfl,hv,hH',hn,hk,hs⟩
  rw [List.nil_append] at hv hH'
  exact ⟨u,X,v',n,rfl,shift_rel hH.len (hS u X hs).1 hv,hH.beside hH' (hS u X hs).2 hn hk,hn,⟨hk.os,hk.tape,hk.output,hk.size,fun k h1 _=>hk.block k h1 (by simp)⟩,hs⟩
theorem ren1_flat {ρ : Nat → Nat} {v : Value} (h : (flat1 v || isRaw v) = true) : ren1 ρ v = v:=by
  cases v with
  | pointer a=>cases a with
    | none=>rfl
    | some a=>simp [flat1,isRaw] at h
  | slice a l c=>cases a with
    | none=>rfl
    | some a=>simp [flat1,isRaw] at h
  | _=>rfl
theorem VR.kept1 {m M : List Nat} {v v' : Value} (h : (flat1 v || isRaw v) = true) (hv : VR m v v') : VR M v v':=by
  cases hv with
  | pl _ hf=>exact .pl _ hf
  | raw v'=>exact .raw v'
  | _=>simp [flat1,isRaw] at h
theorem VR.calm {m M : List Nat} {v v' : Value} (h : Abs.calm v = true) (hv : VR m v v') : VR M v v':=by
  unfold Abs.calm at h
  cases hb : bare v with
  | false=>rw [hb,Bool.or_false] at h; exact hv.kept1 h
  | true=>
    rw [hv.eq_of_flat (bare_flat hb)]
    exact VR.refl_of_flat _ (bare_flat hb)
theorem RA.calm {m M : List Nat} {b : Blk} {cs : Array Value} (h : calmB b = true) (hv : RA m b.1 cs) : RA M b.1 cs:=
  ⟨hv.size,fun i v v' h1 h2=>(hv.at_ i v v' h1 h2).calm (List.all_eq_true.1 h v (by rw [Array.mem_toList_iff]; exact Array.mem_of_getElem? h1))⟩
theorem ren_rel {m M : List Nat} {ρ : Nat → Nat} {n : Nat} (hm : ∀ i j,i < n → m[i]? = some j → M[ρ i]? = some j) {v v' : Value} (ho : okc n v = true) (hv : VR m v v') : VR M (ren1 ρ v) v':=by
  have plain : (flat1 v || isRaw v) = true → VR M (ren1 ρ v) v':=fun h=>by rw [ren1_flat h]; exact hv.kept1 h
  cases v with
  | pointer a=>
    cases a with
    | none=>exact plain rfl
    | some a=>
      obtain ⟨i,o,s⟩:=a
      cases hv with
      | pl _ h'=>simp [flat1] at h'
      | ptr _ j _ _ hj=>exact .ptr _ _ _ _ (hm i j (by simpa [okc] using ho) hj)
  | slice a l c=>
    cases a with
    | none=>exact plain rfl
    | some a=>
      obtain ⟨i,o,s⟩:=a
      cases hv with
      | pl _ h'=>simp [flat1] at h'
      | slice _ j _ _ _ _ hj=>exact .slice _ _ _ _ _ _ (hm i j (by simpa [okc] using ho) hj)
  | _=>exact plain ho
theorem unren_rel {m M : List Nat} {ρ : Nat → Nat} {n : Nat} (hm : ∀ i j,i < n → m[ρ i]? = some j → M[i]? = some j) {v v' : Value} (ho : okc n v = true) (hv : VR m (ren1 ρ v) v') : VR M v v':=by
  have plain : (flat1 v || isRaw v) = true → VR M v v':=fun h=>by rw [ren1_flat h] at hv; exact hv.kept1 h
  cases v with
  | pointer a=>
    cases a with
    | none=>exact plain rfl
    | some a=>
      obtain ⟨i,o,s⟩:=a
      change VR m (.pointer (some ⟨ρ i,o,s⟩)) v' at hv
      cases hv with
      | pl _ h'=>simp [flat1] at h'
      | ptr _ j _ _ hj=>exact .ptr _ _ _ _ (hm i j (by simpa [okc] using ho) hj)
  | slice a l c=>
    cases a with
    | none=>exact plain rfl
    | some a=>
      obtain ⟨i,o,s⟩:=a
      change VR m (.slice (some ⟨ρ i,o,s⟩) l c) v' at hv
      cases hv with
      | pl _ h'=>simp [flat1] at h'
      | slice _ j _ _ _ _ hj=>exact .slice _ _ _ _ _ _ (hm i j (by simpa [okc] using ho) hj)
  | _=>exact plain ho
theorem renA_rel {m M : List Nat} {ρ : Nat → Nat} {n : Nat} (hm : ∀ i j,i < n → m[i]? = some j → M[ρ i]? = some j) {v v' : Value} (ho : okA n v = true) (hv : VR m v v') : VR M (renA ρ v) v':=by
  cases v with
  | agg cs=>
    rw [VR.eq_of_flat (v:=.agg cs) ho hv]
    exact VR.refl_of_flat (v:=.agg cs) _ ho
  | _=>exact ren_rel (n:=n) hm (by exact ho) hv
theorem unrenA_rel {m M : List Nat} {ρ : Nat → Nat} {n : Nat} (hm : ∀ i j,i < n → m[ρ i]? = some j → M[i]? = some j) {v v' : Value} (ho : okA n v = true) (hv : VR m (renA ρ v) v') : VR M v v':=by
  cases v with
  | agg cs=>
    have hv' : VR m (.agg cs) v':=hv
    rw [VR.eq_of_flat (v:=.agg cs) ho hv']
    exact VR.refl_of_flat (v:=.agg cs) _ ho
  | _=>exact unren_rel (n:=n) hm (by exact ho) hv
theorem renU_rel {m M : List Nat} {ρ : Nat → Nat} {n : Nat} (hm : ∀ i j,i < n → m[i]? = some j → M[ρ i]? = some j) {v v' : Value} (ho : okU n v = true) (hv : VR m v v') : VR M (renU ρ v) v':=by
  cases v with
  | tuple vs=>
    cases hv with
    | pl _ h'=>simp [flat1] at h'
    | tuple _ vs' hs h1=>
      refine .tuple _ vs' (by simpa using hs) fun i u u' k1 k2=>?_
      simp only [List.getElem?_toArray,List.getElem?_map,Array.getElem?_toList,Option.map_eq_some_iff] at k1
      obtain ⟨q,hq,rfl⟩:=k1
      exact renA_rel hm (List.all_eq_true.1 ho q (by rw [Array.mem_toList_iff]; exact Array.mem_of_getElem? hq)) (h1 i q u' hq k2)
  | _=>exact renA_rel (n:=n) hm (by exact ho) hv
theorem renB_rel {m M : List Nat} {ρ : Nat → Nat} {n : Nat} (hm : ∀ i j,i < n → m[i]? = some j → M[ρ i]? = some j) {b : Blk} {cs : Array Value} (ho : okB n b = true) (h : RA m b.1 cs) : RA M (renB ρ b).1 cs:=by
  refine ⟨by simpa [renB] using h.size,fun i u u' k1 k2=>?_⟩
  simp only [renB,List.getElem?_toArray,List.getElem?_map,Array.getElem?_toList,Option.map_eq_some_iff] at k1
  obtain ⟨q,hq,rfl⟩:=k1
  exact ren_rel hm (List.all_eq_true.1 ho q (by rw [Array.mem_toList_iff]; exact Array.mem_of_getElem? hq)) (h.at_ i q u' hq k2)
theorem unrenB_rel {m M : List Nat} {ρ : Nat → Nat} {n : Nat} (hm : ∀ i j,i < n → m[ρ i]? = some j → M[i]? = some j) {b : Blk} {cs : Array Value} (ho : okB n b = true) (h : RA m (renB ρ b).1 cs) : RA M b.1 cs:=by
  refine ⟨by simpa [renB] using h.size,fun i u u' k1 k2=>?_⟩
  refine unren_rel hm (List.all_eq_true.1 ho u (by rw [Array.mem_toList_iff]; exact Array.mem_of_getElem? k1)) (h.at_ i (ren1 ρ u) u' ?_ k2)
  simp only [renB,List.getElem?_toArray,List.getElem?_map,Array.getElem?_toList,k1]
  rfl
theorem patch_len (H : List Blk) : ∀ (sel : List Nat) (X : List Blk),(patch H sel X).length = H.length
  | [],_=>rfl
  | _ :: _,[]=>rfl
  | _ :: sel,_ :: X=>by simp [patch,patch_len H sel X]
theorem patch_out (H : List Blk) : ∀ (sel : List Nat) (X : List Blk) (i : Nat),i ∉ sel → (patch H sel X)[i]? = H[i]?
  | [],_,_,_=>rfl
  | _ :: _,[],_,_=>rfl
  | a :: sel,b :: X,i,h=>by
    have ha : a ≠ i:=fun e=>h (by simp [e])
    simp only [patch,List.getElem?_set_ne ha]
    exact patch_out H sel X i fun hi=>h (by simp [hi])
theorem patch_in (H : List Blk) : ∀ (sel : List Nat) (X : List Blk) (k i : Nat),sel.Nodup → sel[k]? = some i → i < H.length → sel.length ≤ X.length → (patch H sel X)[i]? = X[k]?
  | [],_,_,_,_,h,_,_=>by simp at h
  | _ :: _,[],_,_,_,_,_,hl=>by simp at hl
  | a :: sel,b :: X,k,i,hn,hk,hi,hl=>by
    have hn':=List.nodup_cons.1 hn
    cases k with
    | zero=>
      simp at hk
      subst hk
      simp only [patch]
      rw [List.getElem?_set_self (by rw [patch_len]; exact hi)]
      rfl
    | succ k=>
      simp at hk
      have ha : a ≠ i:=fun e=>hn'.1 (by rw [e]; exact List.mem_of_getElem? hk)
      simp only [patch,List.getElem?_set_ne ha]
      rw [patch_in H sel X k i hn'.2 hk hi (by simpa using hl)]
      rfl
theorem call_chg {m : List Nat} {H Z X0 : List Blk} {w : World} {g : FuncId} {zs xs : List Nat} {args args' : Array Value} {S : Value → List Blk → Prop} (hH : RH m H w)
    (hF : FunR P g (Z ++ X0) args fun u G=>∃ X,G = Z ++ X ∧ S u X) (hz : zs.mapM (fun i=>H[i]?) = some Z) (hzc : Z.all calmB = true) (hx : xs.mapM (fun i=>H[i]?) = some (X0.map (renB (selF (zs ++ xs)))))
    (hc : X0.all (okB (zs ++ xs).length) = true) (hn : (zs ++ xs).Nodup) (ho : args.toList.all (okA (zs ++ xs).length) = true)
    (hS : ∀ u X,S u X → xs.length ≤ X.length ∧ X.all (okB (zs.length + X.length)) = true ∧ okU (zs.length + X.length) u = true) (ha : RA m (args.toList.map (renA (selF (zs ++ xs)))).toArray args') :
    Calls P g args' w fun e w'=>∃ u X v' n,e = .returned v' ∧ VR (m ++ n) (renU (backF (zs ++ xs) H.length) u) v' ∧ RH (m ++ n) (merge H zs xs X) w' ∧ (∀ j ∈ n,w.heap.size ≤ j) ∧ Kept m w w' ∧ S u X:=by
  have hlz : Z.length = zs.length:=mapM_len hz
  have hlx : X0.length = xs.length:=by have:=mapM_len hx; simpa using this
  have hsz : ∀ k i,zs[k]? = some i → i < H.length:=fun k i hk=>by
    have h1:=mapM_at hz k i hk
    have hk' : k < Z.length:=by rw [hlz]; exact (List.getElem?_eq_some_iff.1 hk).1
    rw [List.getElem?_eq_getElem hk'] at h1
    exact (List.getElem?_eq_some_iff.1 h1.symm).1
  have hsx : ∀ k i,xs[k]? = some i → i < H.length:=fun k i hk=>by
    have h1:=mapM_at hx k i hk
    have hk' : k < X0.length:=by rw [hlx]; exact (List.getElem?_eq_some_iff.1 hk).1
    rw [List.getElem?_map,List.getElem?_eq_getElem hk'] at h1
    exact (List.getElem?_eq_some_iff.1 h1.symm).1
  generalize hsel : zs ++ xs = sel at *
  have hll : sel.length = zs.length + xs.length:=by rw [← hsel,List.length_append]
  have hleft : ∀ k,k < zs.length → sel[k]? = zs[k]?:=fun k hk=>by rw [← hsel,List.getElem?_append_left hk]
  have hright : ∀ k,zs.length ≤ k → sel[k]? = xs[k - zs.length]?:=fun k hk=>by rw [← hsel,List.getElem?_append_right hk]
  have hsl : ∀ k i,sel[k]? = some i → i < H.length:=fun k i hk=>by
    by_cases h : k < zs.length
    · rw [hleft k h] at hk; exact hsz k i hk
    · rw [hright k (by omega)] at hk; exact hsx _ i hk
  let m0:=sel.map fun i=>m.getD i 0
  have hm0 : ∀ k i,sel[k]? = some i → m0[k]? = m[i]?:=fun k i hk=>by
    have hi : i < m.length:=by rw [hH.len]; exact hsl k i hk
    show (sel.map fun i=>m.getD i 0)[k]? = m[i]?
    rw [List.getElem?_map,hk,Option.map_some]
    simp [List.getD,List.getElem?_eq_getElem hi]
  have hm0l : m0.length = sel.length:=by simp [m0]
  have hback : ∀ i j,i < sel.length → m[selF sel i]? = some j → m0[i]? = some j:=fun i j hi hj=>by
    rw [hm0 i sel[i] (List.getElem?_eq_getElem hi)]
    simpa [selF,List.getD,List.getElem?_eq_getElem hi] using hj
  have hH0 : RH m0 (Z ++ X0) w:=by
    refine ⟨by rw [hm0l,hll,List.length_append,hlz,hlx],nodup_of_inj fun i j a hi hj=>?_,fun k j b hj hb=>?_⟩
    · have hi' : i < sel.length:=by rw [← hm0l]; exact (List.getElem?_eq_some_iff.1 hi).1
      have hj' : j < sel.length:=by rw [← hm0l]; exact (List.getElem?_eq_some_iff.1 hj).1
      rw [hm0 i _ (List.getElem?_eq_getElem hi')] at hi
      rw [hm0 j _ (List.getElem?_eq_getElem hj')] at hj
      have hij:=nodup_inj hH.nodup hi hj
      exact nodup_inj hn (List.getElem?_eq_getElem hi') (by rw [List.getElem?_eq_getElem hj',hij])
    · have hk : k < sel.length:=by rw [← hm0l]; exact (List.getElem?_eq_some_iff.1 hj).1
      rw [hm0 k _ (List.getElem?_eq_getElem hk)] at hj
      by_cases h : k < zs.length
      · have e1 : zs[k]? = some sel[k]:=by rw [← hleft k h]; exact List.getElem?_eq_getElem hk
        have h1:=mapM_at hz k sel[k] e1
        rw [List.getElem?_append_left (by rw [hlz]; exact h)] at hb
        rw [hb] at h1
        obtain ⟨cs,c1,c2⟩:=hH.blk _ j _ hj h1.symm
        exact ⟨cs,c1,c2.calm (List.all_eq_true.1 hzc b (List.mem_of_getElem? hb))⟩
      · have e1 : xs[k - zs.length]? = some sel[k]:=by rw [← hright k (by omega)]; exact List.getElem?_eq_getElem hk
        have h1:=mapM_at hx _ sel[k] e1
        rw [List.getElem?_append_right (by rw [hlz]; omega),hlz] at hb
        rw [List.getElem?_map,hb] at h1
        obtain ⟨cs,c1,c2⟩:=hH.blk _ j _ hj h1.symm
        exact ⟨cs,c1,unrenB_rel hback (List.all_eq_true.1 hc b (List.mem_of_getElem? hb)) c2⟩
  have ha0 : RA m0 args args':=by
    refine ⟨by have:=ha.size; simpa using this,fun i v v' h1 h2=>?_⟩
    refine unrenA_rel hback (List.all_eq_true.1 ho v (by rw [Array.mem_toList_iff]; exact Array.mem_of_getElem? h1)) (ha.at_ i (renA (selF sel) v) v' ?_ h2)
    rw [List.getElem?_toArray,List.getElem?_map,Array.getElem?_toList,h1]; rfl
  have hmem : ∀ j ∈ m0,j ∈ m:=fun j hj=>by
    obtain ⟨k,hk,rfl⟩:=List.mem_iff_getElem.1 hj
    have hk' : k < sel.length:=by rw [← hm0l]; exact hk
    have:=hm0 k _ (List.getElem?_eq_getElem hk')
    rw [List.getElem?_eq_getElem hk] at this
    exact List.mem_of_getElem? this.symm
  refine (hF.2 m0 args' w ha0 hH0).mono ?_
  rintro e w' ⟨u,v',n,G,rfl,hv,hH',hnew,hk,X,rfl,hsu⟩
  obtain ⟨hXl,hXo,hUo⟩:=hS u X hsu
  have hnl : n.length = X.length - xs.length:=by
    have:=hH'.len
    simp only [List.length_append,hm0l,hll,hlz] at this
    omega
  have hfwd : ∀ i j,i < zs.length + X.length → (m0 ++ n)[i]? = some j → (m ++ n)[backF sel H.length i]? = some j:=fun i j hi hj=>by
    unfold backF
    by_cases h : i < sel.length
    · rw [if_pos h]
      rw [List.getElem?_append_left (by rw [hm0l]; exact h),hm0 i _ (List.getElem?_eq_getElem h)] at hj
      have hlt:=(List.getElem?_eq_some_iff.1 hj).1
      have e1 : sel.getD i 0 = sel[i]:=by simp [List.getD,List.getElem?_eq_getElem h]
      rw [e1,List.getElem?_append_left hlt]
      exact hj
    · rw [if_neg h]
      rw [List.getElem?_append_right (by rw [hm0l]; omega),hm0l] at hj
      rw [List.getElem?_append_right (by rw [hH.len]; omega),hH.len,Nat.add_sub_cancel_left]
      exact hj
  have hxn : xs.Nodup:=by rw [← hsel,List.nodup_append] at hn; exact hn.2.1
  unfold merge
  rw [hsel]
  refine ⟨u,X,v',n,rfl,renU_rel hfwd hUo hv,⟨?_,?_,fun q j b hj hb=>?_⟩,hnew,⟨hk.os,hk.tape,hk.output,hk.size,fun k h1 h2=>hk.block k h1 fun h3=>h2 (hmem k h3)⟩,hsu⟩
  · simp only [List.length_append,patch_len,List.length_map,List.length_drop,hH.len]
    omega
  · rw [List.nodup_append]
    have hnd:=hH'.nodup
    rw [List.nodup_append] at hnd
    refine ⟨hH.nodup,hnd.2.1,fun a ha b hb=>?_⟩
    have h1:=hH.lt_of_mem ha
    have h2:=hnew b hb
    omega
  · by_cases hq : q < H.length
    · rw [List.getElem?_append_left (by rw [patch_len]; exact hq)] at hb
      rw [List.getElem?_append_left (by rw [hH.len]; exact hq)] at hj
      by_cases hqx : q ∈ xs
      · obtain ⟨k,hk1,hk2⟩:=List.mem_iff_getElem.1 hqx
        have hkq : xs[k]? = some q:=by rw [List.getElem?_eq_getElem hk1,hk2]
        rw [patch_in H xs _ k q hxn hkq hq (by simpa using hXl),List.getElem?_map,Option.map_eq_some_iff] at hb
        obtain ⟨b0,hb0,rfl⟩:=hb
        have hks : sel[zs.length + k]? = some q:=by rw [hright _ (by omega),Nat.add_sub_cancel_left]; exact hkq
        have hj0 : (m0 ++ n)[zs.length + k]? = some j:=by
          rw [List.getElem?_append_left (by rw [hm0l,hll]; omega),hm0 _ q hks]
          exact hj
        obtain ⟨cs,c1,c2⟩:=hH'.blk _ j b0 hj0 (by rw [List.getElem?_append_right (by rw [hlz]; omega),hlz,Nat.add_sub_cancel_left]; exact hb0)
        exact ⟨cs,c1,renB_rel hfwd (List.all_eq_true.1 hXo b0 (List.mem_of_getElem? hb0)) c2⟩
      · rw [patch_out H xs _ q hqx] at hb
        by_cases hqz : q ∈ zs
        · obtain ⟨k,hk1,hk2⟩:=List.mem_iff_getElem.1 hqz
          have hkq : zs[k]? = some q:=by rw [List.getElem?_eq_getElem hk1,hk2]
          have hks : sel[k]? = some q:=by rw [hleft _ hk1]; exact hkq
          have hj0 : (m0 ++ n)[k]? = some j:=by
            rw [List.getElem?_append_left (by rw [hm0l,hll]; omega),hm0 _ q hks]
            exact hj
          have h1:=mapM_at hz k q hkq
          rw [hb] at h1
          obtain ⟨cs,c1,c2⟩:=hH'.blk _ j b hj0 (by rw [List.getElem?_append_left (by rw [hlz]; exact hk1)]; exact h1)
          exact ⟨cs,c1,c2.calm (List.all_eq_true.1 hzc b (List.mem_of_getElem? h1))⟩
        · obtain ⟨cs,c1,c2⟩:=hH.blk q j b hj hb
          refine ⟨cs,?_,c2.mono n⟩
          rw [hk.block j (hH.lt hj) fun hj0=>?_]
          · exact c1
          · obtain ⟨k,hk1,hk2⟩:=List.mem_iff_getElem.1 hj0
            have hk' : k < sel.length:=by rw [← hm0l]; exact hk1
            have h3:=hm0 k _ (List.getElem?_eq_getElem hk')
            rw [List.getElem?_eq_getElem hk1,hk2] at h3
            have h4 : q = sel[k]:=nodup_inj hH.nodup hj h3.symm
            have h5 : q ∈ zs ++ xs:=by rw [hsel,h4]; exact List.getElem_mem hk'
            rcases List.mem_append.1 h5 with h5 | h5
            · exact hqz h5
            · exact hqx h5
    · rw [List.getElem?_append_right (by rw [patch_len]; omega),patch_len,List.getElem?_map,List.getElem?_drop,Option.map_eq_some_iff] at hb
      rw [List.getElem?_append_right (by rw [hH.len]; omega),hH.len] at hj
      obtain ⟨b0,hb0,rfl⟩:=hb
      have hj0 : (m0 ++ n)[zs.length + (xs.length + (q - H.length))]? = some j:=by
        rw [List.getElem?_append_right (by rw [hm0l,hll]; omega),hm0l,hll,← Nat.add_assoc,Nat.add_sub_cancel_left]
        exact hj
      obtain ⟨cs,c1,c2⟩:=hH'.blk _ j b0 hj0 (by rw [List.getElem?_append_right (by rw [hlz]; omega),hlz,Nat.add_sub_cancel_left]; exact hb0)
      exact ⟨cs,c1,renB_rel hfwd (List.all_eq_true.1 hXo b0 (List.mem_of_getElem? hb0)) c2⟩
theorem ren1_fl (ρ : Nat → Nat) {v : Value} (h : flat1 v = true) : ren1 ρ v = v:=by
  cases v with
  | pointer a=>cases a with
    | none=>rfl
    | some a=>cases h
  | slice a l c=>cases a with
    | none=>rfl
    | some a=>cases h
  | _=>rfl
theorem renA_fl (ρ : Nat → Nat) {v : Value} (h : (match v with | .agg cs=>cs.toList.all flat1 | v=>flat1 v) = true) : renA ρ v = v:=by
  cases v with
  | agg cs=>rfl
  | _=>exact ren1_fl ρ h
theorem renU_fl (ρ : Nat → Nat) {v : Value} (h : flat v = true) : renU ρ v = v:=by
  cases v with
  | tuple vs=>
    have h' : vs.toList.all (fun v=>match v with | .agg cs=>cs.toList.all flat1 | v=>flat1 v) = true:=h
    show Value.tuple (vs.toList.map (renA ρ)).toArray = .tuple vs
    rw [show vs.toList.map (renA ρ) = vs.toList.map id from List.map_congr_left fun v hv=>renA_fl ρ (List.all_eq_true.1 h' v hv)]
    simp
  | agg cs=>rfl
  | func a b c=>rfl
  | pointer a=>exact ren1_fl ρ h
  | slice a l c=>exact ren1_fl ρ h
  | _=>rfl
theorem call_calm {m : List Nat} {H Z : List Blk} {w : World} {g : FuncId} {zs : List Nat} {args args' : Array Value} {u : Value} (hH : RH m H w)
    (hF : Fun P g Z args u Z) (hu : flat u = true) (hU : ∀ n,okU n u = true) (hz : zs.mapM (fun i=>H[i]?) = some Z) (hzc : Z.all calmB = true) (hn : zs.Nodup) (ho : args.toList.all (okA zs.length) = true)
    (ha : RA m (args.toList.map (renA (selF zs))).toArray args') : Calls P g args' w fun e w'=>e = .returned u ∧ Below w.heap.size w w':=by
  have hF' : FunR P g (Z ++ []) args fun v G=>∃ X,G = Z ++ X ∧ (v = u ∧ X = []):=by
    refine ⟨hF.1,?_⟩
    rw [List.append_nil]
    intro m args' w ha hH
    exact (hF.2 m args' w ha hH).mono fun _ _ ⟨v',n,h1,h2,h3,h4,h5⟩=>⟨_,v',n,Z,h1,h2,h3,h4,h5,[],by rw [List.append_nil],rfl,rfl⟩
  refine (call_chg (zs:=zs) (xs:=[]) (X0:=[]) hH hF' hz hzc rfl rfl (by rw [List.append_nil]; exact hn) (by rw [List.append_nil]; exact ho) (fun v X hs=>by
    obtain ⟨rfl,rfl⟩:=hs
    exact ⟨Nat.le_refl _,rfl,hU _⟩) (by rw [List.append_nil]; exact ha)).mono ?_
  rintro e w' ⟨v,X,v',n,rfl,hv,hH',_,hk,rfl,rfl⟩
  have hm : merge H zs [] [] = H:=by simp [merge,patch]
  rw [hm] at hH'
  have hn0 : n = []:=by
    have h1:=hH'.len
    have h2:=hH.len
    simp at h1
    exact List.length_eq_zero_iff.1 (by omega)
  subst hn0
  rw [List.append_nil] at hv hH'
  rw [renU_fl _ hu] at hv
  exact ⟨by rw [hv.eq_of_flat hu],hH.below_of hH' hk⟩
def QN (P : Program) (f : FuncId) (m0 : List Nat) (w0 : World) (K : Array Value → List Blk → T) (R : Value → List Blk → Prop) : Exit → Act → World → Prop:=
  fun e a w=>e = .normal ∧ ∃ (n : List Nat) (t t' : Array Value) (H : List Blk),a = act t' ∧ RA (m0 ++ n) t t' ∧ RH (m0 ++ n) H w ∧ (∀ j ∈ n,w0.heap.size ≤ j) ∧ Kept m0 w0 w ∧ Run P f R (K t H)
theorem run_ite {c : Bool} {a b : T} {R : Value → List Blk → Prop} (h : Run P f R (.ite c a b)) : Run P f R (if c = true then a else b):=by
  cases h with
  | ite _ _ _ ha hb=>cases c <;> simp_all
theorem run_fail {R : Value → List Blk → Prop} (h : Run P f R .fail) : False:=by cases h
theorem yielded_some {ops : Array Oper} {tmps : Array Value} {j d : Nat} (h : (ops[j]?).bind (·.dst) = some d) : yielded ops tmps j = match tmps[d]? with | some (.bool b)=>some b | _=>none:=by
  unfold yielded
  rw [h]
  rfl
theorem yielded_none {ops : Array Oper} {tmps : Array Value} {j : Nat} (h : (ops[j]?).bind (·.dst) = none) : yielded ops tmps j = none:=by
  unfold yielded
  rw [h]
  rfl
theorem set_self {t : Array Value} {d : Nat} {v : Value} (h : t[d]? = some v) : t.setIfInBounds d v = t:=by
  apply Array.ext_getElem?
  intro i
  by_cases e : d = i
  · subst e
    rw [Array.getElem?_setIfInBounds_self,if_pos (Array.getElem?_eq_some_iff.1 h).1,h]
  · rw [Array.getElem?_setIfInBounds_ne e]
theorem guarded_run {ops : Array Oper} {o : Oper} {m : List Nat} {t t' : Array Value} (ht : RA m t t') {go skip : Array Value → T} {R : Value → List Blk → Prop} (h : Run P f R (guarded ops o t go skip)) :
    (Region.wanted o (yielded ops t') = true ∧ Run P f R (go t)) ∨ (Region.wanted o (yielded ops t') = false ∧ Run P f R (skip t)):=by
  unfold guarded at h
  cases hg : o.guard with
  | none=>simp only [hg] at h; exact .inl ⟨by simp [Region.wanted,hg],h⟩
  | some jw=>
    obtain ⟨j,want⟩:=jw
    simp only [hg] at h
    cases hd : (ops[j]?).bind (·.dst) with
    | none=>
      simp only [hd] at h
      exact .inr ⟨by simp [Region.wanted,hg,yielded_none hd],h⟩
    | some d=>
      simp only [hd] at h
      have hy:=yielded_some (tmps:=t') hd
      cases hv : t[d]? with
      | none=>
        simp only [hv] at h
        have : t'[d]? = none:=by
          rw [Array.getElem?_eq_none_iff] at hv ⊢
          rw [← ht.size]; exact hv
        refine .inr ⟨?_,h⟩
        rw [this] at hy
        simp [Region.wanted,hg,hy]
      | some u=>
        have hlt : d < t'.size:=by rw [← ht.size]; exact (Array.getElem?_eq_some_iff.1 hv).1
        have hr:=ht.at_ d u _ hv (Array.getElem?_eq_getElem hlt)
        have hv':=Array.getElem?_eq_getElem hlt
        have other : (∀ b,u ≠ .bool b) → isRaw u = false → Region.wanted o (yielded ops t') = false:=fun hne hraw=>by
          have : yielded ops t' j = none:=by
            rw [hy,hv']
            generalize t'[d] = u' at hr
            cases hr with
            | pl _ hf=>cases u <;> first | rfl | exact absurd rfl (hne _)
            | raw _=>simp [isRaw] at hraw
            | _=>rfl
          simp [Region.wanted,hg,this]
        cases u with
        | bool b=>
          simp only [hv] at h
          have hb : t'[d] = .bool b:=hr.eq_of_flat rfl
          have hw : Region.wanted o (yielded ops t') = (b == want):=by
            rw [hv',hb] at hy
            simp only [Region.wanted,hg,hy]
            cases b <;> cases want <;> rfl
          rw [hw]
          have h2:=run_ite h
          cases b with
          | true=>
            simp only [if_true,set_self hv] at h2
            cases want
            · exact .inr ⟨rfl,h2⟩
            · exact .inl ⟨rfl,h2⟩
          | false=>
            simp only [Bool.false_eq_true,if_false,set_self hv] at h2
            cases want
            · exact .inl ⟨rfl,h2⟩
            · exact .inr ⟨rfl,h2⟩
        | iface _ _=>simp only [hv] at h; exact (run_fail h).elim
        | _=>simp only [hv] at h; exact .inr ⟨other (by intro b; simp) rfl,h⟩
theorem opsN_run (hE : EqsOk P E) {ops : Array Oper} {K : Array Value → List Blk → T} {R : Value → List Blk → Prop} {m0 : List Nat} {w0 : World} :
    ∀ (l : List Oper) (n : List Nat) (t t' : Array Value) (H : List Blk) (w : World),RA (m0 ++ n) t t' → RH (m0 ++ n) H w → (∀ j ∈ n,w0.heap.size ≤ j) → Kept m0 w0 w →
      Run P f R (opsN P E ops K l t H) → wpList P ops (QN P f m0 w0 K R) l (act t') w
  | [],n,t,t',H,w,ht,hH,hn,hk,h=>⟨rfl,n,t,t',H,rfl,ht,hH,hn,hk,h⟩
  | o :: l,n,t,t',H,w,ht,hH,hn,hk,h=>by
    have next : ∀ (n' : List Nat) (t2 t2' : Array Value) (H2 : List Blk) (w2 : World),RA (m0 ++ n ++ n') t2 t2' → RH (m0 ++ n ++ n') H2 w2 → (∀ j ∈ n',w.heap.size ≤ j) → Kept (m0 ++ n) w w2 → Run P f R (opsN P E ops K l t2 H2) →
        wpList P ops (QN P f m0 w0 K R) l (act t2') w2:=fun n' t2 t2' H2 w2 a1 a2 a3 a4 a5=>by
      refine opsN_run hE l (n ++ n') t2 t2' H2 w2 (by rw [← List.append_assoc]; exact a1) (by rw [← List.append_assoc]; exact a2) (fun j hj=>?_) (hk.trans a4 hn) a5
      rcases List.mem_append.1 hj with hj | hj
      · exact hn j hj
      · exact Nat.le_trans hk.size (a3 j hj)
    have same : ∀ (t2 t2' : Array Value) ,RA (m0 ++ n) t2 t2' → Run P f R (opsN P E ops K l t2 H) → wpList P ops (QN P f m0 w0 K R) l (act t2') w:=fun t2 t2' a1 a5=>
      next [] t2 t2' H w (by simpa using a1) (by simpa using hH) (by simp) (Kept.refl _ _) a5
    simp only [wpList]
    simp only [opsN] at h
    rcases guarded_run ht h with ⟨hw,h⟩ | ⟨hw,h⟩
    · have hw' : Region.wanted o (yielded ops (act t').tmps) = true:=hw
      rw [if_pos hw']
      left
      unfold Oper.wp
      unfold stepN at h
      split at h
      · rename_i u hu
        obtain ⟨u',hr,hv⟩:=opA_val (w:=w) ht (fun _=>hH) hE hu
        rw [hr,Oper.upon_value,act_put]
        exact same _ _ (ht.put hv _) h
      · rename_i u H2 hu
        obtain ⟨w',u',n',hr,hv,hH',hn',hk'⟩:=opA_mem ht hH hu
        have h2:=next n' (putA t o.dst u) (putA t' o.dst u') H2 w' ((ht.mono n').put hv _) hH' hn' hk' h
        rcases hr with hr | ⟨hr,rfl⟩
        · rw [hr,Oper.upon_value,act_put]; exact h2
        · rw [hr,Oper.upon_skip,act_put]; exact h2
      · rename_i c x y hu
        obtain ⟨u',hr,hv⟩:=opA_pick (E:=E) ht hu w
        rw [hr,Oper.upon_value,act_put]
        have h2:=run_ite h
        cases c
        · exact same _ _ (ht.put hv _) h2
        · exact same _ _ (ht.put hv _) h2
      · rename_i c u hu
        have h2:=run_ite h
        cases c
        · exact (run_fail h2).elim
        · obtain ⟨u',hr,hv⟩:=opA_chk hE ht hu rfl w
          rw [hr,Oper.upon_value,act_put]
          exact same _ _ (ht.put hv _) h2
      · rename_i x hu
        cases h with
        | opt _ _ u hx hk2=>
          obtain ⟨u',hr,hv⟩:=opA_opt ht hH hu hx
          rw [hr,Oper.upon_value,act_put]
          exact same _ _ (ht.put hv _) hk2
      · rename_i g args hu
        cases h with
        | call _ sel H0 args0 _ _ u hF hfl hs hcc hsn hok hk2=>
          obtain ⟨args',hr,ha⟩:=opA_enter (E:=E) ht hu hF.1 w
          rw [hr,Oper.upon_enter]
          refine (call_reads hH hF hfl hs hcc hsn hok ha).mono ?_
          rintro e w' ⟨rfl,hb⟩
          show wpList P ops _ _ ((act t').put o.dst u) w'
          rw [act_put]
          exact next [] _ _ H w' (by simpa using ht.put (VR.refl_of_flat _ hfl) o.dst) (by simpa using hH.below hb) (by simp) (Kept.of_below hb) hk2
        | new _ _ _ _ S hF hS hok hk2=>
          obtain ⟨args',hr,ha⟩:=opA_enter (E:=E) ht hu hF.1 w
          rw [hr,Oper.upon_enter]
          refine (call_new hH hF hS hok ha).mono ?_
          rintro e w' ⟨u,X,v',n',rfl,hv,hH',hn',hk',hs⟩
          show wpList P ops _ _ ((act t').put o.dst v') w'
          rw [act_put]
          exact next n' _ _ _ w' ((ht.mono n').put hv _) hH' hn' hk' (hk2 u X hs)
        | chg _ zs xs Z X0 args0 _ _ S hF hz hzc hx hcc hsn hok hS hk2=>
          obtain ⟨args',hr,ha⟩:=opA_enter (E:=E) ht hu hF.1 w
          rw [hr,Oper.upon_enter]
          refine (call_chg hH hF hz hzc hx hcc hsn hok hS ha).mono ?_
          rintro e w' ⟨u,X,v',n',rfl,hv,hH',hn',hk',hs'⟩
          show wpList P ops _ _ ((act t').put o.dst v') w'
          rw [act_put]
          exact next n' _ _ _ w' ((ht.mono n').put hv _) hH' hn' hk' (hk2 u X hs')
      · exact (run_fail h).elim
    · have hw' : ¬ Region.wanted o (yielded ops (act t').tmps) = true:=by
        show ¬ Region.wanted o (yielded ops t') = true
        simp [hw]
      rw [if_neg hw',act_put]
      exact same _ _ (ht.put (VR.undef _) _) h
end
end Go.Proofs.YtfhnlkinjbakgaaGreat.Abs
