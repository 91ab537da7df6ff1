/- The abstract machine, second part: what each operation does to values and given blocks, and that the model's operation does the same. -/
import Derived.Test.YtfhnlkinjbakgaaGreatMsAbs1
namespace Go.Proofs.YtfhnlkinjbakgaaGreat.Abs
open Go Go.RowKit
variable {P : Program}
theorem RA.slot {m : List Nat} {t t' : Array Value} (h : RA m t t') {d : Nat} {v : Value} (hd : t[d]? = some v) : ∃ v',t'[d]? = some v' ∧ VR m v v':=by
  have hlt : d < t'.size:=by rw [← h.size]; exact (Array.getElem?_eq_some_iff.1 hd).1
  exact ⟨t'[d],Array.getElem?_eq_getElem hlt,h.at_ d v _ hd (Array.getElem?_eq_getElem hlt)⟩
def tsize (P : Program) (T : TypeId) : Option Nat:=(P.info? T).map (·.size)
def tagg (P : Program) (T : TypeId) : Option Bool:=(P.underlying T).map fun d=>match d with | .struct _ | .array _ _=>true | _=>false
def tzero (P : Program) (T : TypeId) : Option Value:=(P.info? T).bind (·.zero)
def foff (P : Program) (S : TypeId) (f : Nat) : Option Nat:=
  match P.underlying S with
  | some (.struct fs)=>match fs[f]? with
    | some fd=>match tsize P fd.type with
      | some (_ + 1)=>some fd.offset
      | _=>none
    | none=>none
  | _=>none
theorem run_sizeOf {T : TypeId} {n : Nat} (h : tsize P T = some n) (w : World) : (sizeOf T).run P w = .ok n w:=by
  unfold tsize at h
  cases hi : P.info? T with
  | none=>simp [hi] at h
  | some i=>simp [hi] at h; simp [sizeOf,typeInfo,hi,h]
theorem run_isAgg {T : TypeId} {b : Bool} (h : tagg P T = some b) (w : World) : (isAgg T).run P w = .ok b w:=by
  unfold tagg at h
  cases hu : P.underlying T with
  | none=>simp [hu] at h
  | some d=>
    simp only [hu,Option.map_some,Option.some.injEq] at h
    unfold isAgg
    rw [Sem.run_bind,run_underlying hu w]
    subst h
    cases d <;> simp
theorem run_zeroValue {T : TypeId} {z : Value} (h : tzero P T = some z) (w : World) : (zeroValue T).run P w = .ok z w:=by
  unfold tzero at h
  cases hi : P.info? T with
  | none=>simp [hi] at h
  | some i=>simp [hi] at h; simp [zeroValue,typeInfo,hi,h]
theorem add_off (j o n : Nat) : (⟨j,o,none⟩ : Addr).add n = ⟨j,o + n,none⟩:=by unfold Addr.add; split <;> simp_all
theorem run_fieldAt {S : TypeId} {f n : Nat} (h : foff P S f = some n) (j o : Nat) (w : World) :
    (Instr.fieldAt S (.pointer (some ⟨j,o,none⟩)) f).run P w = .ok (.pointer (some ⟨j,o + n,none⟩)) w:=by
  unfold foff at h
  cases hu : P.underlying S with
  | none=>simp [hu] at h
  | some d=>
    cases d with
    | struct fs=>
      simp only [hu] at h
      cases hf : fs[f]? with
      | none=>simp [hf] at h
      | some fd=>
        simp only [hf] at h
        cases hz : tsize P fd.type with
        | none=>simp [hz] at h
        | some z=>
          cases z with
          | zero=>simp [hz] at h
          | succ z=>
            simp only [hz,Option.some.injEq] at h
            subst h
            have hs:=run_sizeOf hz w
            unfold Instr.fieldAt
            simp [run_underlying hu w,hf,Instr.sureAddr,fieldPlace,hs,add_off]
    | _=>simp [hu] at h
def loadA (P : Program) (T : TypeId) (a : Value) (H : List Blk) : Option Value:=
  match a with
  | .pointer (some ⟨i,o,none⟩)=>
    match H[i]?,tagg P T with
    | some b,some true=>match tsize P T with
      | some n=>if o + n ≤ b.1.size then some (.agg ((b.1.toList.drop o).take n).toArray) else none
      | none=>none
    | some b,some false=>b.1[o]?
    | _,_=>none
  | _=>none
theorem RA.part {m : List Nat} {a a' : Array Value} (h : RA m a a') (o n : Nat) : RA m ((a.toList.drop o).take n).toArray ((a'.toList.drop o).take n).toArray:=by
  have hs:=h.size
  refine ⟨by simp; omega,fun i v v' h1 h2=>?_⟩
  simp only [List.getElem?_toArray,List.getElem?_take,List.getElem?_drop,Array.getElem?_toList] at h1 h2
  split at h1
  · rename_i hi
    rw [if_pos hi] at h2
    exact h.at_ _ _ _ h1 h2
  · cases h1
theorem loadA_ptr {T : TypeId} {a v : Value} {H : List Blk} (h : loadA P T a H = some v) : ∃ i o b,a = .pointer (some ⟨i,o,none⟩) ∧ H[i]? = some b:=by
  unfold loadA at h
  split at h
  case h_2=>cases h
  rename_i i o
  cases hb : H[i]? with
  | none=>simp [hb] at h
  | some b=>exact ⟨i,o,b,rfl,hb⟩
theorem loadA_at {m : List Nat} {H : List Blk} {w : World} {T : TypeId} {i o j : Nat} {v : Value} {b : Blk} {cs : Array Value} (hb : H[i]? = some b) {T' : TypeId} {fr : Nat × Nat} (hc : w.heap[j]? = some (.cells cs T' fr)) (hr : RA m b.1 cs) (h : loadA P T (.pointer (some ⟨i,o,none⟩)) H = some v) :
    ∃ v',(Instr.loadAt T (.pointer (some ⟨j,o,none⟩))).run P w = .ok v' w ∧ VR m v v':=by
  unfold loadA at h
  simp only [hb] at h
  cases ht : tagg P T with
  | none=>simp [ht] at h
  | some t=>
    have hagg:=run_isAgg ht w
    cases t with
    | true=>
      simp only [ht] at h
      cases hn : tsize P T with
      | none=>simp [hn] at h
      | some n=>
        simp only [hn] at h
        split at h
        · rename_i hle
          simp only [Option.some.injEq] at h
          subst h
          have hsz:=run_sizeOf hn w
          have hlen : ((cs.toList.drop o).take n).length = n:=by
            have:=hr.size
            simp; omega
          have hl : (loadCells ⟨j,o,none⟩ ((cs.toList.drop o).take n).length).run P w = .ok ((cs.toList.drop o).take n).toArray w:=
            run_loadCells_list (P:=P) w ⟨j,o,none⟩ _ (fun k v hv=>by
              rw [add_off,cell_of_row w j (o + k) cs T' fr hc]
              simp only [List.getElem?_take,List.getElem?_drop,Array.getElem?_toList] at hv
              split at hv
              · exact hv
              · cases hv)
          rw [hlen] at hl
          refine ⟨.agg ((cs.toList.drop o).take n).toArray,?_,.mk_agg (hr.part o n)⟩
          simp [Instr.loadAt,Instr.sureAddr,loadVar,hagg,hsz,hl]
        · cases h
    | false=>
      simp only [ht] at h
      have hlt : o < b.1.size:=(Array.getElem?_eq_some_iff.1 h).1
      have hlt' : o < cs.size:=hr.size ▸ hlt
      refine ⟨cs[o],?_,hr.at_ o v _ h (Array.getElem?_eq_getElem hlt')⟩
      have hcell : w.cell? ⟨j,o,none⟩ = some cs[o]:=by rw [cell_of_row w j o cs T' fr hc]; exact Array.getElem?_eq_getElem hlt'
      simp [Instr.loadAt,Instr.sureAddr,loadVar,hagg,hcell]
theorem loadA_run {m : List Nat} {H : List Blk} {w : World} (hH : RH m H w) {T : TypeId} {a a' v : Value} (ha : VR m a a') (h : loadA P T a H = some v) :
    ∃ v',(Instr.loadAt T a').run P w = .ok v' w ∧ VR m v v':=by
  have h0:=h
  unfold loadA at h
  split at h
  case h_2=>cases h
  rename_i i o
  cases ha with
  | pl _ h'=>simp [flat1] at h'
  | ptr _ j _ _ hj=>
    cases hb : H[i]? with
    | none=>simp [hb] at h
    | some b=>
      obtain ⟨cs,hc,hr⟩:=hH.blk i j b hj hb
      exact loadA_at hb hc hr h0
def midRow (cur : Array Value) (o : Nat) (vs : List Value) : Array Value:=(cur.toList.take o ++ vs ++ cur.toList.drop (o + vs.length)).toArray
theorem midRow_get {cur : Array Value} {o : Nat} {vs : List Value} (h : o + vs.length ≤ cur.size) (k : Nat) :
    (midRow cur o vs)[k]? = if k < o then cur[k]? else if k < o + vs.length then vs[k - o]? else cur[k]?:=by
  unfold midRow
  rw [List.getElem?_toArray,List.append_assoc,List.getElem?_append,List.length_take,Array.length_toList,show min o cur.size = o by omega]
  by_cases h1 : k < o
  · rw [if_pos h1,if_pos h1,List.getElem?_take,if_pos h1,Array.getElem?_toList]
  · rw [if_neg h1,if_neg h1,List.getElem?_append]
    by_cases h2 : k < o + vs.length
    · rw [if_pos h2,if_pos (by omega)]
    · rw [if_neg h2,if_neg (by omega),List.getElem?_drop,Array.getElem?_toList]
      congr 1
      omega
theorem midRow_cons {cur : Array Value} {o : Nat} {v : Value} {vs : List Value} (h : o + (v :: vs).length ≤ cur.size) :
    midRow (cur.setIfInBounds o v) (o + 1) vs = midRow cur o (v :: vs):=by
  have h' : o + 1 + vs.length ≤ cur.size:=by simp only [List.length_cons] at h; omega
  apply Array.ext_getElem?
  intro k
  rw [midRow_get (by simpa using h'),midRow_get h,List.length_cons]
  by_cases h1 : k < o
  · rw [if_pos (by omega),if_pos h1,Array.getElem?_setIfInBounds_ne (by omega)]
  · rw [if_neg h1]
    by_cases h2 : k = o
    · subst h2
      rw [if_pos (by omega),if_pos (by omega),Array.getElem?_setIfInBounds_self,if_pos (by omega),Nat.sub_self]
      rfl
    · rw [if_neg (by omega)]
      by_cases h3 : k < o + 1 + vs.length
      · rw [if_pos h3,if_pos (by omega),show k - o = (k - (o + 1)) + 1 by omega]
        rfl
      · rw [if_neg h3,if_neg (by omega),Array.getElem?_setIfInBounds_ne (by omega)]
theorem run_storeMid (g o : Nat) (t : TypeId) : ∀ (vs : List Value) (i : Nat) (cur : Array Value) (w : World),w.heap[g]? = some (.cells cur t (0,0)) → o + i + vs.length ≤ cur.size → (∀ v ∈ vs,v.oneCell' = true) →
    (storeCells ⟨g,o,none⟩ vs i).run P w = .ok () (w.setRow g (midRow cur (o + i) vs))
  | [],i,cur,w,hg,hl,_=>by
    have e : midRow cur (o + i) [] = cur:=by simp [midRow]
    rw [e]
    simp only [storeCells]
    show Result.ok () w = _
    congr 1
    have hv : w.heap[g]'((Array.getElem?_eq_some_iff.1 hg).1) = .cells cur t (0,0):=(Array.getElem?_eq_some_iff.1 hg).2
    unfold World.setRow
    cases w with
    | mk heap tape drawn os output=>
      congr 1
      apply Array.ext
      · simp
      · intro k h1 h2
        simp only [Array.getElem_modify]
        split
        · rename_i hk; subst hk; simp at hv; simp [hv]
        · rfl
  | v :: rest,i,cur,w,hg,hl,h1=>by
    have hi : o + i < cur.size:=by simp at hl; omega
    have hcell : w.cell? ⟨g,o + i,none⟩ = some cur[o + i]:=by simp [World.cell?,hg,hi]
    have hfro : w.frozen? ⟨g,o + i,none⟩ = false:=by simp [World.frozen?,hg]
    have hst : (store ((⟨g,o,none⟩ : Addr).add i) v).run P w = .ok () (w.setRow g (cur.setIfInBounds (o + i) v)):=by
      rw [add_off,run_store P w _ v _ (h1 v (by simp)),hcell]
      simp [hfro,setCell_eq_setRow w g (o + i) cur t (0,0) v hg]
    have ih:=run_storeMid g o t rest (i + 1) (cur.setIfInBounds (o + i) v) (w.setRow g (cur.setIfInBounds (o + i) v)) (setRow_heap w g cur _ t _ hg) (by simp at hl ⊢; omega) (fun x hx=>h1 x (by simp [hx]))
    simp only [storeCells,Sem.run_bind,hst,Result.andThen_ok,ih,setRow_setRow]
    rw [show o + (i + 1) = o + i + 1 by omega,midRow_cons (by simpa using hl)]
def storeA (P : Program) (T : TypeId) (a v : Value) (H : List Blk) : Option (List Blk):=
  match a with
  | .pointer (some ⟨i,o,none⟩)=>
    match H[i]?,tsize P T with
    | some b,some n=>if v.cells.size = n ∧ o + n ≤ b.1.size ∧ v.cells.toList.all (fun c=>c.oneCell' && !isRaw c) = true ∧ isRaw v = false ∧ b.2 < 1000000 then some (H.set i (midRow b.1 o v.cells.toList,b.2)) else none
    | _,_=>none
  | _=>none
theorem RA.cells {m : List Nat} {v v' : Value} (h : VR m v v') (hraw : isRaw v = false) : RA m v.cells v'.cells:=by
  have one : ∀ {u u' : Value},VR m u u' → RA m #[u] #[u']:=fun {u u'} hu=>⟨rfl,fun i x x' h1 h2=>by
    have hi : i = 0:=by have:=(Array.getElem?_eq_some_iff.1 h1).1; simp at this; omega
    subst hi
    simp at h1 h2
    subst h1; subst h2
    exact hu⟩
  cases h with
  | pl v h=>cases v <;> first | exact one (.pl _ h) | (simp [flat1] at h)
  | ptr i j o s h=>exact one (.ptr i j o s h)
  | slice i j o l c s h=>exact one (.slice i j o l c s h)
  | raw _=>simp [isRaw] at hraw
  | func fn a a' c c' ha hc h1 h2=>exact one (.func fn a a' c c' ha hc h1 h2)
  | agg a a' ha h1=>exact ⟨ha,h1⟩
  | tuple a a' ha h1=>exact one (.tuple a a' ha h1)
theorem VR.oneCell {m : List Nat} {v v' : Value} (h : VR m v v') (hraw : isRaw v = false) : v'.oneCell' = v.oneCell':=by
  cases h <;> first | rfl | (simp [isRaw] at hraw)
theorem RA.oneCell {m : List Nat} {a a' : Array Value} (h : RA m a a') (ho : a.toList.all (fun c=>c.oneCell' && !isRaw c) = true) : ∀ v ∈ a'.toList,v.oneCell' = true:=by
  intro v hv
  obtain ⟨i,hi,rfl⟩:=List.getElem_of_mem hv
  have hi' : i < a'.size:=by simpa using hi
  have hia : i < a.size:=by rw [h.size]; exact hi'
  have:=h.at_ i _ _ (Array.getElem?_eq_getElem hia) (Array.getElem?_eq_getElem hi')
  have hc:=List.all_eq_true.1 ho a[i] (by simp)
  simp only [Bool.and_eq_true,Bool.not_eq_true'] at hc
  rw [Array.getElem_toList,this.oneCell hc.2]
  exact hc.1
theorem RA.mid {m : List Nat} {a a' : Array Value} {c c' : Array Value} (h : RA m a a') (hc : RA m c c') (o : Nat) (hle : o + c.size ≤ a.size) : RA m (midRow a o c.toList) (midRow a' o c'.toList):=by
  have hs:=h.size
  have hcs:=hc.size
  refine ⟨by simp [midRow]; omega,fun i v v' h1 h2=>?_⟩
  simp only [midRow,List.getElem?_toArray,List.getElem?_append,List.length_append,List.length_take,Array.length_toList,List.getElem?_take,List.getElem?_drop,Array.getElem?_toList,show min o a.size = o by omega,show min o a'.size = o by omega] at h1 h2
  by_cases k1 : i < o
  · rw [if_pos (by omega),if_pos k1,if_pos k1] at h1
    rw [if_pos (by omega),if_pos k1,if_pos k1] at h2
    exact h.at_ _ _ _ h1 h2
  · by_cases k2 : i < o + c.size
    · rw [if_pos k2,if_neg k1] at h1
      rw [if_pos (by omega),if_neg k1] at h2
      exact hc.at_ _ _ _ h1 h2
    · rw [if_neg k2] at h1
      rw [if_neg (by omega)] at h2
      rw [← hcs] at h2
      exact h.at_ _ _ _ h1 h2
theorem storeA_run {m : List Nat} {H G : List Blk} {w : World} (hH : RH m H w) {T : TypeId} {a a' v v' : Value} (ha : VR m a a') (hv : VR m v v') (h : storeA P T a v H = some G) :
    ∃ w',(Instr.storeAt T a' v').run P w = .ok () w' ∧ RH m G w' ∧ Kept m w w' ∧ ∀ j o,a' = .pointer (some ⟨j,o,none⟩) → ∀ k,k ≠ j → w'.heap[k]? = w.heap[k]?:=by
  unfold storeA at h
  split at h
  case h_2=>cases h
  rename_i i o
  cases ha with
  | pl _ h'=>simp [flat1] at h'
  | ptr _ j _ _ hj=>
    cases hb : H[i]? with
    | none=>simp [hb] at h
    | some b=>
      obtain ⟨cs,hc,hr⟩:=hH.blk i j b hj hb
      simp only [hb] at h
      cases hn : tsize P T with
      | none=>simp [hn] at h
      | some n=>
        simp only [hn] at h
        split at h
        · rename_i hcond
          obtain ⟨h1,h2,h3,h4,h5⟩:=hcond
          rw [frOf_lit h5] at hc
          simp only [Option.some.injEq] at h
          subst h
          have hcv:=RA.cells hv h4
          have hvs : v'.cells.size = n:=by rw [← hcv.size]; exact h1
          have hst:=run_storeMid (P:=P) j o b.2 v'.cells.toList 0 cs w hc (by have:=hr.size; simp; omega) (hcv.oneCell h3)
          refine ⟨_,?_,hH.setRow hj hb (hr.mid hcv o (by omega)),Kept.setRow (List.mem_of_getElem? hj) _,fun j2 o2 he k hk=>?_⟩
          case refine_2=>
            simp only [Value.pointer.injEq,Option.some.injEq,Addr.mk.injEq] at he
            obtain ⟨rfl,_⟩:=he
            simp only [World.setRow,Array.getElem?_modify]
            rw [if_neg (Ne.symm hk)]
          simp only [Instr.storeAt,Instr.sureAddr,storeVar,Sem.run_bind,Sem.run_pure,Result.andThen_ok,run_sizeOf hn w,hvs,ne_eq,not_true,if_false]
          simpa using hst
        · cases h
end Go.Proofs.YtfhnlkinjbakgaaGreat.Abs
