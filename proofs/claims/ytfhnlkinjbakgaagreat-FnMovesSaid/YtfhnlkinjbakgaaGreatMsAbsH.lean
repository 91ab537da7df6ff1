/- The abstract machine: loops whose rounds vary; branches that are never taken. -/
import Derived.Test.YtfhnlkinjbakgaaGreatMsAbsR
namespace Go.Proofs.YtfhnlkinjbakgaaGreat.Abs
open Go Go.RowKit
def loopsOf : Code → List Item → List (List Item)
  | .seq a b,r=>loopsOf a (.code b :: r) ++ loopsOf b r
  | .cond _ x y,r=>loopsOf x r ++ loopsOf y r
  | .block id body,r=>loopsOf body (.inBlock id :: r)
  | .loop body,r=>(.code body :: .inLoop body :: r) :: loopsOf body (.inLoop body :: r)
  | _,_=>[]
def loopAt (fn : Func) (k : Nat) : List Item:=
  match fn.body with
  | some c=>(loopsOf c []).getD k []
  | none=>[]
def maskA (t : Array Value) (M : List Nat) : Array Value:=M.foldl (fun a i=>a.setIfInBounds i undef) t
def fillM (t : Array Value) (M : List Nat) (g : Nat → Value) : Array Value:=M.foldl (fun a i=>a.setIfInBounds i (g i)) t
theorem fillM_size (M : List Nat) : ∀ (t : Array Value) (g : Nat → Value),(fillM t M g).size = t.size:=by
  induction M with
  | nil=>intro t g; rfl
  | cons a M ih=>intro t g; show (fillM (t.setIfInBounds a (g a)) M g).size = _; rw [ih]; simp
theorem fillM_get (M : List Nat) : ∀ (t : Array Value) (g : Nat → Value) (i : Nat),(fillM t M g)[i]? = if i ∈ M ∧ i < t.size then some (g i) else t[i]?:=by
  induction M with
  | nil=>intro t g i; simp [fillM]
  | cons a M ih=>
    intro t g i
    show (fillM (t.setIfInBounds a (g a)) M g)[i]? = _
    rw [ih]
    by_cases h : i ∈ M ∧ i < t.size
    · rw [if_pos (by simpa using h),if_pos ⟨by simp [h.1],h.2⟩]
    · rw [if_neg (by simpa using h)]
      by_cases e : a = i
      · subst e
        rw [Array.getElem?_setIfInBounds_self]
        by_cases hl : a < t.size
        · rw [if_pos hl,if_pos ⟨by simp,hl⟩]
        · rw [if_neg hl,if_neg (fun q=>hl q.2)]
          simp [Array.getElem?_eq_none (Nat.le_of_not_lt hl)]
      · rw [Array.getElem?_setIfInBounds_ne e]
        by_cases hl : i < t.size
        · have : ¬ i ∈ M:=fun q=>h ⟨q,hl⟩
          rw [if_neg]
          rintro ⟨q,_⟩
          rcases List.mem_cons.1 q with q | q
          · exact e q.symm
          · exact this q
        · rw [if_neg (fun q=>hl q.2)]
theorem unmask {t lit : Array Value} {M : List Nat} (h : maskA t M = lit) : ∃ g,t = fillM lit M g:=by
  refine ⟨fun i=>t.getD i undef,?_⟩
  subst h
  have e : maskA t M = fillM t M (fun _=>undef):=rfl
  refine Array.ext_getElem? fun i=>?_
  rw [fillM_get,e,fillM_size,fillM_get]
  by_cases hm : i ∈ M ∧ i < t.size
  · rw [if_pos hm]
    simp [hm.2]
  · rw [if_neg hm,if_neg hm]
variable {P : Program} {E : Eqs} {f : FuncId} {fn : Func} {tr : T} {R : Value → List Blk → Prop}
theorem Run.l {M : List Nat} {lit : Array Value} {td : List Item} {H : List Blk} (h0 : tr.isHead = true) (h1 : tr.todoOf = td) (h2 : maskA tr.tmpsOf M = lit) (h3 : tr.blksOf = H) (h : ∀ t,maskA t M = lit → Cfg P f td t H R) : Run P f R tr:=
  Run.h h0 h1 rfl h3 (h _ h2)
theorem Cfg.round {M : List Nat} {lit t : Array Value} {td : List Item} {H : List Blk} (hE : EqsOk P E) (hm : P.follows .mixedOrders = true) (hf : P.funcs[f]? = some fn) (ht : maskA t M = lit) (h : ∀ g,Run P f R (exec P E fn 400 td (fillM lit M g) H)) : Cfg P f td t H R:=by
  obtain ⟨g,rfl⟩:=unmask ht
  exact exec_cfg hE hm hf 400 _ _ _ _ (h g)
def closed1 (k : Nat) : Value → Bool
  | .pointer (some ⟨i,_,_⟩)=>decide (i < k)
  | .slice (some ⟨i,_,_⟩) _ _=>decide (i < k)
  | .agg cs=>cs.toList.all flat1
  | v=>flat1 v
def closedV (k : Nat) : Value → Bool
  | .tuple vs=>vs.toList.all (closed1 k)
  | .func _ a c=>a.toList.all (closed1 k) && c.toList.all (closed1 k)
  | v=>closed1 k v
theorem take_get {m : List Nat} {k i j : Nat} (h : m[i]? = some j) (hi : i < k) : (m.take k)[i]? = some j:=by
  rw [List.getElem?_take_of_lt hi]; exact h
theorem VR.take1 {m : List Nat} {k : Nat} {v v' : Value} (h : VR m v v') (hc : closed1 k v = true) : VR (m.take k) v v':=by
  cases h with
  | pl _ h=>exact .pl _ h
  | ptr i j o s h=>exact .ptr i j o s (take_get h (of_decide_eq_true hc))
  | slice i j o l c s h=>exact .slice i j o l c s (take_get h (of_decide_eq_true hc))
  | raw v'=>exact .raw v'
  | agg a a' ha h1=>
    refine .agg a a' ha fun i x x' e1 e2=>?_
    have hf:=List.all_eq_true.1 hc x (by rw [Array.mem_toList_iff]; exact Array.mem_of_getElem? e1)
    have:=(h1 i x x' e1 e2).eq_of_flat (v:=x) (by cases x <;> first | exact hf | (simp [flat1] at hf))
    subst this
    exact .pl _ hf
  | func fn a a' c c' ha hc2 h1 h2=>simp [closed1,flat1] at hc
  | tuple a a' ha h1=>simp [closed1,flat1] at hc
theorem VR.take {m : List Nat} {k : Nat} {v v' : Value} (h : VR m v v') (hc : closedV k v = true) : VR (m.take k) v v':=by
  cases v with
  | tuple vs=>
    cases h with
    | pl _ h=>exact .pl _ h
    | tuple _ a' ha h1=>
      refine .tuple _ a' ha fun i x x' e1 e2=>(h1 i x x' e1 e2).take1 ?_
      exact List.all_eq_true.1 hc x (by rw [Array.mem_toList_iff]; exact Array.mem_of_getElem? e1)
  | func fn a c=>
    simp only [closedV,Bool.and_eq_true] at hc
    cases h with
    | pl _ h=>exact .pl _ h
    | func _ _ a' _ c' ha hc2 h1 h2=>
      refine .func fn a a' c c' ha hc2 (fun i x x' e1 e2=>(h1 i x x' e1 e2).take1 ?_) (fun i x x' e1 e2=>(h2 i x x' e1 e2).take1 ?_)
      · exact List.all_eq_true.1 hc.1 x (by rw [Array.mem_toList_iff]; exact Array.mem_of_getElem? e1)
      · exact List.all_eq_true.1 hc.2 x (by rw [Array.mem_toList_iff]; exact Array.mem_of_getElem? e1)
  | _=>exact h.take1 hc
theorem RA.take {m : List Nat} {k : Nat} {a a' : Array Value} (h : RA m a a') (hc : a.toList.all (closedV k) = true) : RA (m.take k) a a':=
  ⟨h.size,fun i v v' h1 h2=>(h.at_ i v v' h1 h2).take (List.all_eq_true.1 hc v (by rw [Array.mem_toList_iff]; exact Array.mem_of_getElem? h1))⟩
theorem RA.raws (m : List Nat) (cs : Array Value) : RA m (cs.map fun v=>.iface 0 v) cs:=⟨by simp,fun i v v' h1 h2=>by
  rw [Array.getElem?_map,h2] at h1
  simp only [Option.map_some,Option.some.injEq] at h1
  subst h1
  exact .raw v'⟩
theorem Cfg.forget {M : List Nat} {lit t : Array Value} {td : List Item} {H X H0 : List Blk} {v : Value} (hlit : lit.toList.all (closedV H.length) = true) (hH : H.all (fun b=>b.1.toList.all (closedV H.length)) = true) (h0 : H0.all (fun b=>b.1.toList.all flat) = true) (hle : H0.length ≤ H.length) (hv : flat v = true)
    (ht : maskA t M = lit) (h : ∀ t,maskA t M = lit → Cfg P f td t H (RvH H0 v)) : Cfg P f td t (H ++ X) (RvH H0 v):=by
  intro m t' w hta hrh b cs hb hk
  have hml : m.length = H.length + X.length:=by rw [hrh.len,List.length_append]
  have hmt : (m.take H.length).length = H.length:=by rw [List.length_take]; omega
  have hls : lit.size = t.size:=by rw [← ht]; exact fillM_size _ _ _
  have hra : RA (m.take H.length) (fillM lit M fun i=>.iface 0 (t'.getD i undef)) t':=by
    refine ⟨by rw [fillM_size,hls,hta.size],fun i v v' h1 h2=>?_⟩
    rw [fillM_get] at h1
    split at h1
    · cases h1
      have : t'.getD i undef = v':=by simp [Array.getD_eq_getD_getElem?,h2]
      rw [this]
      exact .raw v'
    · rename_i hn
      have hcl:=List.all_eq_true.1 hlit v (by rw [Array.mem_toList_iff]; exact Array.mem_of_getElem? h1)
      have e : lit = fillM t M (fun _=>undef):=ht.symm
      rw [e,fillM_get] at h1
      rw [if_neg (by rw [← hls]; exact hn)] at h1
      exact (hta.at_ i v v' h1 h2).take hcl
  have hmask : maskA (fillM lit M fun i=>.iface 0 (t'.getD i undef)) M = lit:=by
    refine Array.ext_getElem? fun i=>?_
    have e1 : maskA (fillM lit M fun i=>.iface 0 (t'.getD i undef)) M = fillM (fillM lit M fun i=>.iface 0 (t'.getD i undef)) M (fun _=>undef):=rfl
    have e : lit = fillM t M (fun _=>undef):=ht.symm
    rw [e1,fillM_get,fillM_size,fillM_get]
    by_cases q : i ∈ M ∧ i < lit.size
    · rw [if_pos q,e,fillM_get,if_pos (by rw [← hls]; exact q)]
    · rw [if_neg q,if_neg q]
  have hrh0 : RH (m.take H.length) H w:=by
    refine ⟨hmt,hrh.nodup.sublist (List.take_sublist _ _),fun i j b hj hb=>?_⟩
    have hi : i < H.length:=(List.getElem?_eq_some_iff.1 hb).1
    rw [List.getElem?_take_of_lt hi] at hj
    obtain ⟨cs,hc,hr⟩:=hrh.blk i j b hj (by rw [List.getElem?_append_left hi]; exact hb)
    exact ⟨cs,hc,hr.take (List.all_eq_true.1 hH b (List.mem_of_getElem? hb))⟩
  obtain ⟨w',fr,u,u',n,G,h1,h2,h3,h4,h5,h6,h7,rfl,X',rfl⟩:=h _ hmask _ t' w hra hrh0 b cs hb hk
  have hex : ∀ i : Fin m.length,∃ b : Blk,(∀ x,H0[i.val]? = some x → b = x) ∧ ∃ cs,w'.heap[m[i]]? = some (.cells cs (frOf b.2).1 (frOf b.2).2) ∧ RA m b.1 cs:=fun i=>by
    by_cases hi : i.val < H.length
    · have hmi : ((m.take H.length) ++ n)[i.val]? = some m[i]:=by
        rw [List.getElem?_append_left (by omega),List.getElem?_take_of_lt hi]
        exact List.getElem?_eq_getElem i.isLt
      have hG : i.val < (H0 ++ X').length:=by
        have:=h5.len
        rw [List.length_append,hmt] at this
        omega
      obtain ⟨cs,hc,hr⟩:=h5.blk i.val _ _ hmi (List.getElem?_eq_getElem hG)
      by_cases hi0 : i.val < H0.length
      · refine ⟨H0[i.val],fun x hx=>by rw [List.getElem?_eq_getElem hi0] at hx; exact Option.some.inj hx,cs,?_,?_⟩
        · rw [List.getElem_append_left hi0] at hc; exact hc
        · rw [List.getElem_append_left hi0] at hr
          have hfl:=List.all_eq_true.1 h0 H0[i.val] (List.getElem_mem hi0)
          rw [hr.eq_of_flat hfl]
          exact ⟨rfl,fun k x x' e1 e2=>by
            rw [e1] at e2; cases e2
            exact VR.refl_of_flat _ (List.all_eq_true.1 hfl x (by rw [Array.mem_toList_iff]; exact Array.mem_of_getElem? e1))⟩
      · exact ⟨(cs.map fun v=>.iface 0 v,(H0 ++ X')[i.val].2),fun x hx=>absurd (List.getElem?_eq_some_iff.1 hx).1 hi0,cs,hc,RA.raws m cs⟩
    · have hXi : i.val - H.length < X.length:=by have:=i.isLt; omega
      have hb2 : (H ++ X)[i.val]? = some X[i.val - H.length]:=by
        rw [List.getElem?_append_right (by omega)]
        exact List.getElem?_eq_getElem hXi
      obtain ⟨cs,hc,hr⟩:=hrh.blk i.val _ _ (List.getElem?_eq_getElem i.isLt) hb2
      refine ⟨X[i.val - H.length],fun x hx=>absurd (List.getElem?_eq_some_iff.1 hx).1 (by omega),cs,?_,hr⟩
      have hlt : m[i.val] < w.heap.size:=hrh.lt_of_mem (List.getElem_mem i.isLt)
      have hnot : m[i.val] ∉ m.take H.length:=fun hmem=>by
        obtain ⟨j,hj,he⟩:=List.getElem_of_mem hmem
        have hj' : j < H.length:=by omega
        have e1 : m[j]? = some m[i.val]:=by
          rw [← he,List.getElem_take]
          exact List.getElem?_eq_getElem (by omega)
        have:=nodup_inj hrh.nodup e1 (List.getElem?_eq_getElem i.isLt)
        omega
      have:=h7.block _ hlt hnot
      show w'.heap[m[i.val]]? = _
      rw [this]; exact hc
  refine ⟨w',fr,u,u',[],List.ofFn fun i=>Classical.choose (hex i),h1,h2,h3,?_,?_,by simp,⟨h7.os,h7.tape,h7.output,h7.size,fun k hk hn=>h7.block k hk fun q=>hn (List.mem_of_mem_take q)⟩,rfl,?_⟩
  · rw [h4.eq_of_flat hv]; exact VR.refl_of_flat _ hv
  · rw [List.append_nil]
    refine ⟨by simp,hrh.nodup,fun i j b hj hb=>?_⟩
    have hi : i < m.length:=(List.getElem?_eq_some_iff.1 hj).1
    rw [List.getElem?_ofFn,dif_pos hi] at hb
    cases hb
    obtain ⟨_,cs,hc,hr⟩:=Classical.choose_spec (hex ⟨i,hi⟩)
    rw [List.getElem?_eq_getElem hi] at hj
    cases hj
    exact ⟨cs,hc,hr⟩
  · refine ⟨(List.ofFn fun i=>Classical.choose (hex i)).drop H0.length,?_⟩
    rw [← List.take_append_drop H0.length (List.ofFn fun i=>Classical.choose (hex i))]
    congr 1
    · refine List.ext_getElem? fun i=>?_
      by_cases hi : i < H0.length
      · have him : i < m.length:=by omega
        rw [List.getElem?_take_of_lt hi,List.getElem?_ofFn,dif_pos him]
        have:=(Classical.choose_spec (hex ⟨i,him⟩)).1 H0[i] (List.getElem?_eq_getElem hi)
        rw [this]
        exact (List.getElem?_eq_getElem hi).symm
      · rw [List.getElem?_eq_none (by rw [List.length_take]; omega),List.getElem?_eq_none (by omega)]
    · rw [List.take_append_drop]
end Go.Proofs.YtfhnlkinjbakgaaGreat.Abs
