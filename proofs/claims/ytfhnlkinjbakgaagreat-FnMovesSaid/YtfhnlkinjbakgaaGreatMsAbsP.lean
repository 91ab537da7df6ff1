/- The abstract machine: lists of numbers in memory; append; what a function hands back as such a list. -/
import Derived.Test.YtfhnlkinjbakgaaGreatMsAbsX
import Derived.ArgAppend
namespace Go.Proofs.YtfhnlkinjbakgaaGreat.Abs
open Go Go.RowKit
variable {P : Program} {E : Eqs} {f : FuncId} {fn : Func} {tr : T} {R : Value → List Blk → Prop}
def rowOf (L : List I64) (pad : List Value) : Array Value:=(L.map vI ++ pad).toArray
def LS (e : TypeId) (L : List I64) (v : Value) (H : List Blk) : Prop:=
  (L = [] ∧ v = .slice none 0 0) ∨ ∃ i cap pad,v = .slice (some ⟨i,0,none⟩) L.length cap ∧ H[i]? = some (rowOf L pad,e) ∧ (rowOf L pad).size = cap ∧ cap ≤ maxLen ∧ pad.all calm = true
theorem listAt_ok {L : List I64} {pad : List Value} {i : I64} (h : 0 ≤ i.val ∧ i.val < (L.length : Int)) : (rowOf L pad)[0 + i.val.toNat * 1]? = some (vI (listAt L i)):=by
  have hi : i.val.toNat < L.length:=by omega
  rw [Nat.zero_add,Nat.mul_one]
  unfold rowOf listAt
  rw [List.getElem?_toArray,List.getElem?_append_left (by simpa using hi),List.getElem?_map,List.getElem?_eq_getElem hi]
  simp [List.getD,List.getElem?_eq_getElem hi]
theorem rowOf_calm {L : List I64} {pad : List Value} (h : pad.all calm = true) : (rowOf L pad).toList.all calm = true:=by
  unfold rowOf
  simp only [List.all_append,Bool.and_eq_true,h,and_true]
  rw [List.all_eq_true]
  intro v hv
  obtain ⟨x,_,rfl⟩:=List.mem_map.1 hv
  rfl
def QC (P : Program) (f : FuncId) (m : List Nat) (w : World) (r : List Item) (R : Value → List Blk → Prop) : Exit → Act → World → Prop:=
  fun e a w1=>e = .normal ∧ ∃ (n : List Nat) (t2 t2' : Array Value) (H2 : List Blk),a = act t2' ∧ RA (m ++ n) t2 t2' ∧ RH (m ++ n) H2 w1 ∧ (∀ j ∈ n,w.heap.size ≤ j) ∧ Kept m w w1 ∧ Cfg P f r t2 H2 R
theorem Cfg.region {id : Nat} {ops : Array Oper} {r : List Item} {t : Array Value} {H : List Blk}
    (h : ∀ (m : List Nat) (t' : Array Value) (w : World),RA m t t' → RH m H w → wpList P ops (QC P f m w r R) ops.toList (act t') w) : Cfg P f (.code (.region id ops false) :: r) t H R:=by
  intro m t' w ht hH b cs hb hk
  obtain ⟨e,a',w1,⟨rfl,n,t2,t2',H2,rfl,ht2,hH2,hn,hk2,h2⟩,harr⟩:=(wp_region_list (id:=id) (h m t' w ht hH)) b r cs
  have harr' : Steps P (lone (b.at (act t') (.code (.region id ops false) :: r)) cs w) (lone (b.at (act t2') r) cs w1):=harr
  obtain ⟨w',fr,v,v',n',G,h3,h4,h5,h6,h7,h8,h9,h10⟩:=h2 (m ++ n) t2' w1 ht2 hH2 b cs hb hk
  refine ⟨w',fr,v,v',n ++ n',G,harr'.trans h3,h4,h5,by rw [← List.append_assoc]; exact h6,by rw [← List.append_assoc]; exact h7,fun j hj=>?_,hk2.trans h9 hn,h10⟩
  rcases List.mem_append.1 hj with hj | hj
  · exact hn j hj
  · exact Nat.le_trans hk2.size (h8 j hj)
theorem wpList_step {ops : Array Oper} {Q : Exit → Act → World → Prop} {o : Oper} {l : List Oper} {t' : Array Value} {v' : Value} {w w' : World} (hg : o.guard = none) (hr : (execOp (act t').eval o).run P w = .ok (.value v') w')
    (h : wpList P ops Q l (act (putA t' o.dst v')) w') : wpList P ops Q (o :: l) (act t') w:=by
  simp only [wpList]
  rw [if_pos (by simp [Region.wanted,hg])]
  left
  unfold Oper.wp
  rw [hr,Oper.upon_value,act_put]
  exact h
theorem cell_new (w : World) (v : Value) (e : TypeId) : (w.alloc (.cells #[v] e)).cell? ⟨w.heap.size,0,none⟩ = some v:=by
  rw [cell_of_row _ _ _ _ e (0,0) (heap_alloc_new w _)]
  rfl
theorem RA.row {m : List Nat} {L : List I64} {cur : Array Value} (h : cur.toList.take L.length = L.map vI) : RA m (rowOf L ((cur.toList.drop L.length).map fun v=>.iface 0 v)) cur:=by
  have hl : (rowOf L ((cur.toList.drop L.length).map fun v=>Value.iface 0 v)).size = cur.size:=by
    have:=congrArg List.length h
    simp at this
    simp [rowOf]; omega
  refine ⟨hl,fun i v v' h1 h2=>?_⟩
  unfold rowOf at h1
  rw [List.getElem?_toArray,List.getElem?_append] at h1
  rw [← Array.getElem?_toList] at h2
  split at h1
  · rename_i hi
    simp only [List.length_map] at hi
    have h3 : (cur.toList.take L.length)[i]? = some v':=by rw [List.getElem?_take_of_lt hi]; exact h2
    rw [h,h1] at h3
    cases h3
    rw [List.getElem?_map] at h1
    cases hx : L[i]? with
    | none=>simp [hx] at h1
    | some x=>simp only [hx,Option.map_some,Option.some.injEq] at h1; subst h1; exact .pl _ rfl
  · rename_i hi
    simp only [List.length_map] at hi h1
    rw [List.getElem?_map,List.getElem?_drop,show L.length + (i - L.length) = i by omega,h2] at h1
    simp only [Option.map_some,Option.some.injEq] at h1
    subst h1
    exact .raw v'
theorem raws_calm (l : List Value) : (l.map fun v=>Value.iface 0 v).all calm = true:=by
  rw [List.all_eq_true]
  intro v hv
  obtain ⟨x,_,rfl⟩:=List.mem_map.1 hv
  rfl
theorem append_run {T e : TypeId} {i : TypeInfo} (he : e < 1000000) (hT : P.underlying T = some (.slice e)) (hi : P.info? e = some i) (hz : i.zero = some (.int .i64 0)) (hsz : i.size = 1) (hby : i.bytes = 8)
    {m : List Nat} {H : List Blk} {w : World} (hH : RH m H w) {L : List I64} {v v' : Value} (hL : LS e L v H) (hv : VR m v v') (hlen : L.length ≤ 1000000) (z : I64) (ty : TypeId) (a : Addr) (ha : w.cell? a = some (vI z)) :
    ∃ v4 v4' w' n H4,(Builtin.append_ #[T,T] ty #[v',.slice (some a) 1 1]).run P w = .ok v4' w' ∧ VR (m ++ n) v4 v4' ∧ RH (m ++ n) H4 w' ∧ (∀ j ∈ n,w.heap.size ≤ j) ∧ Kept m w w' ∧
      LS e (L ++ [z]) v4 H4 ∧ ∀ (k : Nat) (b : Blk),H[k]? = some b → b.2 ≠ e → H4[k]? = some b:=by
  have hnews : ∀ (j : Nat) (u : Value),[vI z][j]? = some u → w.cell? (a.add j) = some u:=fun j u hj=>by
    cases j with
    | zero=>
      simp at hj; subst hj
      have : a.add 0 = a:=by unfold Addr.add; split <;> simp_all
      rw [this]; exact ha
    | succ j=>simp at hj
  have h1 : ∀ u ∈ [vI z],u.oneCell' = true:=fun u hu=>by simp at hu; subst hu; rfl
  have grown : ∀ (n4 : Nat) (v4' : Value) (w' : World),n4 = L.length + 1 → w'.ownsRow w.heap.size e 1 v4' n4 (L.map vI ++ [vI z]) → w.grownBy w' none →
      ∃ v4 n H4,VR (m ++ n) v4 v4' ∧ RH (m ++ n) H4 w' ∧ (∀ j ∈ n,w.heap.size ≤ j) ∧ Kept m w w' ∧ LS e (L ++ [z]) v4 H4 ∧ ∀ (k : Nat) (b : Blk),H[k]? = some b → b.2 ≠ e → H4[k]? = some b:=fun n4 v4' w' hn4 ho hg=>by
    rcases ho.2 with ⟨_,h0⟩ | ⟨g,cap,cur,rfl,hbg,hgc,hnc,hcm,hcs,htk⟩
    · omega
    have hlt : ∀ j ∈ m,j < w.heap.size:=fun j hj=>hH.lt_of_mem hj
    have htk' : cur.toList.take (L ++ [z]).length = (L ++ [z]).map vI:=by
      rw [List.map_append,List.length_append]
      rw [show n4 * 1 = L.length + [z].length by simp [hn4]] at htk
      exact htk
    have hra:=RA.row (m:=m ++ [g]) htk'
    refine ⟨.slice (some ⟨H.length,0,none⟩) n4 cap,[g],H ++ [(rowOf (L ++ [z]) ((cur.toList.drop (L ++ [z]).length).map fun v=>.iface 0 v),e)],.slice _ _ _ _ _ _ (by rw [← hH.len]; simp),⟨by simp [hH.len],?_,fun k j b hj hb=>?_⟩,by simpa using hbg,
      ⟨hg.os,hg.tape,hg.output,hg.size,fun k hk _=>hg.block k hk (by simp)⟩,.inr ⟨H.length,cap,(cur.toList.drop (L ++ [z]).length).map fun v=>.iface 0 v,by simp [hn4],by rw [List.getElem?_append_right (Nat.le_refl _),Nat.sub_self]; rfl,?_,hcm,raws_calm _⟩,fun k b hb _=>?_⟩
    · rw [List.nodup_append]
      refine ⟨hH.nodup,by simp,fun x hx y hy=>?_⟩
      simp at hy; subst hy
      have:=hlt x hx
      omega
    · by_cases hk : k < m.length
      · rw [List.getElem?_append_left hk] at hj
        rw [List.getElem?_append_left (by rw [← hH.len]; exact hk)] at hb
        obtain ⟨cs,hc,hr⟩:=hH.blk k j b hj hb
        exact ⟨cs,by rw [hg.block j (hH.lt hj) (by simp)]; exact hc,hr.mono _⟩
      · have hk' : k = m.length:=by
          have:=(List.getElem?_eq_some_iff.1 hj).1
          simp at this; omega
        subst hk'
        rw [List.getElem?_append_right (Nat.le_refl _)] at hj
        rw [List.getElem?_append_right (by rw [hH.len]; exact Nat.le_refl _)] at hb
        simp at hj
        simp [hH.len] at hb
        subst hj; subst hb
        exact ⟨cur,by rw [frOf_lit he]; exact hgc,by simpa using hra⟩
    · rw [hra.size,hcs,Nat.mul_one]
    · rw [List.getElem?_append_left (List.getElem?_eq_some_iff.1 hb).1]; exact hb
  rcases hL with ⟨rfl,rfl⟩ | ⟨k,cap,pad,rfl,hk,hcap,hcm,hpad⟩
  · have hv' : v' = .slice none 0 0:=hv.eq_of_flat rfl
    subst hv'
    obtain ⟨v4',w',hrun,r1,r2,_⟩:=run_append_own (P:=P) w w.heap.size T ty e i (.int .i64 0) 1 8 hT hi hz hsz hby rfl (by decide) (.slice none 0 0) 0 [] (World.ownsRow_nil w _ e 1) a 1 1 [vI z] (by simp) hnews h1 (by simp [maxLen]) (by decide) (Nat.le_refl _)
    obtain ⟨v4,n,H4,q⟩:=grown 1 v4' w' (by simp) (by simpa using r1) (by simpa [Value.ownBlock] using r2)
    exact ⟨v4,v4',w',n,H4,hrun,q⟩
  · cases hv with
    | pl _ h'=>simp [flat1] at h'
    | slice _ j _ _ _ _ hj=>
    obtain ⟨cs,hc,hr⟩:=hH.blk k j _ hj hk
    rw [frOf_lit he] at hc
    have hcs : cs.size = cap:=by rw [← hr.size]; exact hcap
    have hle : L.length ≤ cap:=by rw [← hcap]; simp [rowOf]
    have htake : cs.toList.take L.length = L.map vI:=by
      refine List.ext_getElem? fun q=>?_
      by_cases hq : q < L.length
      · rw [List.getElem?_take_of_lt hq,Array.getElem?_toList]
        have hqc : q < cs.size:=by omega
        have e1 : (rowOf L pad)[q]? = (L.map vI)[q]?:=by
          unfold rowOf
          rw [List.getElem?_toArray,List.getElem?_append_left (by simpa using hq)]
        rw [List.getElem?_map,List.getElem?_eq_getElem hq] at e1 ⊢
        have:=hr.at_ q _ _ e1 (Array.getElem?_eq_getElem hqc)
        rw [Array.getElem?_eq_getElem hqc,this.eq_of_flat rfl]
        rfl
      · rw [List.getElem?_eq_none (by simp; omega),List.getElem?_eq_none (by simp; omega)]
    have hown : w.ownsRow 0 e 1 (.slice (some ⟨j,0,none⟩) L.length cap) L.length (L.map vI):=⟨by simp,.inr ⟨j,cap,cs,rfl,Nat.zero_le _,hc,hle,hcm,by omega,by simpa using htake⟩⟩
    by_cases hroom : L.length + 1 ≤ cap
    · obtain ⟨w',hrun,r1,r2⟩:=run_append_fits (P:=P) w 0 T ty e i 1 hT hi hsz j L.length cap (L.map vI) hown a 1 1 [vI z] (by simp) hnews h1 hroom
      rcases r1.2 with ⟨h0,_⟩ | ⟨g,cap',cur,h0,_,hgc,hnc,_,hcs',htk⟩
      · simp at h0
      simp only [Value.slice.injEq,Option.some.injEq,Addr.mk.injEq,and_true,true_and] at h0
      obtain ⟨rfl,rfl⟩:=h0
      have htk' : cur.toList.take (L ++ [z]).length = (L ++ [z]).map vI:=by
        rw [List.map_append,List.length_append]
        simpa using htk
      have hra:=RA.row (m:=m) htk'
      have hmem : j ∈ m:=List.mem_of_getElem? hj
      refine ⟨.slice (some ⟨k,0,none⟩) (L.length + 1) cap,_,w',[],H.set k (rowOf (L ++ [z]) ((cur.toList.drop (L ++ [z]).length).map fun v=>.iface 0 v),e),hrun,.slice _ _ _ _ _ _ (by simpa using hj),?_,by simp,
        ⟨r2.os,r2.tape,r2.output,r2.size,fun q hq hqm=>r2.block q hq fun e=>hqm (by cases e; exact hmem)⟩,.inr ⟨k,cap,(cur.toList.drop (L ++ [z]).length).map fun v=>.iface 0 v,by simp,?_,?_,hcm,raws_calm _⟩,fun q b hb hbe=>?_⟩
      · rw [List.append_nil]
        refine ⟨by simp [hH.len],hH.nodup,fun q j2 b hj2 hb=>?_⟩
        by_cases hq : k = q
        · subst hq
          rw [hj] at hj2; cases hj2
          rw [List.getElem?_set_self (List.getElem?_eq_some_iff.1 hk).1] at hb
          cases hb
          exact ⟨cur,by rw [frOf_lit he]; exact hgc,hra⟩
        · rw [List.getElem?_set_ne hq] at hb
          obtain ⟨cs2,hc2,hr2⟩:=hH.blk q j2 b hj2 hb
          refine ⟨cs2,?_,hr2⟩
          rw [r2.block j2 (hH.lt hj2) (fun e=>hq (by cases e; exact nodup_inj hH.nodup hj hj2))]
          exact hc2
      · rw [List.getElem?_set_self (List.getElem?_eq_some_iff.1 hk).1]
      · rw [hra.size,hcs',Nat.mul_one]
      · have hq : k ≠ q:=fun e=>by
          subst e
          rw [hk] at hb
          cases hb
          exact hbe rfl
        rw [List.getElem?_set_ne hq]; exact hb
    · obtain ⟨v4',w',hrun,r1,r2⟩:=run_append_arg_grows (P:=P) w T ty e i (.int .i64 0) 1 8 hT hi hz hsz hby rfl (by decide) ⟨j,0,none⟩ L.length cap (L.map vI) (by simp) (fun q u hu=>by
          rw [Addr.add_lit,Nat.zero_add,cell_of_row w j q cs e (0,0) hc,← Array.getElem?_toList]
          have hq : q < L.length:=by have:=(List.getElem?_eq_some_iff.1 hu).1; simpa using this
          rw [← htake,List.getElem?_take_of_lt hq] at hu
          exact hu) a 1 1 [vI z] (by simp) hnews (by omega) (by simp only [maxLen]; omega) (by omega)
      obtain ⟨v4,n,H4,q⟩:=grown (L.length + 1) v4' w' rfl r1 r2
      exact ⟨v4,v4',w',n,H4,hrun,q⟩
theorem eval_at {t' : Array Value} {d : Nat} {v : Value} (h : t'[d]? = some v) : (act t').eval (.tmp d) = v:=by
  show t'.getD d undef = v
  simp [Array.getD_eq_getD_getElem?,h]
theorem get_put {t' : Array Value} {d : Nat} (v : Value) (h : d < t'.size) : (putA t' (some d) v)[d]? = some v:=by
  simp [putA,h]
theorem get_put_ne {t' : Array Value} {d k : Nat} (v : Value) (h : d ≠ k) : (putA t' (some d) v)[k]? = t'[k]?:=by
  simp [putA,Array.getElem?_setIfInBounds_ne h]
theorem put_size {t' : Array Value} {d : Option Nat} (v : Value) : (putA t' d v).size = t'.size:=by cases d <;> simp [putA]
theorem RA.at' {m : List Nat} {t t' : Array Value} (h : RA m t t') {d : Nat} {v : Value} (hd : t[d]? = some v) : ∃ v',t'[d]? = some v' ∧ VR m v v':=by
  have hlt : d < t'.size:=by rw [← h.size]; exact (Array.getElem?_eq_some_iff.1 hd).1
  exact ⟨t'[d],Array.getElem?_eq_getElem hlt,h.at_ d v _ hd (Array.getElem?_eq_getElem hlt)⟩
theorem oneSlice_run {T e : TypeId} {i : TypeInfo} (hT : P.underlying T = some (.slice e)) (hi : P.info? e = some i) (hz : i.zero = some (.int .i64 0)) (hsz : i.size = 1) {o : Oper} {d2 : Nat} (hp : o.op = .buildSlice T 1 #[(0,.tmp d2)]) {t' : Array Value} {z : I64} (ht : t'[d2]? = some (vI z)) (w : World) :
    (execOp (act t').eval o).run P w = .ok (.value (.slice (some ⟨w.heap.size,0,none⟩) 1 1)) (w.alloc (.cells #[vI z] e)):=by
  have hrun : (Instr.buildSlice T 1 #[(0,vI z)]).run P w = .ok (.slice (some ⟨w.heap.size,0,none⟩) 1 1) (w.alloc (.cells #[vI z] e)):=by
    unfold Instr.buildSlice
    simp [run_underlying hT w,run_sizeOf (P:=P) (T:=e) (n:=1) (by simp [tsize,hi,hsz]) w,run_zeroValue (P:=P) (T:=e) (z:=.int .i64 0) (by simp [tzero,hi,hz]) w,Instr.fill]
    kernel_rfl
  simp only [execOp,hp]
  have e1 : (#[(0,Operand.tmp d2)] : Array (Nat × Operand)).map (fun p=>(p.1,(act t').eval p.2)) = #[(0,vI z)]:=by simp [eval_at ht]
  rw [Sem.run_bind,e1,hrun]
  rfl
theorem Cfg.append {T e : TypeId} {i : TypeInfo} {id : Nat} {o1 o2 o3 o4 o5 : Oper} {d1 d2 d3 d4 s x : Nat} {r : List Item} {t : Array Value} {H : List Blk} {L : List I64} {v : Value} {z : I64}
    (he : e < 1000000) (hT : P.underlying T = some (.slice e)) (hi : P.info? e = some i) (hz : i.zero = some (.int .i64 0)) (hsz : i.size = 1) (hby : i.bytes = 8)
    (p1 : o1.op = .move (.tmp s)) (p2 : o2.op = .move (.tmp x)) (p3 : o3.op = .buildSlice T 1 #[(0,.tmp d2)]) (p4 : o4.op = .call { callee:=.builtin .append,args:=#[.tmp d1,.tmp d3],argTypes:=#[T,T] }) (p5 : o5.op = .assign (.tmp d4))
    (q : [o1,o2,o3,o4,o5].map (fun o=>(o.dst,o.guard)) = [(some d1,none),(some d2,none),(some d3,none),(some d4,none),(some s,none)])
    (hd : [d1,d2,d3,d4,s,x].Nodup) (hin : [d1,d2,d3,d4,s,x].all (fun d=>decide (d < t.size)) = true) (hs : t[s]? = some v) (hx : t[x]? = some (vI z)) (hL : LS e L v H) (hlen : L.length ≤ 1000000)
    (h : ∀ v4 H4,LS e (L ++ [z]) v4 H4 → (∀ (k : Nat) (b : Blk),H[k]? = some b → b.2 ≠ e → H4[k]? = some b) →
      Cfg P f r (putA (putA (putA (putA (putA t (some d1) v) (some d2) (vI z)) (some d3) (.slice (some ⟨H.length,0,none⟩) 1 1)) (some d4) v4) (some s) v4) H4 R) :
    Cfg P f (.code (.region id #[o1,o2,o3,o4,o5] false) :: r) t H R:=by
  simp only [List.map_cons,List.map_nil,List.cons.injEq,Prod.mk.injEq,and_true] at q
  obtain ⟨⟨q1,g1⟩,⟨q2,g2⟩,⟨q3,g3⟩,⟨q4,g4⟩,q5,g5⟩:=q
  simp only [List.all_cons,List.all_nil,Bool.and_eq_true,decide_eq_true_eq,and_true] at hin
  obtain ⟨b1,b2,b3,b4,b5,b6⟩:=hin
  simp only [List.nodup_cons,List.mem_cons,List.not_mem_nil,not_or,or_false] at hd
  obtain ⟨⟨n12,n13,n14,n15,n16⟩,⟨n23,n24,n25,n26⟩,⟨n34,n35,n36⟩,⟨n45,n46⟩,n56,_⟩:=hd
  refine Cfg.region fun m t' w ht hH=>?_
  have hsz':=ht.size
  obtain ⟨v',hs',hv⟩:=ht.at' hs
  obtain ⟨zx,hx',hzx⟩:=ht.at' hx
  have hzx' : zx = vI z:=hzx.eq_of_flat rfl
  subst hzx'
  refine wpList_step g1 (v':=v') (w':=w) (by simp [execOp,p1,eval_at hs']) ?_
  rw [q1]
  have r1:=ht.put hv (some d1)
  refine wpList_step g2 (v':=vI z) (w':=w) (by simp only [execOp,p2]; rw [eval_at (by rw [get_put_ne _ n16]; exact hx')]; rfl) ?_
  rw [q2]
  have r2:=r1.put (VR.pl (vI z) rfl) (some d2)
  refine wpList_step g3 (oneSlice_run hT hi hz hsz p3 (get_put _ (by rw [put_size]; omega)) w) ?_
  rw [q3]
  have hra0 : RA m #[vI z] #[vI z]:=⟨rfl,fun k u u' h1 h2=>by
    rw [h1] at h2; cases h2
    have:=Array.mem_of_getElem? h1
    simp at this
    subst this
    exact .pl _ rfl⟩
  have hH1:=hH.alloc e he hra0
  have r3:=(r2.mono [w.heap.size]).put (v:=.slice (some ⟨H.length,0,none⟩) 1 1) (VR.slice H.length w.heap.size 0 1 1 none (by rw [← hH.len]; simp)) (some d3)
  have hL1 : LS e L v (H ++ [(#[vI z],e)]):=by
    rcases hL with h0 | ⟨k,cap,pad,h1,h2,h3⟩
    · exact .inl h0
    · exact .inr ⟨k,cap,pad,h1,by rw [List.getElem?_append_left (List.getElem?_eq_some_iff.1 h2).1]; exact h2,h3⟩
  obtain ⟨v4,v4',w',n,H4,hrun,k1,k2,k3,k4,k5,k6⟩:=append_run he hT hi hz hsz hby hH1 hL1 (hv.mono _) hlen z o4.type ⟨w.heap.size,0,none⟩ (cell_new w (vI z) e)
  refine wpList_step g4 (v':=v4') (w':=w') (by
    simp only [execOp,p4,resolve,invoke,builtin]
    have e1 : (act (putA (putA (putA t' (some d1) v') (some d2) (vI z)) (some d3) (.slice (some ⟨w.heap.size,0,none⟩) 1 1))).eval (.tmp d1) = v':=eval_at (by rw [get_put_ne _ (Ne.symm n13),get_put_ne _ (Ne.symm n12)]; exact get_put _ (by omega))
    have e2 : (act (putA (putA (putA t' (some d1) v') (some d2) (vI z)) (some d3) (.slice (some ⟨w.heap.size,0,none⟩) 1 1))).eval (.tmp d3) = .slice (some ⟨w.heap.size,0,none⟩) 1 1:=eval_at (get_put _ (by rw [put_size,put_size]; omega))
    simp [e1,e2,hrun,Result.andThen]) ?_
  rw [q4]
  have r4:=(r3.mono n).put k1 (some d4)
  refine wpList_step g5 (v':=v4') (w':=w') (by simp only [execOp,p5]; rw [eval_at (get_put _ (by rw [put_size,put_size,put_size]; omega))]; rfl) ?_
  rw [q5]
  have r5:=r4.put k1 (some s)
  rw [List.append_assoc] at r5
  refine ⟨rfl,[w.heap.size] ++ n,_,_,H4,rfl,r5,by rw [List.append_assoc] at k2; exact k2,fun j hj=>?_,(Kept.alloc m w _).trans k4 (by simp),h v4 H4 k5 fun k b hb hbe=>k6 k b (by rw [List.getElem?_append_left (List.getElem?_eq_some_iff.1 hb).1]; exact hb) hbe⟩
  rcases List.mem_append.1 hj with hj | hj
  · simp at hj; omega
  · have:=k3 j hj
    simp at this
    omega
def appsOf : Code → List Item → List (List Item)
  | .seq a b,r=>appsOf a (.code b :: r) ++ appsOf b r
  | .cond _ x y,r=>appsOf x r ++ appsOf y r
  | .block id body,r=>appsOf body (.inBlock id :: r)
  | .loop body,r=>appsOf body (.inLoop body :: r)
  | .region id ops draw,r=>if ops.toList.any isAppend then [.code (.region id ops draw) :: r] else []
  | _,_=>[]
def appAt (fn : Func) (k : Nat) : List Item:=
  match fn.body with
  | some c=>(appsOf c []).getD k []
  | none=>[]
def appId (td : List Item) : Nat:=
  match td with
  | .code (.region id _ _) :: _=>id
  | _=>0
def appOps (td : List Item) : Array Oper:=
  match td with
  | .code (.region _ ops _) :: _=>ops
  | _=>#[]
theorem Cfg.app {T e : TypeId} {d1 d2 d3 d4 s x : Nat} {td : List Item} {t : Array Value} {H : List Blk} {L : List I64} {v : Value} {z : I64}
    (htd : td = .code (.region (appId td) (appOps td) false) :: td.tail) (hops : (appOps td).toList.map (fun o=>(o.op,o.dst,o.guard)) = [(.move (.tmp s),some d1,none),(.move (.tmp x),some d2,none),(.buildSlice T 1 #[(0,.tmp d2)],some d3,none),
      (.call { callee:=.builtin .append,args:=#[.tmp d1,.tmp d3],argTypes:=#[T,T] },some d4,none),(.assign (.tmp d4),some s,none)])
    (hT : P.underlying T = some (.slice e)) (hi : (P.info? e).map (fun i=>(i.size,i.bytes,i.zero)) = some (1,8,some (.int .i64 0)))
    (hd : [d1,d2,d3,d4,s,x].Nodup) (hin : [d1,d2,d3,d4,s,x].all (fun d=>decide (d < t.size)) = true) (hs : t[s]? = some v) (hx : t[x]? = some (vI z)) (hL : LS e L v H) (hlen : L.length ≤ 1000000)
    (h : ∀ v4 H4,LS e (L ++ [z]) v4 H4 → (∀ (k : Nat) (b : Blk),H[k]? = some b → b.2 ≠ e → H4[k]? = some b) →
      Cfg P f td.tail (putA (putA (putA (putA (putA t (some d1) v) (some d2) (vI z)) (some d3) (.slice (some ⟨H.length,0,none⟩) 1 1)) (some d4) v4) (some s) v4) H4 R) (he : e < 1000000:=by decide) :
    Cfg P f td t H R:=by
  rw [htd]
  generalize appId td = id at *
  generalize hop : appOps td = ops at *
  obtain ⟨l⟩:=ops
  have hl : l.length = 5:=by have:=congrArg List.length hops; simpa using this
  obtain ⟨o1,o2,o3,o4,o5,rfl⟩ : ∃ o1 o2 o3 o4 o5,l = [o1,o2,o3,o4,o5]:=by
    rcases l with _ | ⟨o1,_ | ⟨o2,_ | ⟨o3,_ | ⟨o4,_ | ⟨o5,_ | ⟨o6,l⟩⟩⟩⟩⟩⟩
    case cons.cons.cons.cons.cons.nil=>exact ⟨o1,o2,o3,o4,o5,rfl⟩
    all_goals simp at hl
  simp only [List.map_cons,List.map_nil,List.cons.injEq,Prod.mk.injEq,and_true] at hops
  obtain ⟨⟨p1,q1,g1⟩,⟨p2,q2,g2⟩,⟨p3,q3,g3⟩,⟨p4,q4,g4⟩,p5,q5,g5⟩:=hops
  cases hinf : P.info? e with
  | none=>simp [hinf] at hi
  | some i=>
    simp only [hinf,Option.map_some,Option.some.injEq,Prod.mk.injEq] at hi
    exact Cfg.append he hT hinf hi.2.2 hi.1 hi.2.1 p1 p2 p3 p4 p5 (by simp [q1,q2,q3,q4,q5,g1,g2,g3,g4,g5]) hd hin hs hx hL hlen h
theorem Run.rl {v : Value} {H : List Blk} (h : tr.retOf = some v) (hH : tr.heapOf = H) (hR : R v H) : Run P f R tr:=Run.r h (by rw [hH]; exact hR)
theorem head_same {b : Blk} {X H4 : List Blk} {e : TypeId} (h : ∀ (k : Nat) (c : Blk),(b :: X)[k]? = some c → c.2 ≠ e → H4[k]? = some c) (hb : b.2 ≠ e) : ∃ X4,H4 = b :: X4:=by
  have:=h 0 b rfl hb
  cases H4 with
  | nil=>simp at this
  | cons c X4=>simp at this; subst this; exact ⟨X4,rfl⟩
def Lone (e : TypeId) (L : List I64) (v : Value) (X : List Blk) : Prop:=
  (L = [] ∧ v = .slice none 0 0 ∧ X = []) ∨ ∃ cap pad,v = .slice (some ⟨0,0,some 0⟩) L.length cap ∧ X = [(rowOf L pad,e)] ∧ pad.all calm = true
theorem Lone.ok {e : TypeId} {L : List I64} {v : Value} {X : List Blk} (h : Lone e L v X) : newOk v = true ∧ X.all (fun b=>b.1.toList.all calm) = true:=by
  rcases h with ⟨_,rfl,rfl⟩ | ⟨cap,pad,rfl,rfl,hp⟩
  · exact ⟨rfl,rfl⟩
  · exact ⟨rfl,by simp only [List.all_cons,List.all_nil,Bool.and_true]; exact rowOf_calm hp⟩
theorem FunR.lone {e : TypeId} {L : List I64} {args : Array Value} (h : FunR P f [] args (LS e L)) : FunR P f [] args (Lone e L):=by
  refine ⟨h.1,fun m args' w ha hH=>(h.2 m args' w ha hH).mono ?_⟩
  rintro ex w' ⟨v,v',n,G,rfl,h1,h2,h3,h4,hs⟩
  have hm : m = []:=List.length_eq_zero_iff.1 hH.len
  subst hm
  rw [List.nil_append] at h1 h2
  rcases hs with ⟨rfl,rfl⟩ | ⟨k,cap,pad,rfl,hk,hcap,hcm,hpad⟩
  · refine ⟨.slice none 0 0,v',[],[],rfl,?_,RH.nil _,by simp,h4,.inl ⟨rfl,rfl,rfl⟩⟩
    rw [h1.eq_of_flat rfl]; exact .pl _ rfl
  · cases h1 with
    | pl _ h'=>simp [flat1] at h'
    | slice _ j _ _ _ _ hj=>
    obtain ⟨cs,hc,hr⟩:=h2.blk k j _ hj hk
    refine ⟨.slice (some ⟨0,0,some 0⟩) L.length cap,_,[j],[(rowOf L pad,e)],rfl,.slice _ _ _ _ _ _ rfl,⟨rfl,by simp,fun q j2 b hj2 hb=>?_⟩,fun j2 hj2=>?_,h4,.inr ⟨cap,pad,rfl,rfl,hpad⟩⟩
    · cases q with
      | zero=>
        simp at hj2 hb
        subst hj2; subst hb
        refine ⟨cs,hc,hr.size,fun q u u' e1 e2=>?_⟩
        have hcalm:=List.all_eq_true.1 (rowOf_calm (L:=L) hpad) u (by rw [Array.mem_toList_iff]; exact Array.mem_of_getElem? e1)
        simp only [calm,Bool.or_eq_true] at hcalm
        have h5:=hr.at_ q u u' e1 e2
        rcases hcalm with (hv | hv) | hv
        · have : flat u = true:=by cases u <;> first | exact hv | (simp [flat1] at hv)
          rw [h5.eq_of_flat this]
          exact .pl u hv
        rotate_left
        · rw [h5.eq_of_flat (bare_flat hv)]
          exact VR.refl_of_flat _ (bare_flat hv)
        · cases h5 with
          | pl _ h=>exact .pl _ h
          | raw u'=>exact .raw u'
          | _=>simp [isRaw] at hv
      | succ q=>simp at hj2
    · simp at hj2
      subst hj2
      exact h3 j2 (List.mem_of_getElem? hj)
theorem Run.bl {β : Type} {e : TypeId} {H : List Blk} {x : List I64} {φ : List I64 → β} {gv : β → Value} {g : FuncId} {args : Array Value} (h : tr.callOf = some (g,args)) (hc : tr.isCall = true) (hF : FunR P g [] args (Lone e x)) (ho : args.toList.all flat = true)
    (hn : ∀ r : List I64,r = x → r = [] → Run P f (RvH H (gv (φ r))) (tr.made (.slice none 0 0) []))
    (hk : ∀ r : List I64,r = x → ∀ (cap : Nat) (pad : List Value),Run P f (RvH H (gv (φ r))) (tr.made (.slice (some ⟨0,0,some 0⟩) r.length cap) [(rowOf r pad,e)])) :
    Run P f (RvH H (gv (bindP x φ))) tr:=by
  refine Run.mr h hc hF (fun u X hS=>hS.ok) ho ?_
  rintro u X (⟨hx,rfl,rfl⟩ | ⟨cap,pad,rfl,rfl,_⟩)
  · exact hn x rfl hx
  · exact hk x rfl cap pad
def MB (T : TypeId) (none : Bool) (cells : Array Value) (v : Value) (H : List Blk) : Prop:=
  (none = true ∧ v = .tuple #[.pointer Option.none,.int .i64 1]) ∨ (none = false ∧ ∃ i,v = .tuple #[.pointer (some ⟨i,0,Option.none⟩),.int .i64 0] ∧ H[i]? = some (cells,T))
def MBx (T : TypeId) (none : Bool) (cells : Array Value) (v : Value) (X : List Blk) : Prop:=
  (none = true ∧ v = .tuple #[.pointer Option.none,.int .i64 1] ∧ X = []) ∨ (none = false ∧ v = .tuple #[.pointer (some ⟨0,0,Option.none⟩),.int .i64 0] ∧ X = [(cells,T)])
theorem FunR.mb {T : TypeId} {none : Bool} {cells : Array Value} {args : Array Value} (hfl : cells.toList.all flat1 = true) (h : FunR P f [] args (MB T none cells)) : FunR P f [] args (MBx T none cells):=by
  refine ⟨h.1,fun m args' w ha hH=>(h.2 m args' w ha hH).mono ?_⟩
  rintro ex w' ⟨v,v',n,G,rfl,h1,h2,h3,h4,hs⟩
  have hm : m = []:=List.length_eq_zero_iff.1 hH.len
  subst hm
  rw [List.nil_append] at h1 h2
  rcases hs with ⟨hn,rfl⟩ | ⟨hn,k,rfl,hk⟩
  · refine ⟨_,v',[],[],rfl,?_,RH.nil _,by simp,h4,.inl ⟨hn,rfl,rfl⟩⟩
    rw [h1.eq_of_flat rfl]
    exact VR.refl_of_flat _ rfl
  · cases h1 with
    | pl _ h'=>simp [flat1] at h'
    | tuple _ vs' hsz hel=>
    have hs2 : vs'.size = 2:=by rw [← hsz]; rfl
    have e0:=hel 0 _ vs'[0] rfl (Array.getElem?_eq_getElem (by omega))
    have e1:=hel 1 _ vs'[1] rfl (Array.getElem?_eq_getElem (by omega))
    generalize hp : vs'[0] = p at e0
    cases e0 with
    | pl _ h'=>simp [flat1] at h'
    | ptr _ j _ _ hj=>
    obtain ⟨cs,hc,hr⟩:=h2.blk k j _ hj hk
    have hv : vs'[1] = .int .i64 0:=e1.eq_of_flat rfl
    refine ⟨.tuple #[.pointer (some ⟨0,0,Option.none⟩),.int .i64 0],.tuple vs',[j],[(cells,T)],rfl,.tuple _ _ (by rw [hs2]; rfl) fun q u u' k1 k2=>?_,⟨rfl,by simp,fun q j2 b hj2 hb=>?_⟩,fun j2 hj2=>?_,h4,.inr ⟨hn,rfl,rfl⟩⟩
    · have hq : q < 2:=(Array.getElem?_eq_some_iff.1 k1).1
      have : q = 0 ∨ q = 1:=by omega
      rcases this with rfl | rfl
      · rw [Array.getElem?_eq_getElem (by omega),hp] at k2
        cases k1; cases k2
        exact .ptr 0 j 0 Option.none rfl
      · rw [Array.getElem?_eq_getElem (by omega),hv] at k2
        cases k1; cases k2
        exact .pl _ rfl
    · cases q with
      | zero=>
        simp at hj2 hb
        subst hj2; subst hb
        refine ⟨cs,hc,hr.size,fun q u u' e1 e2=>?_⟩
        have hfu:=all_flat1_at hfl e1
        have : flat u = true:=by cases u <;> first | exact hfu | (simp [flat1] at hfu)
        rw [(hr.at_ q u u' e1 e2).eq_of_flat this]
        exact .pl u hfu
      | succ q=>simp at hj2
    · simp at hj2
      subst hj2
      exact h3 j2 (List.mem_of_getElem? hj)
def FO (T : TypeId) (fn : Fn) (cell : Value) (v : Value) (H : List Blk) : Prop:=∃ i,v = .func fn #[] #[.pointer (some ⟨i,0,Option.none⟩)] ∧ H[i]? = some (#[cell],T)
theorem FunR.fo {T : TypeId} {fn : Fn} {cell : Value} {args : Array Value} (hfl : flat cell = true) (h : FunR P f [] args (FO T fn cell)) : Fun P f [] args (.func fn #[] #[.pointer (some ⟨0,0,Option.none⟩)]) [(#[cell],T)]:=by
  refine ⟨h.1,fun m args' w ha hH=>(h.2 m args' w ha hH).mono ?_⟩
  rintro ex w' ⟨v,v',n,G,rfl,h1,h2,h3,h4,k,rfl,hk⟩
  have hm : m = []:=List.length_eq_zero_iff.1 hH.len
  subst hm
  rw [List.nil_append] at h1 h2
  cases h1 with
  | pl _ h'=>simp [flat1] at h'
  | func _ _ a' _ c' hsa hsc _ hel=>
  have ea : a' = #[]:=Array.eq_empty_of_size_eq_zero hsa.symm
  subst ea
  have hs1 : c'.size = 1:=by rw [← hsc]; rfl
  have e0:=hel 0 _ c'[0] rfl (Array.getElem?_eq_getElem (by omega))
  generalize hp : c'[0] = p at e0
  cases e0 with
  | pl _ h'=>simp [flat1] at h'
  | ptr _ j _ _ hj=>
  obtain ⟨cs,hc,hr⟩:=h2.blk k j _ hj hk
  refine ⟨.func fn #[] c',[j],rfl,.func _ _ _ _ _ rfl (by rw [hs1]; rfl) (fun q u u' k1 _=>by simp at k1) (fun q u u' k1 k2=>?_),⟨rfl,by simp,fun q j2 b hj2 hb=>?_⟩,fun j2 hj2=>?_,h4⟩
  · have hq : q < 1:=(Array.getElem?_eq_some_iff.1 k1).1
    have : q = 0:=by omega
    subst this
    rw [Array.getElem?_eq_getElem (by omega),hp] at k2
    cases k1; cases k2
    exact .ptr 0 j 0 Option.none rfl
  · cases q with
    | zero=>
      simp at hj2 hb
      subst hj2; subst hb
      refine ⟨cs,hc,hr.size,fun q u u' e1 e2=>?_⟩
      have hq : q < 1:=(Array.getElem?_eq_some_iff.1 e1).1
      have : q = 0:=by omega
      subst this
      have : u = cell:=by cases e1; rfl
      subst this
      rw [(hr.at_ 0 u u' e1 e2).eq_of_flat hfl]
      exact VR.refl_of_flat _ hfl
    | succ q=>simp at hj2
  · simp at hj2
    subst hj2
    exact h3 j2 (List.mem_of_getElem? hj)
theorem Run.gb {α β : Type} {e : α → Value} {x : α} {φ : α → β} {Rg : β → Value → List Blk → Prop} {g : FuncId} {args : Array Value} (h : tr.callOf = some (g,args)) (ho : args.toList.all flat = true) (hF : Fun P g [] args (e x) []) (hu : ∀ r,flat (e r) = true)
    (hk : ∀ r : α,r = x → Run P f (Rg (φ r)) (tr.after (e r))) : Run P f (Rg (bindP x φ)) tr:=Run.c h ho hF (hu x) (hk x rfl)
theorem Run.gs {α β : Type} {e : α → Value} {x : α} {φ : α → β} {Rg : β → Value → List Blk → Prop} {g : FuncId} {args : Array Value} {H0 : List Blk} (sel : List Nat) (h : tr.callOf = some (g,(args.toList.map (renum sel)).toArray)) (hs : tr.seen sel = some H0) (hc : H0.all (fun b=>b.1.toList.all flat) = true) (hn : sel.Nodup)
    (ho : args.toList.all (argOk sel.length) = true) (hF : Fun P g H0 args (e x) H0) (hu : ∀ r,flat (e r) = true) (hk : ∀ r : α,r = x → Run P f (Rg (φ r)) (tr.after (e r))) : Run P f (Rg (bindP x φ)) tr:=
  Run.s sel H0 h hs hc hn ho hF (hu x) (hk x rfl)
theorem Run.gj {β : Type} {c : Bool} {x y : β} {Rg : β → Value → List Blk → Prop} (h : tr.cond = some c) (ha : c = true → Run P f (Rg x) tr.yes) (hb : c = false → Run P f (Rg y) tr.no) : Run P f (Rg (cond c x y)) tr:=by
  cases c
  · exact Run.n h (hb rfl)
  · exact Run.t h (ha rfl)
theorem Run.gq {α β : Type} {e : α → Value} {x : α} {φ : α → β} {Rg : β → Value → List Blk → Prop} {g : FuncId} {args : Array Value} (hF : Fun P g [] args (e x) []) (hk : ∀ r : α,r = x → Run P f (Rg (φ r)) (tr.after (e r)))
    (h : tr.callOf = some (g,args):=by kernel_rfl) (ho : args.toList.all flat = true:=by kernel_rfl) (hu : ∀ r,flat (e r) = true:=by exact fun _=>rfl) : Run P f (Rg (bindP x φ)) tr:=Run.gb h ho hF hu hk
theorem Run.gy {β : Type} {c : Bool} {x y : β} {Rg : β → Value → List Blk → Prop} (ha : c = true → Run P f (Rg x) tr.yes) (hb : c = false → Run P f (Rg y) tr.no) (h : tr.cond = some c:=by kernel_rfl) : Run P f (Rg (cond c x y)) tr:=Run.gj h ha hb
end Go.Proofs.YtfhnlkinjbakgaaGreat.Abs
