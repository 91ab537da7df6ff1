/- The abstract machine, first part: values up to the numbers of blocks, worlds that hold given blocks, what a pure operation gives. -/
import Derived.KernelRfl
import Derived.Below
import Derived.Deep.Quiet
import Derived.StillTail
import Derived.Laws.Rows
namespace Go.Proofs.YtfhnlkinjbakgaaGreat.Abs
open Go Go.RowKit
abbrev Blk:=Array Value × TypeId
def flat1 : Value → Bool
  | .bool _ | .int _ _ | .float _ _ | .complex _ _ _ | .string _ | .pointer none | .slice none _ _ | .map none | .chan none | .nilFunc | .nilIface=>true
  | _=>false
def flat : Value → Bool
  | .agg cs=>cs.toList.all flat1
  | .tuple vs=>vs.toList.all fun v=>match v with | .agg cs=>cs.toList.all flat1 | v=>flat1 v
  | .func _ first captured=>first.size == 0 && captured.size == 0
  | v=>flat1 v
def isRaw : Value → Bool
  | .iface _ _=>true
  | _=>false
inductive VR (m : List Nat) : Value → Value → Prop
  | pl (v : Value) (h : flat1 v = true) : VR m v v
  | ptr (i j o : Nat) (s : Option Nat) (h : m[i]? = some j) : VR m (.pointer (some ⟨i,o,s⟩)) (.pointer (some ⟨j,o,none⟩))
  | slice (i j o l c : Nat) (s : Option Nat) (h : m[i]? = some j) : VR m (.slice (some ⟨i,o,s⟩) l c) (.slice (some ⟨j,o,none⟩) l c)
  | raw (v' : Value) : VR m (.iface 0 v') v'
  | func (fn : Fn) (a a' c c' : Array Value) (ha : a.size = a'.size) (hc : c.size = c'.size)
      (h1 : ∀ (i : Nat) (v v' : Value),a[i]? = some v → a'[i]? = some v' → VR m v v')
      (h2 : ∀ (i : Nat) (v v' : Value),c[i]? = some v → c'[i]? = some v' → VR m v v') : VR m (.func fn a c) (.func fn a' c')
  | agg (a a' : Array Value) (ha : a.size = a'.size)
      (h1 : ∀ (i : Nat) (v v' : Value),a[i]? = some v → a'[i]? = some v' → VR m v v') : VR m (.agg a) (.agg a')
  | tuple (a a' : Array Value) (ha : a.size = a'.size)
      (h1 : ∀ (i : Nat) (v v' : Value),a[i]? = some v → a'[i]? = some v' → VR m v v') : VR m (.tuple a) (.tuple a')
theorem VR.ptr_inv {m : List Nat} {i j o p : Nat} {s : Option Nat} (h : VR m (.pointer (some ⟨i,o,s⟩)) (.pointer (some ⟨j,p,none⟩))) : m[i]? = some j ∧ p = o:=by
  cases h with
  | pl _ h'=>simp [flat1] at h'
  | ptr _ _ _ _ hj=>exact ⟨hj,rfl⟩
structure RA (m : List Nat) (a a' : Array Value) : Prop where
  size : a.size = a'.size
  at_ : ∀ (i : Nat) (v v' : Value),a[i]? = some v → a'[i]? = some v' → VR m v v'
theorem VR.mk_agg {m : List Nat} {a a' : Array Value} (h : RA m a a') : VR m (.agg a) (.agg a'):=.agg a a' h.size h.at_
theorem VR.undef (m : List Nat) : VR m Go.undef Go.undef:=.tuple #[] #[] rfl (by intro i v v' h; simp at h)
theorem VR.mono {m : List Nat} (n : List Nat) {v v' : Value} (h : VR m v v') : VR (m ++ n) v v':=by
  induction h with
  | pl v h=>exact .pl v h
  | ptr i j o s h=>exact .ptr i j o s (by rw [List.getElem?_append_left (List.getElem?_eq_some_iff.1 h).1]; exact h)
  | slice i j o l c s h=>exact .slice i j o l c s (by rw [List.getElem?_append_left (List.getElem?_eq_some_iff.1 h).1]; exact h)
  | raw v'=>exact .raw v'
  | func fn a a' c c' ha hc _ _ ih1 ih2=>exact .func fn a a' c c' ha hc ih1 ih2
  | agg a a' ha _ ih=>exact .agg a a' ha ih
  | tuple a a' ha _ ih=>exact .tuple a a' ha ih
theorem RA.mono {m : List Nat} (n : List Nat) {a a' : Array Value} (h : RA m a a') : RA (m ++ n) a a':=⟨h.size,fun i v v' h1 h2=>(h.at_ i v v' h1 h2).mono n⟩
theorem array_ext_of {a a' : Array Value} (hs : a.size = a'.size) (h : ∀ (i : Nat) (v v' : Value),a[i]? = some v → a'[i]? = some v' → v = v') : a = a':=by
  apply Array.ext_getElem?
  intro i
  by_cases hi : i < a.size
  · have hi' : i < a'.size:=hs ▸ hi
    rw [Array.getElem?_eq_getElem hi,Array.getElem?_eq_getElem hi']
    exact congrArg some (h i _ _ (Array.getElem?_eq_getElem hi) (Array.getElem?_eq_getElem hi'))
  · rw [Array.getElem?_eq_none (by omega),Array.getElem?_eq_none (by omega)]
theorem VR.fn {m : List Nat} {v a : Value} (h : VR m v a) : ∀ {b : Value},VR m v b → a = b:=by
  induction h with
  | pl v h=>intro b hb; cases hb <;> first | rfl | (simp [flat1] at h)
  | ptr i j o s h=>intro b hb; cases hb with | pl _ h'=>simp [flat1] at h' | ptr _ j' _ _ h'=>rw [h] at h'; cases h'; rfl
  | slice i j o l c s h=>intro b hb; cases hb with | pl _ h'=>simp [flat1] at h' | slice _ j' _ _ _ _ h'=>rw [h] at h'; cases h'; rfl
  | raw v'=>intro b hb; cases hb with | pl _ h'=>simp [flat1] at h' | raw _=>rfl
  | func fn a a' c c' ha hc h1 h2 ih1 ih2=>
    intro b hb
    cases hb with
    | pl _ h'=>simp [flat1] at h'
    | func _ _ a2 _ c2 ha2 hc2 k1 k2=>
      have e1 : a' = a2:=array_ext_of (ha.symm.trans ha2) fun i v v' x y=>by
        have hi : i < a.size:=by rw [ha]; exact (Array.getElem?_eq_some_iff.1 x).1
        exact ih1 i _ _ (Array.getElem?_eq_getElem hi) x (k1 i _ _ (Array.getElem?_eq_getElem hi) y)
      have e2 : c' = c2:=array_ext_of (hc.symm.trans hc2) fun i v v' x y=>by
        have hi : i < c.size:=by rw [hc]; exact (Array.getElem?_eq_some_iff.1 x).1
        exact ih2 i _ _ (Array.getElem?_eq_getElem hi) x (k2 i _ _ (Array.getElem?_eq_getElem hi) y)
      rw [e1,e2]
  | agg a a' ha h1 ih1=>
    intro b hb
    cases hb with
    | pl _ h'=>simp [flat1] at h'
    | agg _ a2 ha2 k1=>
      have e1 : a' = a2:=array_ext_of (ha.symm.trans ha2) fun i v v' x y=>by
        have hi : i < a.size:=by rw [ha]; exact (Array.getElem?_eq_some_iff.1 x).1
        exact ih1 i _ _ (Array.getElem?_eq_getElem hi) x (k1 i _ _ (Array.getElem?_eq_getElem hi) y)
      rw [e1]
  | tuple a a' ha h1 ih1=>
    intro b hb
    cases hb with
    | pl _ h'=>simp [flat1] at h'
    | tuple _ a2 ha2 k1=>
      have e1 : a' = a2:=array_ext_of (ha.symm.trans ha2) fun i v v' x y=>by
        have hi : i < a.size:=by rw [ha]; exact (Array.getElem?_eq_some_iff.1 x).1
        exact ih1 i _ _ (Array.getElem?_eq_getElem hi) x (k1 i _ _ (Array.getElem?_eq_getElem hi) y)
      rw [e1]
theorem all_flat1_at {cs : Array Value} (h : cs.toList.all flat1 = true) {i : Nat} {v : Value} (hv : cs[i]? = some v) : flat1 v = true:=by
  have:=List.all_eq_true.1 h v
  exact this (by rw [Array.mem_toList_iff]; exact Array.mem_of_getElem? hv)
theorem VR.refl_of_flat (m : List Nat) : ∀ {v : Value},flat v = true → VR m v v:=by
  intro v h
  cases v with
  | agg cs=>exact .agg cs cs rfl fun i v v' h1 h2=>by rw [h1] at h2; cases h2; exact .pl _ (all_flat1_at h h1)
  | tuple vs=>
    refine .tuple vs vs rfl fun i v v' h1 h2=>?_
    rw [h1] at h2; cases h2
    have hv:=List.all_eq_true.1 h v (by rw [Array.mem_toList_iff]; exact Array.mem_of_getElem? h1)
    cases v with
    | agg cs=>exact .agg cs cs rfl fun i v v' h1 h2=>by rw [h1] at h2; cases h2; exact .pl _ (all_flat1_at hv h1)
    | _=>exact .pl _ hv
  | func fn a c=>
    simp only [flat,Bool.and_eq_true,beq_iff_eq] at h
    refine .func fn a a c c rfl rfl (fun i v v' h1 _=>?_) (fun i v v' h1 _=>?_)
    · rw [Array.getElem?_eq_none (by omega)] at h1; cases h1
    · rw [Array.getElem?_eq_none (by omega)] at h1; cases h1
  | _=>exact .pl _ h
theorem VR.eq_of_flat {m : List Nat} {v v' : Value} (hf : flat v = true) (h : VR m v v') : v' = v:=h.fn (VR.refl_of_flat m hf)
theorem nodup_inj : ∀ {l : List Nat} (_ : l.Nodup) {i j a : Nat},l[i]? = some a → l[j]? = some a → i = j
  | [],_,i,j,a,h,_=>by simp at h
  | x :: l,hn,i,j,a,hi,hj=>by
    have hn':=List.nodup_cons.1 hn
    cases i with
    | zero=>
      cases j with
      | zero=>rfl
      | succ j=>simp at hi hj; subst hi; exact absurd (List.mem_of_getElem? hj) hn'.1
    | succ i=>
      cases j with
      | zero=>simp at hi hj; subst hj; exact absurd (List.mem_of_getElem? hi) hn'.1
      | succ j=>simp at hi hj; rw [nodup_inj hn'.2 hi hj]
theorem nodup_of_inj : ∀ {l : List Nat} (_ : ∀ i j a : Nat,l[i]? = some a → l[j]? = some a → i = j),l.Nodup
  | [],_=>List.nodup_nil
  | x :: l,h=>List.nodup_cons.2 ⟨fun hx=>by
      obtain ⟨k,hk,e⟩:=List.getElem_of_mem hx
      have:=h 0 (k + 1) x (by simp) (by simp [List.getElem?_eq_getElem hk,e])
      omega,nodup_of_inj fun i j a hi hj=>by have:=h (i + 1) (j + 1) a (by simpa using hi) (by simpa using hj); omega⟩
def pairAt : Nat → Nat × Nat
  | 0=>(0,0)
  | n + 1=>match pairAt n with
    | (0,b)=>(b + 1,0)
    | (a + 1,b)=>(a,b + 1)
theorem pairAt_all : ∀ (s b : Nat),b ≤ s → ∃ n,pairAt n = (s - b,b):=by
  intro s
  induction s with
  | zero=>intro b hb; exact ⟨0,by have : b = 0:=by omega
                                  subst this; rfl⟩
  | succ s ih=>
    intro b
    induction b with
    | zero=>
      intro _
      obtain ⟨n,hn⟩:=ih s (Nat.le_refl _)
      refine ⟨n + 1,?_⟩
      rw [Nat.sub_self] at hn
      simp only [pairAt,hn,Nat.sub_zero]
    | succ b ihb=>
      intro hb
      obtain ⟨n,hn⟩:=ihb (by omega)
      refine ⟨n + 1,?_⟩
      rw [show s + 1 - b = (s + 1 - (b + 1)) + 1 by omega] at hn
      simp only [pairAt,hn]
def frOf (n : TypeId) : TypeId × (Nat × Nat):=if n < 1000000 then (n,(0,0)) else ((pairAt (n - 1000000)).1,pairAt (pairAt (n - 1000000)).2)
theorem frOf_lit {T : TypeId} (h : T < 1000000) : frOf T = (T,(0,0)):=if_pos h
theorem frOf_all (T : TypeId) (fr : Nat × Nat) : ∃ n,frOf n = (T,fr):=by
  obtain ⟨a,b⟩:=fr
  obtain ⟨x,hx⟩:=pairAt_all (a + b) b (by omega)
  rw [Nat.add_sub_cancel] at hx
  obtain ⟨y,hy⟩:=pairAt_all (T + x) x (by omega)
  rw [Nat.add_sub_cancel] at hy
  refine ⟨1000000 + y,?_⟩
  unfold frOf
  rw [if_neg (show ¬ 1000000 + y < 1000000 by omega),Nat.add_sub_cancel_left,hy]
  simp only [hx]
structure RH (m : List Nat) (H : List Blk) (w : World) : Prop where
  len : m.length = H.length
  nodup : m.Nodup
  blk : ∀ (i j : Nat) (b : Blk),m[i]? = some j → H[i]? = some b → ∃ cs,w.heap[j]? = some (.cells cs (frOf b.2).1 (frOf b.2).2) ∧ RA m b.1 cs
structure Kept (m : List Nat) (w w' : World) : Prop where
  os : w'.os = w.os
  tape : w'.tape = w.tape
  output : w'.output = w.output
  size : w.heap.size ≤ w'.heap.size
  block : ∀ k,k < w.heap.size → k ∉ m → w'.heap[k]? = w.heap[k]?
theorem Kept.refl (m : List Nat) (w : World) : Kept m w w:=⟨rfl,rfl,rfl,Nat.le_refl _,fun _ _ _=>rfl⟩
theorem Kept.trans {m n : List Nat} {a b c : World} (h : Kept m a b) (k : Kept (m ++ n) b c) (hn : ∀ j ∈ n,a.heap.size ≤ j) : Kept m a c:=
  ⟨k.os.trans h.os,k.tape.trans h.tape,k.output.trans h.output,Nat.le_trans h.size k.size,fun i hi hm=>
    (k.block i (Nat.lt_of_lt_of_le hi h.size) (by
      intro hx
      rcases List.mem_append.1 hx with hx | hx
      · exact hm hx
      · have:=hn i hx; omega)).trans (h.block i hi hm)⟩
theorem Kept.of_below {m : List Nat} {w w' : World} (h : Below w.heap.size w w') : Kept m w w':=⟨h.os,h.tape,h.output,h.size,fun k hk _=>h.block k hk⟩
theorem RH.lt {m : List Nat} {H : List Blk} {w : World} (h : RH m H w) {i j : Nat} (hj : m[i]? = some j) : j < w.heap.size:=by
  have hi : i < H.length:=by rw [← h.len]; exact (List.getElem?_eq_some_iff.1 hj).1
  obtain ⟨cs,hc,_⟩:=h.blk i j _ hj (List.getElem?_eq_getElem hi)
  exact (Array.getElem?_eq_some_iff.1 hc).1
theorem RH.lt_of_mem {m : List Nat} {H : List Blk} {w : World} (h : RH m H w) {j : Nat} (hj : j ∈ m) : j < w.heap.size:=by
  obtain ⟨i,hi,rfl⟩:=List.getElem_of_mem hj
  exact h.lt (List.getElem?_eq_getElem hi)
theorem RH.below {m : List Nat} {H : List Blk} {w w' : World} (h : RH m H w) (hb : Below w.heap.size w w') : RH m H w':=
  ⟨h.len,h.nodup,fun i j b hj hb'=>by
    obtain ⟨cs,hc,hr⟩:=h.blk i j b hj hb'
    exact ⟨cs,by rw [hb.block j (h.lt hj)]; exact hc,hr⟩⟩
theorem RH.below_of {m : List Nat} {H : List Blk} {w w' : World} (h : RH m H w) (h' : RH m H w') (k : Kept m w w') : Below w.heap.size w w':=
  ⟨k.os,k.tape,k.output,k.size,fun j hj=>by
    by_cases hm : j ∈ m
    · obtain ⟨i,hi,rfl⟩:=List.getElem_of_mem hm
      have hiH : i < H.length:=by rw [← h.len]; exact hi
      obtain ⟨cs,hc,hr⟩:=h.blk i _ _ (List.getElem?_eq_getElem hi) (List.getElem?_eq_getElem hiH)
      obtain ⟨cs',hc',hr'⟩:=h'.blk i _ _ (List.getElem?_eq_getElem hi) (List.getElem?_eq_getElem hiH)
      have e : cs = cs':=by
        have q:=VR.fn (VR.mk_agg hr) (VR.mk_agg hr')
        injection q
      rw [hc,hc',e]
    · exact k.block j hj hm⟩
theorem RH.nil (w : World) : RH [] [] w:=⟨rfl,List.nodup_nil,fun i j b h=>by simp at h⟩
theorem RH.alloc {m : List Nat} {H : List Blk} {w : World} (h : RH m H w) {cs cs' : Array Value} (T : TypeId) (hT : T < 1000000) (hr : RA m cs cs') :
    RH (m ++ [w.heap.size]) (H ++ [(cs,T)]) (w.alloc (.cells cs' T)):=by
  refine ⟨by simp [h.len],?_,fun i j b hj hb=>?_⟩
  · rw [List.nodup_append]
    refine ⟨h.nodup,by simp,fun a ha b hb=>?_⟩
    simp at hb
    have:=h.lt_of_mem ha
    omega
  · by_cases hi : i < m.length
    · rw [List.getElem?_append_left hi] at hj
      rw [List.getElem?_append_left (by rw [← h.len]; exact hi)] at hb
      obtain ⟨cs2,hc,hr2⟩:=h.blk i j b hj hb
      exact ⟨cs2,by rw [heap_alloc_old _ _ _ (h.lt hj)]; exact hc,hr2.mono _⟩
    · have hi' : i = m.length:=by
        have:=(List.getElem?_eq_some_iff.1 hj).1
        simp at this; omega
      subst hi'
      rw [List.getElem?_append_right (Nat.le_refl _)] at hj
      rw [List.getElem?_append_right (by rw [h.len]; exact Nat.le_refl _)] at hb
      simp at hj
      simp [h.len] at hb
      subst hj; subst hb
      exact ⟨cs',by rw [frOf_lit hT]; exact heap_alloc_new w _,hr.mono _⟩
theorem Kept.alloc (m : List Nat) (w : World) (o : Obj) : Kept m w (w.alloc o):=
  ⟨rfl,rfl,rfl,by simp,fun k hk _=>heap_alloc_old w o k hk⟩
theorem RH.setRow {m : List Nat} {H : List Blk} {w : World} (h : RH m H w) {i j : Nat} {b : Blk} (hj : m[i]? = some j) (hb : H[i]? = some b) {cs cs' : Array Value} (hr : RA m cs cs') :
    RH m (H.set i (cs,b.2)) (w.setRow j cs'):=by
  refine ⟨by simp [h.len],h.nodup,fun i2 j2 b2 hj2 hb2=>?_⟩
  obtain ⟨old,ho,_⟩:=h.blk i j b hj hb
  by_cases e : i = i2
  · subst e
    rw [hj] at hj2; cases hj2
    have hlt : i < H.length:=(List.getElem?_eq_some_iff.1 hb).1
    rw [List.getElem?_set_self hlt] at hb2
    cases hb2
    exact ⟨cs',setRow_heap w j old cs' (frOf b.2).1 (frOf b.2).2 ho,hr⟩
  · rw [List.getElem?_set_ne e] at hb2
    obtain ⟨cs2,hc2,hr2⟩:=h.blk i2 j2 b2 hj2 hb2
    refine ⟨cs2,?_,hr2⟩
    have hne : j2 ≠ j:=by
      intro e2
      subst e2
      exact e (nodup_inj h.nodup hj hj2)
    simp only [World.setRow,Array.getElem?_modify]
    rw [if_neg (Ne.symm hne)]
    exact hc2
theorem Kept.setRow {m : List Nat} {w : World} {j : Nat} (hj : j ∈ m) (cs : Array Value) : Kept m w (w.setRow j cs):=
  ⟨rfl,rfl,rfl,by simp,fun k _ hm=>by
    simp only [World.setRow,Array.getElem?_modify]
    rw [if_neg (fun e : j = k=>hm (e ▸ hj))]⟩
def prun (P : Program) {α : Type} : Sem α → Option α
  | .pure a=>some a
  | .program k=>prun P (k P)
  | .mark _ k=>prun P k
  | _=>none
theorem prun_run {P : Program} {α : Type} {s : Sem α} {a : α} (h : prun P s = some a) (w : World) : s.run P w = .ok a w:=by
  induction s with
  | pure b=>simp only [prun,Option.some.injEq] at h; subst h; rfl
  | program k ih=>exact ih P h
  | mark q k ih=>exact ih h
  | _=>simp [prun] at h
end Go.Proofs.YtfhnlkinjbakgaaGreat.Abs
