/- The abstract machine, first part; what is known of the package variables. -/
import Derived.KernelRfl
import Derived.Below
import Derived.Deep.Quiet
import Derived.StillTail
import Derived.Laws.Rows
import Derived.Lib.AppendIntMem
import Derived.Test.YtfhnlkinjbakgaaGreatDoorProg
namespace Go.Proofs.YtfhnlkinjbakgaaGreatDoor.Abs
open Go Go.RowKit
set_option linter.unusedVariables false
def G0 : Nat:=10
def Sat (w : World) : Prop := Lib.TabIs Tryz.prog w "internal/strconv.uint64pow10" .u64 Lib.pow10Tab ∧ ((∃ tp p, w.var? Tryz.prog "strconv.ErrSyntax" = some #[.iface tp p]) ∧ ∃ tp p, w.var? Tryz.prog "strconv.ErrRange" = some #[.iface tp p]) ∧ ∃ m, w.cell? ⟨0, 0, none⟩ = some (.int .i64 m)
def Inv (w : World) : Prop:=G0 ≤ w.heap.size ∧ Sat w
theorem Inv.low {w : World} (h : Inv w) : G0 ≤ w.heap.size:=h.1
theorem var_of {w w' : World} {n : String} {g : Nat} (hg : Tryz.prog.globalNamed n = some g) (hk : w'.heap[g]? = w.heap[g]?) : w'.var? Tryz.prog n = w.var? Tryz.prog n:=by
  unfold World.var?
  rw [hg]
  simp only [Option.bind_some,hk]
theorem Inv.keep {w w' : World} (h : Inv w) (hs : w.heap.size ≤ w'.heap.size) (hk : ∀ j,j < G0 → w'.heap[j]? = w.heap[j]?) : Inv w':=by
  obtain ⟨h0,h1,⟨⟨t1,p1,h2⟩,t2,p2,h3⟩,m,h4⟩:=h
  have k1:=hk 1 (by decide)
  have k2:=hk 2 (by decide)
  have k5:=hk 5 (by decide)
  have k0:=hk 0 (by decide)
  refine ⟨Nat.le_trans h0 hs,?_,⟨⟨t1,p1,?_⟩,t2,p2,?_⟩,m,?_⟩
  · unfold Lib.TabIs at h1 ⊢
    rw [var_of (g:=5) (by kernel_rfl) k5]
    exact h1
  · rw [var_of (g:=1) (by kernel_rfl) k1]; exact h2
  · rw [var_of (g:=2) (by kernel_rfl) k2]; exact h3
  · rw [← h4]
    unfold World.cell?
    simp only [k0]
theorem Inv.below {w w' : World} (h : Inv w) (hb : Below w.heap.size w w') : Inv w':=h.keep hb.size fun j hj=>hb.block j (Nat.lt_of_lt_of_le hj h.low)
end Go.Proofs.YtfhnlkinjbakgaaGreatDoor.Abs
namespace Go.Proofs.YtfhnlkinjbakgaaGreatDoor.Abs
open Go Go.RowKit
abbrev Blk:=Array Value × TypeId
def flat1 : Value → Bool
  | .bool _ | .int _ _ | .float _ _ | .complex _ _ _ | .string _ | .pointer none | .slice none _ _ | .map none | .chan none | .nilFunc | .nilIface=>true
  | _=>false
def flat : Value → Bool
  | .agg cs=>cs.toList.all flat1
  | .tuple vs=>vs.toList.all fun v=>match v with | .agg cs=>cs.toList.all flat1 | v=>flat1 v
  | .func _ first captured=>first.size == 0 && captured.size == 0
  | v=>flat1 v
def isRaw : Value → Bool
  | .iface _ _=>true
  | _=>false
inductive VR (m : List Nat) : Value → Value → Prop
  | pl (v : Value) (h : flat1 v = true) : VR m v v
  | ptr (i j o : Nat) (s : Option Nat) (h : m[i]? = some j) : VR m (.pointer (some ⟨i,o,s⟩)) (.pointer (some ⟨j,o,none⟩))
  | slice (i j o l c : Nat) (s : Option Nat) (h : m[i]? = some j) : VR m (.slice (some ⟨i,o,s⟩) l c) (.slice (some ⟨j,o,none⟩) l c)
  | raw (v' : Value) : VR m (.iface 0 v') v'
  | func (fn : Fn) (a a' c c' : Array Value) (ha : a.size = a'.size) (hc : c.size = c'.size)
      (h1 : ∀ (i : Nat) (v v' : Value),a[i]? = some v → a'[i]? = some v' → VR m v v')
      (h2 : ∀ (i : Nat) (v v' : Value),c[i]? = some v → c'[i]? = some v' → VR m v v') : VR m (.func fn a c) (.func fn a' c')
  | agg (a a' : Array Value) (ha : a.size = a'.size)
      (h1 : ∀ (i : Nat) (v v' : Value),a[i]? = some v → a'[i]? = some v' → VR m v v') : VR m (.agg a) (.agg a')
  | tuple (a a' : Array Value) (ha : a.size = a'.size)
      (h1 : ∀ (i : Nat) (v v' : Value),a[i]? = some v → a'[i]? = some v' → VR m v v') : VR m (.tuple a) (.tuple a')
theorem VR.ptr_inv {m : List Nat} {i j o p : Nat} {s : Option Nat} (h : VR m (.pointer (some ⟨i,o,s⟩)) (.pointer (some ⟨j,p,none⟩))) : m[i]? = some j ∧ p = o:=by
  cases h with
  | pl _ h'=>simp [flat1] at h'
  | ptr _ _ _ _ hj=>exact ⟨hj,rfl⟩
structure RA (m : List Nat) (a a' : Array Value) : Prop where
  size : a.size = a'.size
  at_ : ∀ (i : Nat) (v v' : Value),a[i]? = some v → a'[i]? = some v' → VR m v v'
theorem VR.mk_agg {m : List Nat} {a a' : Array Value} (h : RA m a a') : VR m (.agg a) (.agg a'):=.agg a a' h.size h.at_
theorem VR.undef (m : List Nat) : VR m Go.undef Go.undef:=.tuple #[] #[] rfl (by intro i v v' h; simp at h)
theorem VR.mono {m : List Nat} (n : List Nat) {v v' : Value} (h : VR m v v') : VR (m ++ n) v v':=by
  induction h with
  | pl v h=>exact .pl v h
  | ptr i j o s h=>exact .ptr i j o s (by rw [List.getElem?_append_left (List.getElem?_eq_some_iff.1 h).1]; exact h)
  | slice i j o l c s h=>exact .slice i j o l c s (by rw [List.getElem?_append_left (List.getElem?_eq_some_iff.1 h).1]; exact h)
  | raw v'=>exact .raw v'
  | func fn a a' c c' ha hc _ _ ih1 ih2=>exact .func fn a a' c c' ha hc ih1 ih2
  | agg a a' ha _ ih=>exact .agg a a' ha ih
  | tuple a a' ha _ ih=>exact .tuple a a' ha ih
theorem RA.mono {m : List Nat} (n : List Nat) {a a' : Array Value} (h : RA m a a') : RA (m ++ n) a a':=⟨h.size,fun i v v' h1 h2=>(h.at_ i v v' h1 h2).mono n⟩
theorem array_ext_of {a a' : Array Value} (hs : a.size = a'.size) (h : ∀ (i : Nat) (v v' : Value),a[i]? = some v → a'[i]? = some v' → v = v') : a = a':=by
  apply Array.ext_getElem?
  intro i
  by_cases hi : i < a.size
  · have hi' : i < a'.size:=hs ▸ hi
    rw [Array.getElem?_eq_getElem hi,Array.getElem?_eq_getElem hi']
    exact congrArg some (h i _ _ (Array.getElem?_eq_getElem hi) (Array.getElem?_eq_getElem hi'))
  · rw [Array.getElem?_eq_none (by omega),Array.getElem?_eq_none (by omega)]
theorem VR.fn {m : List Nat} {v a : Value} (h : VR m v a) : ∀ {b : Value},VR m v b → a = b:=by
  induction h with
  | pl v h=>intro b hb; cases hb <;> first | rfl | (simp [flat1] at h)
  | ptr i j o s h=>intro b hb; cases hb with | pl _ h'=>simp [flat1] at h' | ptr _ j' _ _ h'=>rw [h] at h'; cases h'; rfl
  | slice i j o l c s h=>intro b hb; cases hb with | pl _ h'=>simp [flat1] at h' | slice _ j' _ _ _ _ h'=>rw [h] at h'; cases h'; rfl
  | raw v'=>intro b hb; cases hb with | pl _ h'=>simp [flat1] at h' | raw _=>rfl
  | func fn a a' c c' ha hc h1 h2 ih1 ih2=>
    intro b hb
    cases hb with
    | pl _ h'=>simp [flat1] at h'
    | func _ _ a2 _ c2 ha2 hc2 k1 k2=>
      have e1 : a' = a2:=array_ext_of (ha.symm.trans ha2) fun i v v' x y=>by
        have hi : i < a.size:=by rw [ha]; exact (Array.getElem?_eq_some_iff.1 x).1
        exact ih1 i _ _ (Array.getElem?_eq_getElem hi) x (k1 i _ _ (Array.getElem?_eq_getElem hi) y)
      have e2 : c' = c2:=array_ext_of (hc.symm.trans hc2) fun i v v' x y=>by
        have hi : i < c.size:=by rw [hc]; exact (Array.getElem?_eq_some_iff.1 x).1
        exact ih2 i _ _ (Array.getElem?_eq_getElem hi) x (k2 i _ _ (Array.getElem?_eq_getElem hi) y)
      rw [e1,e2]
  | agg a a' ha h1 ih1=>
    intro b hb
    cases hb with
    | pl _ h'=>simp [flat1] at h'
    | agg _ a2 ha2 k1=>
      have e1 : a' = a2:=array_ext_of (ha.symm.trans ha2) fun i v v' x y=>by
        have hi : i < a.size:=by rw [ha]; exact (Array.getElem?_eq_some_iff.1 x).1
        exact ih1 i _ _ (Array.getElem?_eq_getElem hi) x (k1 i _ _ (Array.getElem?_eq_getElem hi) y)
      rw [e1]
  | tuple a a' ha h1 ih1=>
    intro b hb
    cases hb with
    | pl _ h'=>simp [flat1] at h'
    | tuple _ a2 ha2 k1=>
      have e1 : a' = a2:=array_ext_of (ha.symm.trans ha2) fun i v v' x y=>by
        have hi : i < a.size:=by rw [ha]; exact (Array.getElem?_eq_some_iff.1 x).1
        exact ih1 i _ _ (Array.getElem?_eq_getElem hi) x (k1 i _ _ (Array.getElem?_eq_getElem hi) y)
      rw [e1]
theorem all_flat1_at {cs : Array Value} (h : cs.toList.all flat1 = true) {i : Nat} {v : Value} (hv : cs[i]? = some v) : flat1 v = true:=by
  have:=List.all_eq_true.1 h v
  exact this (by rw [Array.mem_toList_iff]; exact Array.mem_of_getElem? hv)
theorem VR.refl_of_flat (m : List Nat) : ∀ {v : Value},flat v = true → VR m v v:=by
  intro v h
  cases v with
  | agg cs=>exact .agg cs cs rfl fun i v v' h1 h2=>by rw [h1] at h2; cases h2; exact .pl _ (all_flat1_at h h1)
  | tuple vs=>
    refine .tuple vs vs rfl fun i v v' h1 h2=>?_
    rw [h1] at h2; cases h2
    have hv:=List.all_eq_true.1 h v (by rw [Array.mem_toList_iff]; exact Array.mem_of_getElem? h1)
    cases v with
    | agg cs=>exact .agg cs cs rfl fun i v v' h1 h2=>by rw [h1] at h2; cases h2; exact .pl _ (all_flat1_at hv h1)
    | _=>exact .pl _ hv
  | func fn a c=>
    simp only [flat,Bool.and_eq_true,beq_iff_eq] at h
    refine .func fn a a c c rfl rfl (fun i v v' h1 _=>?_) (fun i v v' h1 _=>?_)
    · rw [Array.getElem?_eq_none (by omega)] at h1; cases h1
    · rw [Array.getElem?_eq_none (by omega)] at h1; cases h1
  | _=>exact .pl _ h
theorem VR.eq_of_flat {m : List Nat} {v v' : Value} (hf : flat v = true) (h : VR m v v') : v' = v:=h.fn (VR.refl_of_flat m hf)
theorem nodup_inj : ∀ {l : List Nat} (_ : l.Nodup) {i j a : Nat},l[i]? = some a → l[j]? = some a → i = j
  | [],_,i,j,a,h,_=>by simp at h
  | x :: l,hn,i,j,a,hi,hj=>by
    have hn':=List.nodup_cons.1 hn
    cases i with
    | zero=>
      cases j with
      | zero=>rfl
      | succ j=>simp at hi hj; subst hi; exact absurd (List.mem_of_getElem? hj) hn'.1
    | succ i=>
      cases j with
      | zero=>simp at hi hj; subst hj; exact absurd (List.mem_of_getElem? hi) hn'.1
      | succ j=>simp at hi hj; rw [nodup_inj hn'.2 hi hj]
theorem nodup_of_inj : ∀ {l : List Nat} (_ : ∀ i j a : Nat,l[i]? = some a → l[j]? = some a → i = j),l.Nodup
  | [],_=>List.nodup_nil
  | x :: l,h=>List.nodup_cons.2 ⟨fun hx=>by
      obtain ⟨k,hk,e⟩:=List.getElem_of_mem hx
      have:=h 0 (k + 1) x (by simp) (by simp [List.getElem?_eq_getElem hk,e])
      omega,nodup_of_inj fun i j a hi hj=>by have:=h (i + 1) (j + 1) a (by simpa using hi) (by simpa using hj); omega⟩
def pairAt : Nat → Nat × Nat
  | 0=>(0,0)
  | n + 1=>match pairAt n with
    | (0,b)=>(b + 1,0)
    | (a + 1,b)=>(a,b + 1)
theorem pairAt_all : ∀ (s b : Nat),b ≤ s → ∃ n,pairAt n = (s - b,b):=by
  intro s
  induction s with
  | zero=>intro b hb; exact ⟨0,by have : b = 0:=by omega
                                  subst this; rfl⟩
  | succ s ih=>
    intro b
    induction b with
    | zero=>
      intro _
      obtain ⟨n,hn⟩:=ih s (Nat.le_refl _)
      refine ⟨n + 1,?_⟩
      rw [Nat.sub_self] at hn
      simp only [pairAt,hn,Nat.sub_zero]
    | succ b ihb=>
      intro hb
      obtain ⟨n,hn⟩:=ihb (by omega)
      refine ⟨n + 1,?_⟩
      rw [show s + 1 - b = (s + 1 - (b + 1)) + 1 by omega] at hn
      simp only [pairAt,hn]
def frOf (n : TypeId) : TypeId × (Nat × Nat):=if n < 1000000 then (n,(0,0)) else ((pairAt (n - 1000000)).1,pairAt (pairAt (n - 1000000)).2)
theorem frOf_lit {T : TypeId} (h : T < 1000000) : frOf T = (T,(0,0)):=if_pos h
theorem frOf_all (T : TypeId) (fr : Nat × Nat) : ∃ n,1000000 ≤ n ∧ frOf n = (T,fr):=by
  obtain ⟨a,b⟩:=fr
  obtain ⟨x,hx⟩:=pairAt_all (a + b) b (by omega)
  rw [Nat.add_sub_cancel] at hx
  obtain ⟨y,hy⟩:=pairAt_all (T + x) x (by omega)
  rw [Nat.add_sub_cancel] at hy
  refine ⟨1000000 + y,Nat.le_add_right _ _,?_⟩
  unfold frOf
  rw [if_neg (show ¬ 1000000 + y < 1000000 by omega),Nat.add_sub_cancel_left,hy]
  simp only [hx]
def Far (m : List Nat) (H : List Blk) : Prop:=∀ (i j : Nat) (b : Blk),m[i]? = some j → H[i]? = some b → b.2 < 1000000 → G0 ≤ j
theorem Far.nil : Far [] []:=fun i j b h=>by simp at h
theorem Far.new {n : List Nat} (X : List Blk) (h : ∀ j ∈ n,G0 ≤ j) : Far n X:=fun _ j _ hj _ _=>h j (List.mem_of_getElem? hj)
theorem Far.append {m n : List Nat} {H X : List Blk} (hl : m.length = H.length) (h : Far m H) (k : Far n X) : Far (m ++ n) (H ++ X):=fun i j b hj hb hT=>by
  by_cases hi : i < m.length
  · rw [List.getElem?_append_left hi] at hj
    rw [List.getElem?_append_left (by rw [← hl]; exact hi)] at hb
    exact h i j b hj hb hT
  · rw [List.getElem?_append_right (by omega)] at hj
    rw [List.getElem?_append_right (by omega),← hl] at hb
    exact k _ j b hj hb hT
theorem Far.set {m : List Nat} {H : List Blk} (h : Far m H) {i : Nat} {b : Blk} (hb : H[i]? = some b) (cs : Array Value) : Far m (H.set i (cs,b.2)):=fun q j c hj hc hT=>by
  by_cases e : i = q
  · subst e
    rw [List.getElem?_set_self (List.getElem?_eq_some_iff.1 hb).1] at hc
    cases hc
    exact h i j b hj hb hT
  · rw [List.getElem?_set_ne e] at hc
    exact h q j c hj hc hT
theorem Far.take {m : List Nat} {H X : List Blk} (h : Far m (H ++ X)) : Far (m.take H.length) H:=fun q j c hj hc hT=>by
  have hi : q < H.length:=(List.getElem?_eq_some_iff.1 hc).1
  rw [List.getElem?_take_of_lt hi] at hj
  exact h q j c hj (by rw [List.getElem?_append_left hi]; exact hc) hT
structure RH (m : List Nat) (H : List Blk) (w : World) : Prop where
  len : m.length = H.length
  nodup : m.Nodup
  blk : ∀ (i j : Nat) (b : Blk),m[i]? = some j → H[i]? = some b → ∃ cs,w.heap[j]? = some (.cells cs (frOf b.2).1 (frOf b.2).2) ∧ RA m b.1 cs
  inv : Inv w
  far : Far m H
structure Kept (m : List Nat) (w w' : World) : Prop where
  os : w'.os = w.os
  tape : w'.tape = w.tape
  output : w'.output = w.output
  size : w.heap.size ≤ w'.heap.size
  block : ∀ k,k < w.heap.size → k ∉ m → w'.heap[k]? = w.heap[k]?
theorem Kept.refl (m : List Nat) (w : World) : Kept m w w:=⟨rfl,rfl,rfl,Nat.le_refl _,fun _ _ _=>rfl⟩
theorem Kept.trans {m n : List Nat} {a b c : World} (h : Kept m a b) (k : Kept (m ++ n) b c) (hn : ∀ j ∈ n,a.heap.size ≤ j) : Kept m a c:=
  ⟨k.os.trans h.os,k.tape.trans h.tape,k.output.trans h.output,Nat.le_trans h.size k.size,fun i hi hm=>
    (k.block i (Nat.lt_of_lt_of_le hi h.size) (by
      intro hx
      rcases List.mem_append.1 hx with hx | hx
      · exact hm hx
      · have:=hn i hx; omega)).trans (h.block i hi hm)⟩
theorem Kept.of_below {m : List Nat} {w w' : World} (h : Below w.heap.size w w') : Kept m w w':=⟨h.os,h.tape,h.output,h.size,fun k hk _=>h.block k hk⟩
theorem RH.lt {m : List Nat} {H : List Blk} {w : World} (h : RH m H w) {i j : Nat} (hj : m[i]? = some j) : j < w.heap.size:=by
  have hi : i < H.length:=by rw [← h.len]; exact (List.getElem?_eq_some_iff.1 hj).1
  obtain ⟨cs,hc,_⟩:=h.blk i j _ hj (List.getElem?_eq_getElem hi)
  exact (Array.getElem?_eq_some_iff.1 hc).1
theorem RH.lt_of_mem {m : List Nat} {H : List Blk} {w : World} (h : RH m H w) {j : Nat} (hj : j ∈ m) : j < w.heap.size:=by
  obtain ⟨i,hi,rfl⟩:=List.getElem_of_mem hj
  exact h.lt (List.getElem?_eq_getElem hi)
theorem RH.below {m : List Nat} {H : List Blk} {w w' : World} (h : RH m H w) (hb : Below w.heap.size w w') : RH m H w':=
  ⟨h.len,h.nodup,fun i j b hj hb'=>by
    obtain ⟨cs,hc,hr⟩:=h.blk i j b hj hb'
    exact ⟨cs,by rw [hb.block j (h.lt hj)]; exact hc,hr⟩,h.inv.below hb,h.far⟩
theorem RH.below_of {m : List Nat} {H : List Blk} {w w' : World} (h : RH m H w) (h' : RH m H w') (k : Kept m w w') : Below w.heap.size w w':=
  ⟨k.os,k.tape,k.output,k.size,fun j hj=>by
    by_cases hm : j ∈ m
    · obtain ⟨i,hi,rfl⟩:=List.getElem_of_mem hm
      have hiH : i < H.length:=by rw [← h.len]; exact hi
      obtain ⟨cs,hc,hr⟩:=h.blk i _ _ (List.getElem?_eq_getElem hi) (List.getElem?_eq_getElem hiH)
      obtain ⟨cs',hc',hr'⟩:=h'.blk i _ _ (List.getElem?_eq_getElem hi) (List.getElem?_eq_getElem hiH)
      have e : cs = cs':=by
        have q:=VR.fn (VR.mk_agg hr) (VR.mk_agg hr')
        injection q
      rw [hc,hc',e]
    · exact k.block j hj hm⟩
theorem RH.nil (w : World) (h : Inv w) : RH [] [] w:=⟨rfl,List.nodup_nil,fun i j b h=>by simp at h,h,Far.nil⟩
theorem RH.alloc {m : List Nat} {H : List Blk} {w : World} (h : RH m H w) {cs cs' : Array Value} (T : TypeId) (hT : T < 1000000) (hr : RA m cs cs') :
    RH (m ++ [w.heap.size]) (H ++ [(cs,T)]) (w.alloc (.cells cs' T)):=by
  refine ⟨by simp [h.len],?_,fun i j b hj hb=>?_,h.inv.keep (by simp) (fun j hj=>heap_alloc_old _ _ _ (Nat.lt_of_lt_of_le hj h.inv.low)),h.far.append h.len (Far.new _ fun j hj=>by
    simp at hj; subst hj; exact h.inv.low)⟩
  · rw [List.nodup_append]
    refine ⟨h.nodup,by simp,fun a ha b hb=>?_⟩
    simp at hb
    have:=h.lt_of_mem ha
    omega
  · by_cases hi : i < m.length
    · rw [List.getElem?_append_left hi] at hj
      rw [List.getElem?_append_left (by rw [← h.len]; exact hi)] at hb
      obtain ⟨cs2,hc,hr2⟩:=h.blk i j b hj hb
      exact ⟨cs2,by rw [heap_alloc_old _ _ _ (h.lt hj)]; exact hc,hr2.mono _⟩
    · have hi' : i = m.length:=by
        have:=(List.getElem?_eq_some_iff.1 hj).1
        simp at this; omega
      subst hi'
      rw [List.getElem?_append_right (Nat.le_refl _)] at hj
      rw [List.getElem?_append_right (by rw [h.len]; exact Nat.le_refl _)] at hb
      simp at hj
      simp [h.len] at hb
      subst hj; subst hb
      exact ⟨cs',by rw [frOf_lit hT]; exact heap_alloc_new w _,hr.mono _⟩
theorem Kept.alloc (m : List Nat) (w : World) (o : Obj) : Kept m w (w.alloc o):=
  ⟨rfl,rfl,rfl,by simp,fun k hk _=>heap_alloc_old w o k hk⟩
theorem RH.setRow {m : List Nat} {H : List Blk} {w : World} (h : RH m H w) {i j : Nat} {b : Blk} (hj : m[i]? = some j) (hb : H[i]? = some b) {cs cs' : Array Value} (hr : RA m cs cs') (hT : b.2 < 1000000) :
    RH m (H.set i (cs,b.2)) (w.setRow j cs'):=by
  have hfar:=h.far i j b hj hb hT
  refine ⟨by simp [h.len],h.nodup,fun i2 j2 b2 hj2 hb2=>?_,h.inv.keep (by simp) (fun k hk=>by
    simp only [World.setRow,Array.getElem?_modify]
    rw [if_neg (fun e : j = k=>by omega)]),h.far.set hb cs⟩
  obtain ⟨old,ho,_⟩:=h.blk i j b hj hb
  by_cases e : i = i2
  · subst e
    rw [hj] at hj2; cases hj2
    have hlt : i < H.length:=(List.getElem?_eq_some_iff.1 hb).1
    rw [List.getElem?_set_self hlt] at hb2
    cases hb2
    exact ⟨cs',setRow_heap w j old cs' (frOf b.2).1 (frOf b.2).2 ho,hr⟩
  · rw [List.getElem?_set_ne e] at hb2
    obtain ⟨cs2,hc2,hr2⟩:=h.blk i2 j2 b2 hj2 hb2
    refine ⟨cs2,?_,hr2⟩
    have hne : j2 ≠ j:=by
      intro e2
      subst e2
      exact e (nodup_inj h.nodup hj hj2)
    simp only [World.setRow,Array.getElem?_modify]
    rw [if_neg (Ne.symm hne)]
    exact hc2
theorem Kept.setRow {m : List Nat} {w : World} {j : Nat} (hj : j ∈ m) (cs : Array Value) : Kept m w (w.setRow j cs):=
  ⟨rfl,rfl,rfl,by simp,fun k _ hm=>by
    simp only [World.setRow,Array.getElem?_modify]
    rw [if_neg (fun e : j = k=>hm (e ▸ hj))]⟩
def prun (P : Program) {α : Type} : Sem α → Option α
  | .pure a=>some a
  | .program k=>prun P (k P)
  | .mark _ k=>prun P k
  | _=>none
theorem prun_run {P : Program} {α : Type} {s : Sem α} {a : α} (h : prun P s = some a) (w : World) : s.run P w = .ok a w:=by
  induction s with
  | pure b=>simp only [prun,Option.some.injEq] at h; subst h; rfl
  | program k ih=>exact ih P h
  | mark q k ih=>exact ih h
  | _=>simp [prun] at h
end Go.Proofs.YtfhnlkinjbakgaaGreatDoor.Abs
namespace Go.Proofs.YtfhnlkinjbakgaaGreatDoor.Abs
open Go Go.RowKit
variable {P : Program}
theorem RA.slot {m : List Nat} {t t' : Array Value} (h : RA m t t') {d : Nat} {v : Value} (hd : t[d]? = some v) : ∃ v',t'[d]? = some v' ∧ VR m v v':=by
  have hlt : d < t'.size:=by rw [← h.size]; exact (Array.getElem?_eq_some_iff.1 hd).1
  exact ⟨t'[d],Array.getElem?_eq_getElem hlt,h.at_ d v _ hd (Array.getElem?_eq_getElem hlt)⟩
def tsize (P : Program) (T : TypeId) : Option Nat:=(P.info? T).map (·.size)
def tagg (P : Program) (T : TypeId) : Option Bool:=(P.underlying T).map fun d=>match d with | .struct _ | .array _ _=>true | _=>false
def tzero (P : Program) (T : TypeId) : Option Value:=(P.info? T).bind (·.zero)
def foff (P : Program) (S : TypeId) (f : Nat) : Option Nat:=
  match P.underlying S with
  | some (.struct fs)=>match fs[f]? with
    | some fd=>match tsize P fd.type with
      | some (_ + 1)=>some fd.offset
      | _=>none
    | none=>none
  | _=>none
theorem run_sizeOf {T : TypeId} {n : Nat} (h : tsize P T = some n) (w : World) : (sizeOf T).run P w = .ok n w:=by
  unfold tsize at h
  cases hi : P.info? T with
  | none=>simp [hi] at h
  | some i=>simp [hi] at h; simp [sizeOf,typeInfo,hi,h]
theorem run_isAgg {T : TypeId} {b : Bool} (h : tagg P T = some b) (w : World) : (isAgg T).run P w = .ok b w:=by
  unfold tagg at h
  cases hu : P.underlying T with
  | none=>simp [hu] at h
  | some d=>
    simp only [hu,Option.map_some,Option.some.injEq] at h
    unfold isAgg
    rw [Sem.run_bind,run_underlying hu w]
    subst h
    cases d <;> simp
theorem run_zeroValue {T : TypeId} {z : Value} (h : tzero P T = some z) (w : World) : (zeroValue T).run P w = .ok z w:=by
  unfold tzero at h
  cases hi : P.info? T with
  | none=>simp [hi] at h
  | some i=>simp [hi] at h; simp [zeroValue,typeInfo,hi,h]
theorem add_off (j o n : Nat) : (⟨j,o,none⟩ : Addr).add n = ⟨j,o + n,none⟩:=by unfold Addr.add; split <;> simp_all
theorem run_fieldAt {S : TypeId} {f n : Nat} (h : foff P S f = some n) (j o : Nat) (w : World) :
    (Instr.fieldAt S (.pointer (some ⟨j,o,none⟩)) f).run P w = .ok (.pointer (some ⟨j,o + n,none⟩)) w:=by
  unfold foff at h
  cases hu : P.underlying S with
  | none=>simp [hu] at h
  | some d=>
    cases d with
    | struct fs=>
      simp only [hu] at h
      cases hf : fs[f]? with
      | none=>simp [hf] at h
      | some fd=>
        simp only [hf] at h
        cases hz : tsize P fd.type with
        | none=>simp [hz] at h
        | some z=>
          cases z with
          | zero=>simp [hz] at h
          | succ z=>
            simp only [hz,Option.some.injEq] at h
            subst h
            have hs:=run_sizeOf hz w
            unfold Instr.fieldAt
            simp [run_underlying hu w,hf,Instr.sureAddr,fieldPlace,hs,add_off]
    | _=>simp [hu] at h
def loadA (P : Program) (T : TypeId) (a : Value) (H : List Blk) : Option Value:=
  match a with
  | .pointer (some ⟨i,o,none⟩)=>
    match H[i]?,tagg P T with
    | some b,some true=>match tsize P T with
      | some n=>if o + n ≤ b.1.size then some (.agg ((b.1.toList.drop o).take n).toArray) else none
      | none=>none
    | some b,some false=>b.1[o]?
    | _,_=>none
  | _=>none
theorem RA.part {m : List Nat} {a a' : Array Value} (h : RA m a a') (o n : Nat) : RA m ((a.toList.drop o).take n).toArray ((a'.toList.drop o).take n).toArray:=by
  have hs:=h.size
  refine ⟨by simp; omega,fun i v v' h1 h2=>?_⟩
  simp only [List.getElem?_toArray,List.getElem?_take,List.getElem?_drop,Array.getElem?_toList] at h1 h2
  split at h1
  · rename_i hi
    rw [if_pos hi] at h2
    exact h.at_ _ _ _ h1 h2
  · cases h1
theorem loadA_ptr {T : TypeId} {a v : Value} {H : List Blk} (h : loadA P T a H = some v) : ∃ i o b,a = .pointer (some ⟨i,o,none⟩) ∧ H[i]? = some b:=by
  unfold loadA at h
  split at h
  case h_2=>cases h
  rename_i i o
  cases hb : H[i]? with
  | none=>simp [hb] at h
  | some b=>exact ⟨i,o,b,rfl,hb⟩
theorem loadA_at {m : List Nat} {H : List Blk} {w : World} {T : TypeId} {i o j : Nat} {v : Value} {b : Blk} {cs : Array Value} (hb : H[i]? = some b) {T' : TypeId} {fr : Nat × Nat} (hc : w.heap[j]? = some (.cells cs T' fr)) (hr : RA m b.1 cs) (h : loadA P T (.pointer (some ⟨i,o,none⟩)) H = some v) :
    ∃ v',(Instr.loadAt T (.pointer (some ⟨j,o,none⟩))).run P w = .ok v' w ∧ VR m v v':=by
  unfold loadA at h
  simp only [hb] at h
  cases ht : tagg P T with
  | none=>simp [ht] at h
  | some t=>
    have hagg:=run_isAgg ht w
    cases t with
    | true=>
      simp only [ht] at h
      cases hn : tsize P T with
      | none=>simp [hn] at h
      | some n=>
        simp only [hn] at h
        split at h
        · rename_i hle
          simp only [Option.some.injEq] at h
          subst h
          have hsz:=run_sizeOf hn w
          have hlen : ((cs.toList.drop o).take n).length = n:=by
            have:=hr.size
            simp; omega
          have hl : (loadCells ⟨j,o,none⟩ ((cs.toList.drop o).take n).length).run P w = .ok ((cs.toList.drop o).take n).toArray w:=
            run_loadCells_list (P:=P) w ⟨j,o,none⟩ _ (fun k v hv=>by
              rw [add_off,cell_of_row w j (o + k) cs T' fr hc]
              simp only [List.getElem?_take,List.getElem?_drop,Array.getElem?_toList] at hv
              split at hv
              · exact hv
              · cases hv)
          rw [hlen] at hl
          refine ⟨.agg ((cs.toList.drop o).take n).toArray,?_,.mk_agg (hr.part o n)⟩
          simp [Instr.loadAt,Instr.sureAddr,loadVar,hagg,hsz,hl]
        · cases h
    | false=>
      simp only [ht] at h
      have hlt : o < b.1.size:=(Array.getElem?_eq_some_iff.1 h).1
      have hlt' : o < cs.size:=hr.size ▸ hlt
      refine ⟨cs[o],?_,hr.at_ o v _ h (Array.getElem?_eq_getElem hlt')⟩
      have hcell : w.cell? ⟨j,o,none⟩ = some cs[o]:=by rw [cell_of_row w j o cs T' fr hc]; exact Array.getElem?_eq_getElem hlt'
      simp [Instr.loadAt,Instr.sureAddr,loadVar,hagg,hcell]
theorem loadA_run {m : List Nat} {H : List Blk} {w : World} (hH : RH m H w) {T : TypeId} {a a' v : Value} (ha : VR m a a') (h : loadA P T a H = some v) :
    ∃ v',(Instr.loadAt T a').run P w = .ok v' w ∧ VR m v v':=by
  have h0:=h
  unfold loadA at h
  split at h
  case h_2=>cases h
  rename_i i o
  cases ha with
  | pl _ h'=>simp [flat1] at h'
  | ptr _ j _ _ hj=>
    cases hb : H[i]? with
    | none=>simp [hb] at h
    | some b=>
      obtain ⟨cs,hc,hr⟩:=hH.blk i j b hj hb
      exact loadA_at hb hc hr h0
def midRow (cur : Array Value) (o : Nat) (vs : List Value) : Array Value:=(cur.toList.take o ++ vs ++ cur.toList.drop (o + vs.length)).toArray
theorem midRow_get {cur : Array Value} {o : Nat} {vs : List Value} (h : o + vs.length ≤ cur.size) (k : Nat) :
    (midRow cur o vs)[k]? = if k < o then cur[k]? else if k < o + vs.length then vs[k - o]? else cur[k]?:=by
  unfold midRow
  rw [List.getElem?_toArray,List.append_assoc,List.getElem?_append,List.length_take,Array.length_toList,show min o cur.size = o by omega]
  by_cases h1 : k < o
  · rw [if_pos h1,if_pos h1,List.getElem?_take,if_pos h1,Array.getElem?_toList]
  · rw [if_neg h1,if_neg h1,List.getElem?_append]
    by_cases h2 : k < o + vs.length
    · rw [if_pos h2,if_pos (by omega)]
    · rw [if_neg h2,if_neg (by omega),List.getElem?_drop,Array.getElem?_toList]
      congr 1
      omega
theorem midRow_cons {cur : Array Value} {o : Nat} {v : Value} {vs : List Value} (h : o + (v :: vs).length ≤ cur.size) :
    midRow (cur.setIfInBounds o v) (o + 1) vs = midRow cur o (v :: vs):=by
  have h' : o + 1 + vs.length ≤ cur.size:=by simp only [List.length_cons] at h; omega
  apply Array.ext_getElem?
  intro k
  rw [midRow_get (by simpa using h'),midRow_get h,List.length_cons]
  by_cases h1 : k < o
  · rw [if_pos (by omega),if_pos h1,Array.getElem?_setIfInBounds_ne (by omega)]
  · rw [if_neg h1]
    by_cases h2 : k = o
    · subst h2
      rw [if_pos (by omega),if_pos (by omega),Array.getElem?_setIfInBounds_self,if_pos (by omega),Nat.sub_self]
      rfl
    · rw [if_neg (by omega)]
      by_cases h3 : k < o + 1 + vs.length
      · rw [if_pos h3,if_pos (by omega),show k - o = (k - (o + 1)) + 1 by omega]
        rfl
      · rw [if_neg h3,if_neg (by omega),Array.getElem?_setIfInBounds_ne (by omega)]
theorem run_storeMid (g o : Nat) (t : TypeId) : ∀ (vs : List Value) (i : Nat) (cur : Array Value) (w : World),w.heap[g]? = some (.cells cur t (0,0)) → o + i + vs.length ≤ cur.size → (∀ v ∈ vs,v.oneCell' = true) →
    (storeCells ⟨g,o,none⟩ vs i).run P w = .ok () (w.setRow g (midRow cur (o + i) vs))
  | [],i,cur,w,hg,hl,_=>by
    have e : midRow cur (o + i) [] = cur:=by simp [midRow]
    rw [e]
    simp only [storeCells]
    show Result.ok () w = _
    congr 1
    have hv : w.heap[g]'((Array.getElem?_eq_some_iff.1 hg).1) = .cells cur t (0,0):=(Array.getElem?_eq_some_iff.1 hg).2
    unfold World.setRow
    cases w with
    | mk heap tape drawn os output=>
      congr 1
      apply Array.ext
      · simp
      · intro k h1 h2
        simp only [Array.getElem_modify]
        split
        · rename_i hk; subst hk; simp at hv; simp [hv]
        · rfl
  | v :: rest,i,cur,w,hg,hl,h1=>by
    have hi : o + i < cur.size:=by simp at hl; omega
    have hcell : w.cell? ⟨g,o + i,none⟩ = some cur[o + i]:=by simp [World.cell?,hg,hi]
    have hfro : w.frozen? ⟨g,o + i,none⟩ = false:=by simp [World.frozen?,hg]
    have hst : (store ((⟨g,o,none⟩ : Addr).add i) v).run P w = .ok () (w.setRow g (cur.setIfInBounds (o + i) v)):=by
      rw [add_off,run_store P w _ v _ (h1 v (by simp)),hcell]
      simp [hfro,setCell_eq_setRow w g (o + i) cur t (0,0) v hg]
    have ih:=run_storeMid g o t rest (i + 1) (cur.setIfInBounds (o + i) v) (w.setRow g (cur.setIfInBounds (o + i) v)) (setRow_heap w g cur _ t _ hg) (by simp at hl ⊢; omega) (fun x hx=>h1 x (by simp [hx]))
    simp only [storeCells,Sem.run_bind,hst,Result.andThen_ok,ih,setRow_setRow]
    rw [show o + (i + 1) = o + i + 1 by omega,midRow_cons (by simpa using hl)]
def storeA (P : Program) (T : TypeId) (a v : Value) (H : List Blk) : Option (List Blk):=
  match a with
  | .pointer (some ⟨i,o,none⟩)=>
    match H[i]?,tsize P T with
    | some b,some n=>if v.cells.size = n ∧ o + n ≤ b.1.size ∧ v.cells.toList.all (fun c=>c.oneCell' && !isRaw c) = true ∧ isRaw v = false ∧ b.2 < 1000000 then some (H.set i (midRow b.1 o v.cells.toList,b.2)) else none
    | _,_=>none
  | _=>none
theorem RA.cells {m : List Nat} {v v' : Value} (h : VR m v v') (hraw : isRaw v = false) : RA m v.cells v'.cells:=by
  have one : ∀ {u u' : Value},VR m u u' → RA m #[u] #[u']:=fun {u u'} hu=>⟨rfl,fun i x x' h1 h2=>by
    have hi : i = 0:=by have:=(Array.getElem?_eq_some_iff.1 h1).1; simp at this; omega
    subst hi
    simp at h1 h2
    subst h1; subst h2
    exact hu⟩
  cases h with
  | pl v h=>cases v <;> first | exact one (.pl _ h) | (simp [flat1] at h)
  | ptr i j o s h=>exact one (.ptr i j o s h)
  | slice i j o l c s h=>exact one (.slice i j o l c s h)
  | raw _=>simp [isRaw] at hraw
  | func fn a a' c c' ha hc h1 h2=>exact one (.func fn a a' c c' ha hc h1 h2)
  | agg a a' ha h1=>exact ⟨ha,h1⟩
  | tuple a a' ha h1=>exact one (.tuple a a' ha h1)
theorem VR.oneCell {m : List Nat} {v v' : Value} (h : VR m v v') (hraw : isRaw v = false) : v'.oneCell' = v.oneCell':=by
  cases h <;> first | rfl | (simp [isRaw] at hraw)
theorem RA.oneCell {m : List Nat} {a a' : Array Value} (h : RA m a a') (ho : a.toList.all (fun c=>c.oneCell' && !isRaw c) = true) : ∀ v ∈ a'.toList,v.oneCell' = true:=by
  intro v hv
  obtain ⟨i,hi,rfl⟩:=List.getElem_of_mem hv
  have hi' : i < a'.size:=by simpa using hi
  have hia : i < a.size:=by rw [h.size]; exact hi'
  have:=h.at_ i _ _ (Array.getElem?_eq_getElem hia) (Array.getElem?_eq_getElem hi')
  have hc:=List.all_eq_true.1 ho a[i] (by simp)
  simp only [Bool.and_eq_true,Bool.not_eq_true'] at hc
  rw [Array.getElem_toList,this.oneCell hc.2]
  exact hc.1
theorem RA.mid {m : List Nat} {a a' : Array Value} {c c' : Array Value} (h : RA m a a') (hc : RA m c c') (o : Nat) (hle : o + c.size ≤ a.size) : RA m (midRow a o c.toList) (midRow a' o c'.toList):=by
  have hs:=h.size
  have hcs:=hc.size
  refine ⟨by simp [midRow]; omega,fun i v v' h1 h2=>?_⟩
  simp only [midRow,List.getElem?_toArray,List.getElem?_append,List.length_append,List.length_take,Array.length_toList,List.getElem?_take,List.getElem?_drop,Array.getElem?_toList,show min o a.size = o by omega,show min o a'.size = o by omega] at h1 h2
  by_cases k1 : i < o
  · rw [if_pos (by omega),if_pos k1,if_pos k1] at h1
    rw [if_pos (by omega),if_pos k1,if_pos k1] at h2
    exact h.at_ _ _ _ h1 h2
  · by_cases k2 : i < o + c.size
    · rw [if_pos k2,if_neg k1] at h1
      rw [if_pos (by omega),if_neg k1] at h2
      exact hc.at_ _ _ _ h1 h2
    · rw [if_neg k2] at h1
      rw [if_neg (by omega)] at h2
      rw [← hcs] at h2
      exact h.at_ _ _ _ h1 h2
theorem storeA_run {m : List Nat} {H G : List Blk} {w : World} (hH : RH m H w) {T : TypeId} {a a' v v' : Value} (ha : VR m a a') (hv : VR m v v') (h : storeA P T a v H = some G) :
    ∃ w',(Instr.storeAt T a' v').run P w = .ok () w' ∧ RH m G w' ∧ Kept m w w' ∧ ∀ j o,a' = .pointer (some ⟨j,o,none⟩) → ∀ k,k ≠ j → w'.heap[k]? = w.heap[k]?:=by
  unfold storeA at h
  split at h
  case h_2=>cases h
  rename_i i o
  cases ha with
  | pl _ h'=>simp [flat1] at h'
  | ptr _ j _ _ hj=>
    cases hb : H[i]? with
    | none=>simp [hb] at h
    | some b=>
      obtain ⟨cs,hc,hr⟩:=hH.blk i j b hj hb
      simp only [hb] at h
      cases hn : tsize P T with
      | none=>simp [hn] at h
      | some n=>
        simp only [hn] at h
        split at h
        · rename_i hcond
          obtain ⟨h1,h2,h3,h4,h5⟩:=hcond
          rw [frOf_lit h5] at hc
          simp only [Option.some.injEq] at h
          subst h
          have hcv:=RA.cells hv h4
          have hvs : v'.cells.size = n:=by rw [← hcv.size]; exact h1
          have hst:=run_storeMid (P:=P) j o b.2 v'.cells.toList 0 cs w hc (by have:=hr.size; simp; omega) (hcv.oneCell h3)
          refine ⟨_,?_,hH.setRow hj hb (hr.mid hcv o (by omega)) (by omega),Kept.setRow (List.mem_of_getElem? hj) _,fun j2 o2 he k hk=>?_⟩
          case refine_2=>
            simp only [Value.pointer.injEq,Option.some.injEq,Addr.mk.injEq] at he
            obtain ⟨rfl,_⟩:=he
            simp only [World.setRow,Array.getElem?_modify]
            rw [if_neg (Ne.symm hk)]
          simp only [Instr.storeAt,Instr.sureAddr,storeVar,Sem.run_bind,Sem.run_pure,Result.andThen_ok,run_sizeOf hn w,hvs,ne_eq,not_true,if_false]
          simpa using hst
        · cases h
end Go.Proofs.YtfhnlkinjbakgaaGreatDoor.Abs
namespace Go.Proofs.YtfhnlkinjbakgaaGreatDoor.Abs
open Go Go.RowKit
def ev (t : Array Value) : Operand → Option Value
  | .tmp i=>some (t.getD i undef)
  | .const v=>if flat v then some v else none
  | .func f=>some (.func (.func f) #[] #[])
  | .global _=>none
def act (t : Array Value) : Act:=⟨t,[]⟩
theorem RA.getD {m : List Nat} {t t' : Array Value} (h : RA m t t') (i : Nat) : VR m (t.getD i undef) (t'.getD i undef):=by
  by_cases hi : i < t.size
  · have hi' : i < t'.size:=h.size ▸ hi
    have:=h.at_ i _ _ (Array.getElem?_eq_getElem hi) (Array.getElem?_eq_getElem hi')
    simpa [Array.getD,hi,hi'] using this
  · have hi' : ¬ i < t'.size:=h.size ▸ hi
    simpa [Array.getD,hi,hi'] using VR.undef m
theorem ev_rel {m : List Nat} {t t' : Array Value} (h : RA m t t') {x : Operand} {v : Value} (hx : ev t x = some v) : VR m v ((act t').eval x):=by
  cases x with
  | tmp i=>simp only [ev,Option.some.injEq] at hx; subst hx; exact h.getD i
  | const u=>
    simp only [ev] at hx
    split at hx
    · rename_i hf; simp only [Option.some.injEq] at hx; subst hx; exact VR.refl_of_flat m hf
    · cases hx
  | func f=>simp only [ev,Option.some.injEq] at hx; subst hx; exact VR.refl_of_flat m (by rfl)
  | global g=>simp [ev] at hx
theorem ev_eval {t : Array Value} {x : Operand} {v : Value} (hx : ev t x = some v) : (act t).eval x = v:=by
  cases x with
  | tmp i=>simp only [ev,Option.some.injEq] at hx; exact hx
  | const u=>
    simp only [ev] at hx
    split at hx
    · simp only [Option.some.injEq] at hx; exact hx
    · cases hx
  | func f=>simp only [ev,Option.some.injEq] at hx; exact hx
  | global g=>simp [ev] at hx
inductive AR where
  | val (v : Value)
  | mem (v : Value) (H : List Blk)
  | pick (c : Bool) (a b : Value)
  | chk (c : Bool) (v : Value)
  | opt (x : Option Value)
  | enter (f : FuncId) (args : Array Value)
  | bad
structure Eqs where
  eq : TypeId → Value → Value → Option Bool
  ext : FuncId → Array Value → Option (Bool × Value)
structure EqsOk (P : Program) (E : Eqs) : Prop where
  eq : ∀ T x y b,E.eq T x y = some b → ∀ (ox oy : Operand) (w : World),
    (do eqGuard .eql T ox oy x y; binOp .eql T x y : Sem Value).run P w = .ok (.bool b) w ∧
    (do eqGuard .neq T ox oy x y; binOp .neq T x y : Sem Value).run P w = .ok (.bool (!b)) w
  ext : ∀ g args c v,E.ext g args = some (c,v) → c = true → ∀ w,(callFunc g args).run P w = .ok (.value v) w
def evs (t : Array Value) (l : List Operand) : Option (List Value):=l.mapM (ev t)
def pureOk (o : Oper) (t : Array Value) : Bool:=
  (o.op.operands.toList.all fun x=>match ev t x with | some v=>flat v | none=>false) && (match o.op with | .select ..=>false | _=>true)
def pureV (P : Program) (o : Oper) (t : Array Value) : AR:=
  match prun P (execOp (act t).eval o) with
  | some (.value v)=>cond (flat v) (.val v) .bad
  | _=>.bad
def pureA (P : Program) (o : Oper) (t : Array Value) : AR:=cond (pureOk o t) (pureV P o t) .bad
def binA (P : Program) (E : Eqs) (o : Oper) (t : Array Value) (op : BinOp) (T : TypeId) (x y : Operand) : AR:=
  match op with
  | .quo=>match ev t x,ev t y with
    | some (.int k a),some (.int k' b)=>if k = k' then .chk (decide (b ≠ 0)) (.int k (k.wrap (a.tdiv b))) else .bad
    | _,_=>.bad
  | .rem=>match ev t x,ev t y with
    | some (.int k a),some (.int k' b)=>if k = k' then .chk (decide (b ≠ 0)) (.int k (a.tmod b)) else .bad
    | _,_=>.bad
  | .shl=>match ev t x,ev t y with
    | some (.int k a),some (.int _ b)=>.chk (decide (0 ≤ b)) (.int k (k.wrap (a * 2 ^ (min b.toNat k.bits))))
    | _,_=>.bad
  | .shr=>match ev t x,ev t y with
    | some (.int k a),some (.int _ b)=>.chk (decide (0 ≤ b)) (.int k (a.fdiv (2 ^ (min b.toNat k.bits))))
    | _,_=>.bad
  | .eql=>match ev t x,ev t y with
    | some (.agg a),some (.agg b)=>match E.eq T (.agg a) (.agg b) with
      | some r=>if flat (.agg a) && flat (.agg b) then .val (.bool r) else .bad
      | none=>.bad
    | _,_=>pureA P o t
  | .neq=>match ev t x,ev t y with
    | some (.agg a),some (.agg b)=>match E.eq T (.agg a) (.agg b) with
      | some r=>if flat (.agg a) && flat (.agg b) then .val (.bool (!r)) else .bad
      | none=>.bad
    | _,_=>pureA P o t
  | _=>pureA P o t
def lenA (P : Program) (c : Call) (t : Array Value) : Option Value:=
  match c.callee,c.args.toList,c.argTypes.toList with
  | .builtin .len,[x],[T]=>
    match ev t x,P.underlying T with
    | some (.slice _ n _),some (.slice _)=>some (.int .i64 n)
    | _,_=>none
  | _,_,_=>none
def partsOk (t : Array Value) (parts : Array (Nat × Operand)) : Bool:=parts.toList.all fun p=>match ev t p.2 with | some v=>flat v | none=>false
def sliceCells (P : Program) (T : TypeId) (len : Nat) (parts : Array (Nat × Operand)) (t : Array Value) : Option (TypeId × Array Value):=
  match P.underlying T with
  | some (.slice e)=>
    match tsize P e,tzero P e with
    | some n,some z=>
      cond (partsOk t parts && decide (len * n ≤ 2 ^ 24))
        ((Instr.fill (fun i=>some (i * n,n)) ((Array.range (len * n)).map ((if len * n = 0 then #[] else z.cells)[· % (if len * n = 0 then #[] else z.cells).size]!)) (parts.map fun p=>(p.1,(act t).eval p.2)).toList).map fun cs=>(e,cs))
        none
    | _,_=>none
  | _=>none
def indexA (P : Program) (T : TypeId) (x i : Value) : Option (Bool × Value):=
  match i with
  | .int _ z=>
    match P.underlying T,x with
    | some (.slice e),.slice (some ⟨b,o,s⟩) l _=>(tsize P e).map fun n=>(decide (0 ≤ z ∧ z < l),.pointer (some ⟨b,o + z.toNat * n,s⟩))
    | some (.array l e),.pointer (some ⟨b,o,none⟩)=>(tsize P e).map fun n=>(decide (0 ≤ z ∧ z < l),.pointer (some ⟨b,o + z.toNat * n,none⟩))
    | _,_=>none
  | _=>none
def callA (E : Eqs) (g : FuncId) (args : Array Value) : AR:=
  match E.ext g args with
  | some (c,v)=>if args.toList.all flat && flat v then .chk c v else .bad
  | none=>.enter g args
theorem callA_cases (E : Eqs) (g : FuncId) (args : Array Value) : callA E g args = .enter g args ∨ (∃ c v,E.ext g args = some (c,v) ∧ args.toList.all flat = true ∧ flat v = true ∧ callA E g args = .chk c v) ∨ callA E g args = .bad:=by
  unfold callA
  split
  · rename_i c v h
    by_cases q : (args.toList.all flat && flat v) = true
    · rw [if_pos q]
      simp only [Bool.and_eq_true] at q
      exact .inr (.inl ⟨c,v,h,q.1,q.2,rfl⟩)
    · rw [if_neg q]; exact .inr (.inr rfl)
  · exact .inl rfl
def opA (P : Program) (E : Eqs) (o : Oper) (t : Array Value) (H : List Blk) : AR:=
  match o.op with
  | .move x | .assign x=>match ev t x with | some v=>.val v | none=>.bad
  | .pick c a b=>match ev t c,ev t a,ev t b with
    | some (.bool c),some a,some b=>.pick c a b
    | _,_,_=>.bad
  | .alloc T=>match tzero P T with
    | some z=>if z.cells.toList.all flat1 = true ∧ T < 1000000 then .mem (.pointer (some ⟨H.length,0,none⟩)) (H ++ [(z.cells,T)]) else .bad
    | none=>.bad
  | .box T x=>match ev t x with
    | some v=>if isRaw v = false ∧ T < 1000000 then .mem (.pointer (some ⟨H.length,0,none⟩)) (H ++ [(v.cells,T)]) else .bad
    | none=>.bad
  | .load T a=>match ev t a with
    | some (.pointer (some ⟨i,o,some _⟩))=>.opt (loadA P T (.pointer (some ⟨i,o,none⟩)) H)
    | some a=>match loadA P T a H with | some v=>.val v | none=>.bad
    | none=>.bad
  | .store T a x=>match ev t a,ev t x with
    | some a,some v=>match storeA P T a v H with | some G=>.mem undef G | none=>.bad
    | _,_=>.bad
  | .fieldAddr S x f=>match ev t x with
    | some (.pointer (some ⟨i,o,s⟩))=>match foff P S f with | some n=>.val (.pointer (some ⟨i,o + n,s⟩)) | none=>.bad
    | _=>.bad
  | .nilCheck x=>match ev t x with
    | some (.pointer (some a))=>.val (.pointer (some a))
    | some (.func (.func g) a c)=>.val (.func (.func g) a c)
    | _=>.bad
  | .extract x i=>match ev t x with
    | some (.tuple vs)=>match vs[i]? with | some v=>.val v | none=>.bad
    | _=>.bad
  | .makeFunc fn first captured=>match evs t first.toList,evs t captured.toList with
    | some a,some c=>.val (.func fn a.toArray c.toArray)
    | _,_=>.bad
  | .call c=>match c.callee with
    | .value g=>match ev t g,evs t c.args.toList with
      | some (.func (.func g) a cs),some args=>callA E g (a ++ args.toArray ++ cs)
      | _,_=>.bad
    | .builtin _=>match lenA P c t with | some v=>.val v | none=>pureA P o t
    | .invoke ..=>.bad
  | .buildSlice T len parts=>match sliceCells P T len parts t with
    | some (e,cs)=>if cs.toList.all flat1 = true ∧ e < 1000000 then .mem (.slice (some ⟨H.length,0,none⟩) len len) (H ++ [(cs,e)]) else .bad
    | none=>.bad
  | .indexAddr T x i=>match ev t x,ev t i with
    | some x,some i=>match indexA P T x i with | some (c,v)=>.chk c v | none=>.bad
    | _,_=>.bad
  | .binOp op T x y _=>binA P E o t op T x y
  | _=>pureA P o t
theorem evs_rel {m : List Nat} {t t' : Array Value} (h : RA m t t') : ∀ {l : List Operand} {vs : List Value},evs t l = some vs → RA m vs.toArray (l.map (act t').eval).toArray:=by
  intro l
  induction l with
  | nil=>intro vs hv; simp [evs] at hv; subst hv; exact ⟨rfl,fun i v v' h1=>by simp at h1⟩
  | cons x l ih=>
    intro vs hv
    simp only [evs,List.mapM_cons,Option.bind_eq_bind,Option.bind_eq_some_iff,Option.pure_def,Option.some.injEq] at hv
    obtain ⟨v,hx,us,hl,rfl⟩:=hv
    have ih':=ih hl
    refine ⟨by have:=ih'.size; simp at this ⊢; exact this,fun i u u' h1 h2=>?_⟩
    cases i with
    | zero=>simp at h1 h2; subst h1; subst h2; exact ev_rel h hx
    | succ i=>simp at h1 h2; exact ih'.at_ i u u' (by simpa using h1) (by simpa using h2)
section
variable {P : Program} {E : Eqs} {m : List Nat} {t t' : Array Value} {H : List Blk} {w : World} {o : Oper}
theorem pureA_run (ht : RA m t t') {v : Value} (h : pureA P o t = .val v) (w : World) :
    (execOp (act t').eval o).run P w = .ok (.value v) w ∧ flat v = true:=by
  unfold pureA at h
  cases hc : pureOk o t with
  | false=>rw [hc] at h; cases h
  | true=>
  rw [hc,cond_true] at h
  unfold pureOk at hc
  simp only [Bool.and_eq_true] at hc
  obtain ⟨hall,hsel⟩:=hc
  unfold pureV at h
  split at h
  case h_2=>cases h
  rename_i u hu
  cases hfl : flat u with
  | false=>rw [hfl] at h; cases h
  | true=>
  rw [hfl,cond_true] at h
  injection h with h
  subst h
  have he : execOp (act t').eval o = execOp (act t).eval o:=by
    refine execOp_congr o (fun cs b hs=>by simp [hs] at hsel) fun x hx=>?_
    have:=List.all_eq_true.1 hall x (by simpa using hx)
    cases hv : ev t x with
    | none=>simp [hv] at this
    | some v=>
      simp only [hv] at this
      rw [(ev_rel ht hv).eq_of_flat this,ev_eval hv]
  rw [he]
  exact ⟨prun_run hu w,hfl⟩
theorem pureA_ne (P : Program) (o : Oper) (t : Array Value) : (∃ v,pureA P o t = .val v) ∨ pureA P o t = .bad:=by
  unfold pureA pureV
  cases pureOk o t with
  | false=>exact .inr rfl
  | true=>
    rw [cond_true]
    split
    · rename_i v _
      cases flat v with
      | false=>exact .inr rfl
      | true=>exact .inl ⟨_,rfl⟩
    · exact .inr rfl
theorem lenA_run (ht : RA m t t') {c : Call} (ho : o.op = .call c) {v : Value} (h : lenA P c t = some v) (w : World) :
    (execOp (act t').eval o).run P w = .ok (.value v) w ∧ flat v = true:=by
  unfold lenA at h
  split at h
  case h_2=>cases h
  rename_i x T hc ha hT
  split at h
  case h_2=>cases h
  rename_i a n cap e hx hu
  simp only [Option.some.injEq] at h
  subst h
  obtain ⟨cal,az,ats⟩:=c
  obtain ⟨az⟩:=az
  obtain ⟨ats⟩:=ats
  simp only at hc ha hT
  subst hc; subst ha; subst hT
  have hv:=ev_rel ht hx
  generalize he : (act t').eval x = q at hv
  have hq : ∃ a' cap',q = .slice a' n cap':=by
    cases hv with
    | pl _ _=>exact ⟨_,_,rfl⟩
    | slice _ _ _ _ _ _ _=>exact ⟨_,_,rfl⟩
  obtain ⟨a',cap',rfl⟩:=hq
  refine ⟨?_,rfl⟩
  simp [execOp,ho,resolve,invoke,builtin,Builtin.len_,he,run_underlying hu w,goInt]
theorem sliceCells_run (ht : RA m t t') {T : TypeId} {len : Nat} {parts : Array (Nat × Operand)} (ho : o.op = .buildSlice T len parts) {e : TypeId} {cs : Array Value} (h : sliceCells P T len parts t = some (e,cs)) (w : World) :
    (execOp (act t').eval o).run P w = .ok (.value (.slice (some ⟨w.heap.size,0,none⟩) len len)) (w.alloc (.cells cs e)):=by
  unfold sliceCells at h
  split at h
  case h_2=>cases h
  rename_i e' hu
  split at h
  case h_2=>cases h
  rename_i n z hn hz
  cases hc0 : (partsOk t parts && decide (len * n ≤ 2 ^ 24)) with
  | false=>rw [hc0] at h; cases h
  | true=>
  rw [hc0,cond_true] at h
  have hc:=hc0
  simp only [Bool.and_eq_true,decide_eq_true_eq] at hc
  simp only [Option.map_eq_some_iff,Prod.mk.injEq] at h
  obtain ⟨cs',hf,h1,h2⟩:=h
  subst h1; subst h2
  have he : (parts.map fun p=>(p.1,(act t').eval p.2)) = parts.map fun p=>(p.1,(act t).eval p.2):=Array.map_congr_left fun p hp=>by
    have:=List.all_eq_true.1 hc.1 p (by simpa using hp)
    cases hv : ev t p.2 with
    | none=>simp [hv] at this
    | some v=>
      simp only [hv] at this
      rw [(ev_rel ht hv).eq_of_flat this,ev_eval hv]
  have hnot : ¬ len * n > 2 ^ 24:=by omega
  have hrun : (Instr.buildSlice T len (parts.map fun p=>(p.1,(act t').eval p.2))).run P w = .ok (.slice (some ⟨w.heap.size,0,none⟩) len len) (w.alloc (.cells cs' e')):=by
    rw [he]
    unfold Instr.buildSlice
    simp only [Sem.run_bind,run_underlying hu w,Result.andThen_ok,run_sizeOf hn w,hnot,if_false]
    by_cases h0 : len * n = 0
    · simp only [h0,if_true] at hf ⊢
      simp only [Sem.run_bind,Sem.run_pure,Result.andThen_ok,hf]
      rfl
    · simp only [h0,if_false] at hf ⊢
      simp only [Sem.run_bind,run_zeroValue hz w,Sem.run_pure,Result.andThen_ok,hf]
      rfl
  simp only [execOp,ho]
  rw [Sem.run_bind,hrun]
  rfl
theorem indexA_run {T : TypeId} {x i x' i' : Value} (hx : VR m x x') (hi : VR m i i') {c : Bool} {v : Value} (h : indexA P T x i = some (c,v)) (hc : c = true) (w : World) :
    ∃ v',(Instr.indexAt T x' i').run P w = .ok v' w ∧ VR m v v':=by
  unfold indexA at h
  split at h
  case h_2=>cases h
  rename_i k z
  have hi' : i' = .int k z:=hi.eq_of_flat rfl
  subst hi'
  split at h
  · rename_i e b off s l cap hu
    cases hn : tsize P e with
    | none=>simp [hn] at h
    | some n=>
      simp only [hn,Option.map_some,Option.some.injEq,Prod.mk.injEq] at h
      obtain ⟨h1,h2⟩:=h
      subst h2
      have hz : 0 ≤ z ∧ z < l:=by rw [hc] at h1; exact of_decide_eq_true h1
      cases hx with
      | pl _ h'=>simp [flat1] at h'
      | slice _ j _ _ _ _ hj=>
        refine ⟨_,?_,.ptr b j _ s hj⟩
        simp [Instr.indexAt,asIntOf,run_underlying hu w,run_sizeOf hn w,hz,add_off]
  · rename_i l e b off hu
    cases hn : tsize P e with
    | none=>simp [hn] at h
    | some n=>
      simp only [hn,Option.map_some,Option.some.injEq,Prod.mk.injEq] at h
      obtain ⟨h1,h2⟩:=h
      subst h2
      have hz : 0 ≤ z ∧ z < l:=by rw [hc] at h1; exact of_decide_eq_true h1
      cases hx with
      | pl _ h'=>simp [flat1] at h'
      | ptr _ j _ _ hj=>
        refine ⟨_,?_,.ptr b j _ none hj⟩
        simp [Instr.indexAt,asIntOf,run_underlying hu w,run_sizeOf hn w,hz,add_off,Instr.sureAddr]
  · cases h
theorem ev_int (ht : RA m t t') {x : Operand} {k : IntKind} {a : Int} (h : ev t x = some (.int k a)) : (act t').eval x = .int k a:=(ev_rel ht h).eq_of_flat rfl
theorem ev_bool (ht : RA m t t') {x : Operand} {b : Bool} (h : ev t x = some (.bool b)) : (act t').eval x = .bool b:=(ev_rel ht h).eq_of_flat rfl
theorem binA_val (ht : RA m t t') (hE : EqsOk P E) {op : BinOp} {T yT : TypeId} {x y : Operand} (ho : o.op = .binOp op T x y yT) {v : Value} (h : binA P E o t op T x y = .val v) (w : World) :
    (execOp (act t').eval o).run P w = .ok (.value v) w ∧ flat v = true:=by
  have agg : ∀ {z : Operand} {a : Array Value},ev t z = some (.agg a) → flat (.agg a) = true → (act t').eval z = .agg a:=fun hz hf=>(ev_rel ht hz).eq_of_flat hf
  unfold binA at h
  split at h
  all_goals try (exact pureA_run ht h w)
  all_goals split at h
  all_goals try (exact pureA_run ht h w)
  all_goals try (cases h; done)
  all_goals try (split at h <;> cases h; done)
  · rename_i a b hx hy
    split at h
    · rename_i r hr
      split at h
      · rename_i hf
        simp only [Bool.and_eq_true] at hf
        injection h with h
        subst h
        have:=(hE.eq T _ _ r hr x y w).1
        simp only [execOp,ho,agg hx hf.1,agg hy hf.2,Sem.run_bind,this]
        exact ⟨by simp,rfl⟩
      · cases h
    · cases h
  · rename_i a b hx hy
    split at h
    · rename_i r hr
      split at h
      · rename_i hf
        simp only [Bool.and_eq_true] at hf
        injection h with h
        subst h
        have:=(hE.eq T _ _ r hr x y w).2
        simp only [execOp,ho,agg hx hf.1,agg hy hf.2,Sem.run_bind,this]
        exact ⟨by simp,rfl⟩
      · cases h
    · cases h
theorem binA_chk (ht : RA m t t') {op : BinOp} {T yT : TypeId} {x y : Operand} (ho : o.op = .binOp op T x y yT) {c : Bool} {v : Value} (h : binA P E o t op T x y = .chk c v) (hc : c = true) (w : World) :
    (execOp (act t').eval o).run P w = .ok (.value v) w ∧ flat v = true:=by
  have np : ∀ {o : Oper},pureA P o t ≠ .chk c v:=fun {o} e=>by rcases pureA_ne P o t with ⟨u,hu⟩ | hu <;> rw [hu] at e <;> cases e
  unfold binA at h
  split at h
  all_goals try (exact absurd h np)
  all_goals split at h
  all_goals try (exact absurd h np)
  all_goals try (cases h; done)
  · rename_i k a k' b hx hy
    split at h
    · rename_i hk
      injection h with h1 h2
      subst hk; subst h2; subst h1
      have hb : b ≠ 0:=by simpa using hc
      exact ⟨by simp [execOp,ho,eqGuard,binOp,ev_int ht hx,ev_int ht hy,Op.intDiv,hb],rfl⟩
    · cases h
  · rename_i k a k' b hx hy
    split at h
    · rename_i hk
      injection h with h1 h2
      subst hk; subst h2; subst h1
      have hb : b ≠ 0:=by simpa using hc
      exact ⟨by simp [execOp,ho,eqGuard,binOp,ev_int ht hx,ev_int ht hy,Op.intDiv,hb],rfl⟩
    · cases h
  · rename_i k a k' b hx hy
    injection h with h1 h2
    subst h2; subst h1
    have hb : ¬ b < 0:=by have : 0 ≤ b:=by simpa using hc
                          omega
    exact ⟨by simp [execOp,ho,eqGuard,binOp,ev_int ht hx,ev_int ht hy,Op.shift,hb],rfl⟩
  · rename_i k a k' b hx hy
    injection h with h1 h2
    subst h2; subst h1
    have hb : ¬ b < 0:=by have : 0 ≤ b:=by simpa using hc
                          omega
    exact ⟨by simp [execOp,ho,eqGuard,binOp,ev_int ht hx,ev_int ht hy,Op.shift,hb],rfl⟩
  · split at h
    · split at h <;> cases h
    · cases h
  · split at h
    · split at h <;> cases h
    · cases h
end
end Go.Proofs.YtfhnlkinjbakgaaGreatDoor.Abs
namespace Go.Proofs.YtfhnlkinjbakgaaGreatDoor.Abs
open Go Go.RowKit
variable {P : Program} {E : Eqs} {m : List Nat} {t t' : Array Value} {H : List Blk} {w : World} {o : Oper}
theorem callA_ne {g : FuncId} {args : Array Value} {r : AR} (h : callA E g args = r) (h1 : ∀ f a,r ≠ .enter f a) (h2 : ∀ c v,r ≠ .chk c v) : r = .bad:=by
  rcases callA_cases E g args with e | ⟨c,v,_,_,_,e⟩ | e
  · exact absurd (h.symm.trans e) (h1 _ _)
  · exact absurd (h.symm.trans e) (h2 _ _)
  · exact h.symm.trans e
def opFree (o : Oper) : Bool:=
  match o.op with
  | .load .. | .call .. | .alloc .. | .box .. | .store .. | .buildSlice ..=>false
  | _=>true
theorem opA_val (ht : RA m t t') (hH : opFree o = false → RH m H w) (hE : EqsOk P E) {v : Value} (h : opA P E o t H = .val v) :
    ∃ v',(execOp (act t').eval o).run P w = .ok (.value v') w ∧ VR m v v':=by
  have pure_ : pureA P o t = .val v → ∃ v',(execOp (act t').eval o).run P w = .ok (.value v') w ∧ VR m v v':=fun h=>
    let ⟨h1,h2⟩:=pureA_run ht h w; ⟨v,h1,VR.refl_of_flat m h2⟩
  unfold opA at h
  split at h
  all_goals try (rename_i ho)
  all_goals try (exact pure_ h)
  ·
    rename_i x
    split at h
    · rename_i u hu
      injection h with h; subst h
      exact ⟨_,by simp [execOp,ho],ev_rel ht hu⟩
    · cases h
  ·
    rename_i x
    split at h
    · rename_i u hu
      injection h with h; subst h
      exact ⟨_,by simp [execOp,ho],ev_rel ht hu⟩
    · cases h
  · split at h <;> cases h
  · split at h
    · split at h <;> cases h
    · cases h
  · split at h <;> (try split at h) <;> cases h
  ·
    rename_i T a
    split at h
    · cases h
    · rename_i u _ hu
      split at h
      · rename_i u' hl
        injection h with h; subst h
        obtain ⟨v',hr,hv⟩:=loadA_run (hH (by simp [opFree,ho])) (ev_rel ht hu) hl
        exact ⟨v',by simp [execOp,ho,hr],hv⟩
      · cases h
    · cases h
  · split at h
    · split at h <;> cases h
    · cases h
  ·
    rename_i S x f
    split at h
    · rename_i i off s hu
      split at h
      · rename_i n hn
        injection h with h; subst h
        have hv:=ev_rel ht hu
        generalize he : (act t').eval x = q at hv
        cases hv with
        | pl _ h'=>simp [flat1] at h'
        | ptr _ j _ _ hj=>
          refine ⟨_,by simp only [execOp,ho,he,Sem.run_bind,run_fieldAt hn j off w,Result.andThen_ok,Sem.run_pure],.ptr i j (off + n) s hj⟩
      · cases h
    · cases h
  ·
    rename_i x
    split at h
    · rename_i a hu
      injection h with h; subst h
      have hv:=ev_rel ht hu
      generalize he : (act t').eval x = q at hv
      cases hv with
      | pl _ h'=>simp [flat1] at h'
      | ptr i j off s hj=>exact ⟨_,by simp [execOp,ho,he],.ptr i j off s hj⟩
    · rename_i g a c hu
      injection h with h; subst h
      have hv:=ev_rel ht hu
      generalize he : (act t').eval x = q at hv
      cases hv with
      | pl _ h'=>simp [flat1] at h'
      | func _ _ a' _ c' ha hc h1 h2=>exact ⟨_,by simp [execOp,ho,he],.func _ _ _ _ _ ha hc h1 h2⟩
    · cases h
  ·
    rename_i x i
    split at h
    · rename_i vs hu
      split at h
      · rename_i u hi
        injection h with h; subst h
        have hv:=ev_rel ht hu
        generalize he : (act t').eval x = q at hv
        cases hv with
        | pl _ h'=>simp [flat1] at h'
        | tuple _ vs' hs h1=>
          have hlt : i < vs'.size:=by rw [← hs]; exact (Array.getElem?_eq_some_iff.1 hi).1
          exact ⟨vs'[i],by simp [execOp,ho,he,Instr.extract,Array.getElem?_eq_getElem hlt],h1 i _ _ hi (Array.getElem?_eq_getElem hlt)⟩
      · cases h
    · cases h
  ·
    rename_i fn first captured
    split at h
    · rename_i a c ha hc
      injection h with h; subst h
      have ra:=evs_rel ht ha
      have rc:=evs_rel ht hc
      refine ⟨.func fn (first.map (act t').eval) (captured.map (act t').eval),by simp [execOp,ho,Instr.makeFunc],.func fn _ _ _ _ ?_ ?_ ?_ ?_⟩
      · have:=ra.size; simpa using this
      · have:=rc.size; simpa using this
      · intro i v v' h1 h2; exact ra.at_ i v v' h1 (by simpa using h2)
      · intro i v v' h1 h2; exact rc.at_ i v v' h1 (by simpa using h2)
    · cases h
  ·
    split at h
    · split at h <;> first | (cases h; done) | (have q:=callA_ne h (fun _ _ e=>by cases e) (fun _ _ e=>by cases e); cases q)
    · split at h
      · rename_i u hu
        injection h with h; subst h
        obtain ⟨h1,h2⟩:=lenA_run ht ho hu w
        exact ⟨u,h1,VR.refl_of_flat m h2⟩
      · exact pure_ h
    · cases h
  ·
    split at h
    · split at h <;> cases h
    · cases h
  ·
    split at h
    · split at h <;> cases h
    · cases h
  ·
    obtain ⟨h1,h2⟩:=binA_val ht hE ho h w
    exact ⟨v,h1,VR.refl_of_flat m h2⟩
theorem opA_mem (ht : RA m t t') (hH : RH m H w) {v : Value} {G : List Blk} (h : opA P E o t H = .mem v G) :
    ∃ w' v' n,((execOp (act t').eval o).run P w = .ok (.value v') w' ∨ ((execOp (act t').eval o).run P w = .ok .skip w' ∧ v' = undef)) ∧
      VR (m ++ n) v v' ∧ RH (m ++ n) G w' ∧ (∀ j ∈ n,w.heap.size ≤ j) ∧ Kept m w w':=by
  have np : ∀ {o : Oper},pureA P o t ≠ .mem v G:=fun {o} e=>by rcases pureA_ne P o t with ⟨u,hu⟩ | hu <;> rw [hu] at e <;> cases e
  unfold opA at h
  split at h
  all_goals try (rename_i ho)
  all_goals try (exact absurd h np)
  · split at h <;> cases h
  · split at h <;> cases h
  · split at h <;> cases h
  ·
    rename_i T
    split at h
    · rename_i z hz
      split at h
      · rename_i hfl
        obtain ⟨hfl,hT⟩:=hfl
        injection h with h1 h2
        subst h1; subst h2
        have hr : RA m z.cells z.cells:=⟨rfl,fun i v v' h1 h2=>by rw [h1] at h2; cases h2; exact .pl _ (all_flat1_at hfl h1)⟩
        refine ⟨w.alloc (.cells z.cells T),.pointer (some ⟨w.heap.size,0,none⟩),[w.heap.size],.inl ?_,?_,hH.alloc T hT hr,by simp,Kept.alloc _ _ _⟩
        · simp only [execOp,ho,Instr.alloc,Sem.run_bind,run_zeroValue hz w,Result.andThen_ok]
          rfl
        · exact .ptr _ _ _ _ (by rw [← hH.len]; simp)
      · cases h
    · cases h
  ·
    rename_i T x
    split at h
    · rename_i u hu
      split at h
      · rename_i hraw
        obtain ⟨hraw,hT⟩:=hraw
        injection h with h1 h2
        subst h1; subst h2
        have hr:=RA.cells (ev_rel ht hu) hraw
        refine ⟨w.alloc (.cells ((act t').eval x).cells T),.pointer (some ⟨w.heap.size,0,none⟩),[w.heap.size],.inl ?_,?_,hH.alloc T hT hr,by simp,Kept.alloc _ _ _⟩
        · simp only [execOp,ho,Instr.box]
          rfl
        · exact .ptr _ _ _ _ (by rw [← hH.len]; simp)
      · cases h
    · cases h
  · split at h <;> (try split at h) <;> cases h
  ·
    rename_i T a x
    split at h
    · rename_i ua ux ha hx
      split at h
      · rename_i G' hG
        injection h with h1 h2
        subst h1; subst h2
        obtain ⟨w',hr,hH',hk,_⟩:=storeA_run hH (ev_rel ht ha) (ev_rel ht hx) hG
        refine ⟨w',undef,[],.inr ⟨?_,rfl⟩,VR.undef _,by simpa using hH',by simp,hk⟩
        simp only [execOp,ho,Sem.run_bind,hr,Result.andThen_ok,Sem.run_pure]
      · cases h
    · cases h
  · split at h
    · split at h <;> cases h
    · cases h
  · split at h <;> cases h
  · split at h
    · split at h <;> cases h
    · cases h
  · split at h <;> cases h
  · split at h
    · split at h <;> first | (cases h; done) | (have q:=callA_ne h (fun _ _ e=>by cases e) (fun _ _ e=>by cases e); cases q)
    · split at h
      · cases h
      · exact absurd h np
    · cases h
  ·
    rename_i T len parts
    split at h
    · rename_i e cs hcs
      split at h
      · rename_i hfl
        obtain ⟨hfl,hT⟩:=hfl
        injection h with h1 h2
        subst h1; subst h2
        have hr : RA m cs cs:=⟨rfl,fun i v v' h1 h2=>by rw [h1] at h2; cases h2; exact .pl _ (all_flat1_at hfl h1)⟩
        exact ⟨_,_,[w.heap.size],.inl (sliceCells_run ht ho hcs w),.slice _ _ _ _ _ _ (by rw [← hH.len]; simp),hH.alloc e hT hr,by simp,Kept.alloc _ _ _⟩
      · cases h
    · cases h
  · split at h
    · split at h <;> cases h
    · cases h
  ·
    unfold binA at h
    split at h
    all_goals try (exact absurd h np)
    all_goals split at h
    all_goals try (exact absurd h np)
    all_goals try (cases h; done)
    all_goals (repeat' (split at h))
    all_goals cases h
theorem opA_pick (ht : RA m t t') {c : Bool} {a b : Value} (h : opA P E o t H = .pick c a b) (w : World) :
    ∃ v',(execOp (act t').eval o).run P w = .ok (.value v') w ∧ VR m (if c = true then a else b) v':=by
  have np : ∀ {o : Oper},pureA P o t ≠ .pick c a b:=fun {o} e=>by rcases pureA_ne P o t with ⟨u,hu⟩ | hu <;> rw [hu] at e <;> cases e
  unfold opA at h
  split at h
  all_goals try (rename_i ho)
  all_goals try (exact absurd h np)
  all_goals try (split at h <;> cases h; done)
  all_goals try (split at h <;> (try split at h) <;> (try split at h) <;> cases h; done)
  · rename_i xc xa xb
    split at h
    · rename_i c' a' b' hc ha hb
      injection h with h1 h2 h3
      subst h1; subst h2; subst h3
      refine ⟨if c' = true then (act t').eval xa else (act t').eval xb,by cases c' <;> simp [execOp,ho,ev_bool ht hc,asBool],?_⟩
      cases c'
      · simpa using ev_rel ht hb
      · simpa using ev_rel ht ha
    · cases h
  · split at h
    · split at h <;> first | (cases h; done) | (have q:=callA_ne h (fun _ _ e=>by cases e) (fun _ _ e=>by cases e); cases q)
    · split at h
      · cases h
      · exact absurd h np
    · cases h
  · unfold binA at h
    split at h
    all_goals try (exact absurd h np)
    all_goals split at h
    all_goals try (exact absurd h np)
    all_goals try (cases h; done)
    all_goals (repeat' (split at h))
    all_goals cases h
theorem opA_opt (ht : RA m t t') (hH : RH m H w) {x : Option Value} {v : Value} (h : opA P E o t H = .opt x) (hx : x = some v) :
    ∃ v',(execOp (act t').eval o).run P w = .ok (.value v') w ∧ VR m v v':=by
  have np : ∀ {o : Oper},pureA P o t ≠ .opt x:=fun {o} e=>by rcases pureA_ne P o t with ⟨u,hu⟩ | hu <;> rw [hu] at e <;> cases e
  unfold opA at h
  split at h
  all_goals try (rename_i ho)
  all_goals try (exact absurd h np)
  all_goals try (split at h <;> cases h; done)
  all_goals try (split at h <;> (try split at h) <;> cases h; done)
  ·
    rename_i T a
    split at h
    · rename_i i off s hu
      injection h with h
      subst h
      have ha:=ev_rel ht hu
      have ha0 : VR m (.pointer (some ⟨i,off,none⟩)) ((act t').eval a):=by
        generalize (act t').eval a = q at ha
        cases ha with
        | pl _ h'=>simp [flat1] at h'
        | ptr _ j _ _ hj=>exact .ptr i j off none hj
      obtain ⟨v',hr,hv⟩:=loadA_run hH ha0 hx
      exact ⟨v',by simp [execOp,ho,hr],hv⟩
    · split at h <;> cases h
    · cases h
  · split at h
    · split at h <;> first | (cases h; done) | (have q:=callA_ne h (fun _ _ e=>by cases e) (fun _ _ e=>by cases e); cases q)
    · split at h
      · cases h
      · exact absurd h np
    · cases h
  · unfold binA at h
    split at h
    all_goals try (exact absurd h np)
    all_goals split at h
    all_goals try (exact absurd h np)
    all_goals try (cases h; done)
    all_goals (repeat' (split at h))
    all_goals cases h
theorem opA_load (ht : RA m t t') {T : TypeId} {x : Operand} (ho : o.op = .load T x) {v : Value} (h : opA P E o t H = .val v) {j off : Nat} (hx : (act t').eval x = .pointer (some ⟨j,off,none⟩)) {w1 w' : World} (hH : RH m H w1) (hj : w'.heap[j]? = w1.heap[j]?) :
    ∃ v',(execOp (act t').eval o).run P w' = .ok (.value v') w' ∧ VR m v v':=by
  unfold opA at h
  simp only [ho] at h
  split at h
  · cases h
  · rename_i u _ hu
    split at h
    · rename_i u' hl
      injection h with h; subst h
      have ha:=ev_rel ht hu
      rw [hx] at ha
      obtain ⟨i,o',b,rfl,hb⟩:=loadA_ptr hl
      obtain ⟨hij,rfl⟩:=ha.ptr_inv
      obtain ⟨cs,hc,hr⟩:=hH.blk i j b hij hb
      obtain ⟨v',h1,h2⟩:=loadA_at (P:=P) (w:=w') hb (by rw [hj]; exact hc) hr hl
      exact ⟨v',by simp [execOp,ho,hx,h1],h2⟩
    · cases h
  · cases h
theorem load_kind {T : TypeId} {x : Operand} (ho : o.op = .load T x) : (∃ v,opA P E o t H = .val v) ∨ (∃ y,opA P E o t H = .opt y) ∨ opA P E o t H = .bad:=by
  unfold opA
  simp only [ho]
  split
  · exact .inr (.inl ⟨_,rfl⟩)
  · split
    · exact .inl ⟨_,rfl⟩
    · exact .inr (.inr rfl)
  · exact .inr (.inr rfl)
theorem call_args (ht : RA m t t') {c : Call} (ho : o.op = .call c) {g : Operand} (hg : c.callee = .value g) {g' : FuncId} {a cs : Array Value} {az : List Value} (hv : ev t g = some (.func (.func g') a cs)) (has : evs t c.args.toList = some az) :
    ∃ args',RA m (a ++ az.toArray ++ cs) args' ∧ ∀ (r : Next) (w w' : World),(callFunc g' args').run P w = .ok r w' → (execOp (act t').eval o).run P w = .ok r w':=by
  have rv:=ev_rel ht hv
  have ra:=evs_rel ht has
  generalize he : (act t').eval g = q at rv
  cases rv with
  | pl _ h'=>simp [flat1] at h'
  | func _ _ a' _ c' ha hc h1 h2=>
    refine ⟨a' ++ c.args.map (act t').eval ++ c',?_,fun r w w' hr=>by rw [Array.append_assoc] at hr; simp [execOp,ho,resolve,hg,he,Deferred.ofValue,invoke,hr]⟩
    have hs:=ra.size
    simp only [List.size_toArray,List.length_map,Array.length_toList] at hs
    refine ⟨by simp [ha,hc]; omega,fun i v v' k1 k2=>?_⟩
    simp only [Array.getElem?_append,Array.size_append,List.size_toArray,Array.size_map] at k1 k2
    by_cases q1 : i < a.size
    · rw [if_pos (by omega),if_pos q1] at k1
      rw [if_pos (by omega),if_pos (by omega)] at k2
      exact h1 i v v' k1 k2
    · by_cases q2 : i < a.size + az.length
      · rw [if_pos q2,if_neg q1] at k1
        rw [if_pos (by omega),if_neg (by omega)] at k2
        refine ra.at_ (i - a.size) v v' k1 ?_
        rw [← ha] at k2
        simpa using k2
      · rw [if_neg q2] at k1
        rw [if_neg (by omega)] at k2
        refine h2 (i - (a.size + az.length)) v v' k1 ?_
        rw [show i - (a.size + az.length) = i - (a'.size + c.args.size) by omega]
        exact k2
theorem RA.eq_of_flat {a a' : Array Value} (h : RA m a a') (hf : a.toList.all flat = true) : a' = a:=by
  refine Array.ext h.size.symm fun i h1 h2=>?_
  have hfl:=List.all_eq_true.1 hf a[i] (by simp)
  exact (h.at_ i _ _ (Array.getElem?_eq_getElem h2) (Array.getElem?_eq_getElem h1)).eq_of_flat hfl
theorem opA_chk (hE : EqsOk P E) (ht : RA m t t') {c : Bool} {v : Value} (h : opA P E o t H = .chk c v) (hc : c = true) (w : World) :
    ∃ v',(execOp (act t').eval o).run P w = .ok (.value v') w ∧ VR m v v':=by
  have np : ∀ {o : Oper},pureA P o t ≠ .chk c v:=fun {o} e=>by rcases pureA_ne P o t with ⟨u,hu⟩ | hu <;> rw [hu] at e <;> cases e
  unfold opA at h
  split at h
  all_goals try (rename_i ho)
  all_goals try (exact absurd h np)
  all_goals try (split at h <;> cases h; done)
  all_goals try (split at h <;> (try split at h) <;> cases h; done)
  · split at h
    · rename_i g hg
      split at h
      · rename_i g' a cs az hv has
        rcases callA_cases E g' (a ++ az.toArray ++ cs) with e | ⟨c2,v2,he,hf,hfv,e⟩ | e
        · rw [e] at h; cases h
        · rw [e] at h
          injection h with h1 h2
          subst h1; subst h2
          obtain ⟨args',hra,hrun⟩:=call_args (P:=P) ht ho hg hv has
          rw [hra.eq_of_flat hf] at hrun
          exact ⟨v2,hrun _ w w (hE.ext _ _ _ _ he hc w),VR.refl_of_flat m hfv⟩
        · rw [e] at h; cases h
      · cases h
    · split at h
      · cases h
      · exact absurd h np
    · cases h
  · rename_i T x i
    split at h
    · rename_i ux ui hx hi
      split at h
      · rename_i c' v' hix
        injection h with h1 h2
        subst h1; subst h2
        obtain ⟨v2,hr,hv⟩:=indexA_run (ev_rel ht hx) (ev_rel ht hi) hix hc w
        exact ⟨v2,by simp [execOp,ho,hr],hv⟩
      · cases h
    · cases h
  · obtain ⟨h1,h2⟩:=binA_chk ht ho h hc w
    exact ⟨v,h1,VR.refl_of_flat m h2⟩
def Callable (P : Program) (f : FuncId) : Prop := ∃ fn, P.funcs[f]? = some fn ∧ (fn.name == "runtime.NumGoroutine") = false ∧ fn.body.isNone = false
theorem run_callFunc {f : FuncId} (h : Callable P f) (args : Array Value) (w : World) : (callFunc f args).run P w = .ok (.enter f args) w:=by
  obtain ⟨fn,h1,h2,h3⟩:=h
  have h2' : ¬ fn.name = "runtime.NumGoroutine" := by simpa using h2
  have h3' : ¬ fn.body = none:=fun e=>by rw [e] at h3; cases h3
  simp [callFunc,program,Sem.run,Sem.run_bind,h1,h2',h3']
theorem opA_enter (ht : RA m t t') {f : FuncId} {args : Array Value} (h : opA P E o t H = .enter f args) (hf : Callable P f) (w : World) :
    ∃ args',(execOp (act t').eval o).run P w = .ok (.enter f args') w ∧ RA m args args':=by
  have np : ∀ {o : Oper},pureA P o t ≠ .enter f args:=fun {o} e=>by rcases pureA_ne P o t with ⟨u,hu⟩ | hu <;> rw [hu] at e <;> cases e
  unfold opA at h
  split at h
  all_goals try (rename_i ho)
  all_goals try (exact absurd h np)
  all_goals try (split at h <;> cases h; done)
  all_goals try (split at h <;> (try split at h) <;> (try split at h) <;> cases h; done)
  · rename_i c
    split at h
    · rename_i g hg
      split at h
      · rename_i g' a cs az hv has
        rcases callA_cases E g' (a ++ az.toArray ++ cs) with e | ⟨c2,v2,_,_,_,e⟩ | e
        · rw [e] at h
          injection h with h1 h2
          subst h1; subst h2
          obtain ⟨args',hra,hrun⟩:=call_args (P:=P) ht ho hg hv has
          exact ⟨args',hrun _ w w (run_callFunc hf args' w),hra⟩
        · rw [e] at h; cases h
        · rw [e] at h; cases h
      · cases h
    · split at h
      · cases h
      · exact absurd h np
    · cases h
  · unfold binA at h
    split at h
    all_goals try (exact absurd h np)
    all_goals split at h
    all_goals try (exact absurd h np)
    all_goals try (cases h; done)
    all_goals (repeat' (split at h))
    all_goals cases h
theorem free_enter {f : FuncId} {args : Array Value} (h : opA P E o t H = .enter f args) : opFree o = false:=by
  have np : ∀ {o : Oper},pureA P o t ≠ .enter f args:=fun {o} e=>by rcases pureA_ne P o t with ⟨u,hu⟩ | hu <;> rw [hu] at e <;> cases e
  unfold opA at h
  split at h
  all_goals try (rename_i ho)
  all_goals try (exact absurd h np)
  all_goals try (split at h <;> cases h; done)
  all_goals try (split at h <;> (try split at h) <;> (try split at h) <;> cases h; done)
  · simp [opFree,ho]
  · unfold binA at h
    split at h
    all_goals try (exact absurd h np)
    all_goals split at h
    all_goals try (exact absurd h np)
    all_goals try (cases h; done)
    all_goals (repeat' (split at h))
    all_goals cases h
end Go.Proofs.YtfhnlkinjbakgaaGreatDoor.Abs
namespace Go.Proofs.YtfhnlkinjbakgaaGreatDoor.Abs
open Go Go.RowKit
inductive T where
  | ret (v : Value) (H : List Blk)
  | head (todo : List Item) (t : Array Value) (H : List Blk)
  | ite (c : Bool) (a b : T)
  | call (f : FuncId) (args : Array Value) (H : List Blk) (k : Value → List Blk → T)
  | qcall (f : FuncId) (args : Array Value) (H : List Blk) (k : Value → T)
  | opt (x : Option Value) (k : Value → T)
  | both (a b : T)
  | fail
def putA (t : Array Value) (dst : Option Tmp) (v : Value) : Array Value:=
  match dst with
  | some d=>t.setIfInBounds d v
  | none=>t
def stepN (P : Program) (E : Eqs) (o : Oper) (t : Array Value) (H : List Blk) (K : Array Value → List Blk → T) : T:=
  match opA P E o t H with
  | .val v=>K (putA t o.dst v) H
  | .mem v G=>K (putA t o.dst v) G
  | .pick c a b=>.ite c (K (putA t o.dst a) H) (K (putA t o.dst b) H)
  | .chk c v=>.ite c (K (putA t o.dst v) H) .fail
  | .opt x=>.opt x fun v=>K (putA t o.dst v) H
  | .enter f args=>.call f args H fun v G=>K (putA t o.dst v) G
  | .bad=>.fail
def guarded (ops : Array Oper) (o : Oper) (t : Array Value) (go skip : Array Value → T) : T:=
  match o.guard with
  | none=>go t
  | some (j,want)=>
    match (ops[j]?).bind (·.dst) with
    | none=>skip t
    | some d=>
      match t[d]? with
      | some (.bool b)=>.ite b (let t1:=t.setIfInBounds d (.bool true); if want then go t1 else skip t1) (let t1:=t.setIfInBounds d (.bool false); if want then skip t1 else go t1)
      | some (.iface _ _)=>.fail
      | _=>skip t
def opsN (P : Program) (E : Eqs) (ops : Array Oper) (K : Array Value → List Blk → T) : List Oper → Array Value → List Blk → T
  | [],t,H=>K t H
  | o :: rest,t,H=>guarded ops o t (fun t=>stepN P E o t H fun t H=>opsN P E ops K rest t H) (fun t=>opsN P E ops K rest (putA t o.dst undef) H)
def resA (P : Program) (t : Array Value) (H : List Blk) : ResultVar → Option Value
  | .tmp i=>some (t.getD i undef)
  | .cell a T=>loadA P T (t.getD a undef) H
def retA (P : Program) (fn : Func) (t : Array Value) (H : List Blk) : T:=
  match fn.results.toList.mapM (resA P t H) with
  | some [v]=>.ret v H
  | some vs=>.ret (.tuple vs.toArray) H
  | none=>.fail
def Cfg (P : Program) (f : FuncId) (todo : List Item) (t : Array Value) (H : List Blk) (R : Value → List Blk → Prop) : Prop:=
  ∀ (m : List Nat) (t' : Array Value) (w : World),RA m t t' → RH m H w → ∀ (b : Frame) (cs : List Frame),b.fn = f → b.kind = .normal →
    ∃ (w' : World) (fr : Frame) (v v' : Value) (n : List Nat) (G : List Blk),Steps P (lone (b.at (act t') todo) cs w) (lone fr cs w') ∧ fr.fn = f ∧ fr.leaving P w' (.returned v') ∧
      VR (m ++ n) v v' ∧ RH (m ++ n) G w' ∧ (∀ j ∈ n,w.heap.size ≤ j) ∧ Kept m w w' ∧ R v G
def Fun (P : Program) (f : FuncId) (H : List Blk) (args : Array Value) (v : Value) (G : List Blk) : Prop:=
  Callable P f ∧ ∀ (m : List Nat) (args' : Array Value) (w : World),RA m args args' → RH m H w →
    Calls P f args' w fun e w'=>∃ v' n,e = .returned v' ∧ VR (m ++ n) v v' ∧ RH (m ++ n) G w' ∧ (∀ j ∈ n,w.heap.size ≤ j) ∧ Kept m w w'
def renum (sel : List Nat) : Value → Value
  | .pointer (some ⟨i,o,none⟩)=>.pointer (some ⟨sel.getD i 0,o,none⟩)
  | .slice (some ⟨i,o,none⟩) l c=>.slice (some ⟨sel.getD i 0,o,none⟩) l c
  | .func fn a c=>.func fn a (c.toList.map fun v=>match v with | .pointer (some ⟨i,o,none⟩)=>.pointer (some ⟨sel.getD i 0,o,none⟩) | v=>v).toArray
  | v=>v
def argOk (n : Nat) : Value → Bool
  | .pointer (some ⟨i,_,none⟩)=>decide (i < n)
  | .slice (some ⟨i,_,none⟩) _ _=>decide (i < n)
  | .func _ a c=>a.size == 0 && c.toList.all fun v=>match v with | .pointer (some ⟨i,_,none⟩)=>decide (i < n) | v=>flat1 v
  | v=>flat v
def shift1 (k : Nat) : Value → Value
  | .pointer (some ⟨i,o,none⟩)=>.pointer (some ⟨k + i,o,none⟩)
  | .slice (some ⟨i,o,s⟩) l c=>.slice (some ⟨k + i,o,s⟩) l c
  | v=>v
def shiftV (k : Nat) : Value → Value
  | .tuple vs=>.tuple (vs.toList.map fun v=>match v with | .agg cs=>.agg cs | v=>shift1 k v).toArray
  | .func fn a c=>.func fn a (c.toList.map (shift1 k)).toArray
  | v=>shift1 k v
def newOk : Value → Bool
  | .tuple vs=>vs.toList.all fun v=>match v with | .pointer (some ⟨_,_,none⟩)=>true | .slice (some _) _ _=>true | .agg cs=>cs.toList.all flat1 | v=>flat1 v
  | .func _ a c=>a.size == 0 && c.toList.all fun v=>match v with | .pointer (some ⟨_,_,none⟩)=>true | v=>flat1 v
  | .pointer (some ⟨_,_,none⟩)=>true
  | .slice (some _) _ _=>true
  | v=>flat v
def bare : Value → Bool
  | .func _ a c=>a.size == 0 && c.size == 0
  | _=>false
def calm (v : Value) : Bool:=flat1 v || isRaw v || bare v
theorem bare_flat {v : Value} (h : bare v = true) : flat v = true:=by cases v <;> first | exact h | (simp [bare] at h)
def FunR (P : Program) (f : FuncId) (H : List Blk) (args : Array Value) (S : Value → List Blk → Prop) : Prop:=
  Callable P f ∧ ∀ (m : List Nat) (args' : Array Value) (w : World),RA m args args' → RH m H w →
    Calls P f args' w fun e w'=>∃ v v' n G,e = .returned v' ∧ VR (m ++ n) v v' ∧ RH (m ++ n) G w' ∧ (∀ j ∈ n,w.heap.size ≤ j) ∧ Kept m w w' ∧ S v G
theorem Fun.toR {P : Program} {f : FuncId} {H : List Blk} {args : Array Value} {v : Value} {G : List Blk} (h : Fun P f H args v G) : FunR P f H args fun v' G'=>v' = v ∧ G' = G:=
  ⟨h.1,fun m args' w ha hH=>(h.2 m args' w ha hH).mono fun _ _ ⟨v',n,h1,h2,h3,h4,h5⟩=>⟨v,v',n,G,h1,h2,h3,h4,h5,rfl,rfl⟩⟩
def ren1 (ρ : Nat → Nat) : Value → Value
  | .pointer (some ⟨i,o,s⟩)=>.pointer (some ⟨ρ i,o,s⟩)
  | .slice (some ⟨i,o,s⟩) l c=>.slice (some ⟨ρ i,o,s⟩) l c
  | v=>v
def okc (n : Nat) : Value → Bool
  | .pointer (some ⟨i,_,_⟩)=>decide (i < n)
  | .slice (some ⟨i,_,_⟩) _ _=>decide (i < n)
  | v=>flat1 v || isRaw v
def okA (n : Nat) : Value → Bool
  | .agg cs=>cs.toList.all flat1
  | v=>okc n v
def renA (ρ : Nat → Nat) : Value → Value
  | .agg cs=>.agg cs
  | v=>ren1 ρ v
def okU (n : Nat) : Value → Bool
  | .tuple vs=>vs.toList.all (okA n)
  | v=>okA n v
def renU (ρ : Nat → Nat) : Value → Value
  | .tuple vs=>.tuple (vs.toList.map (renA ρ)).toArray
  | v=>renA ρ v
def renB (ρ : Nat → Nat) (b : Blk) : Blk:=((b.1.toList.map (ren1 ρ)).toArray,b.2)
def okB (n : Nat) (b : Blk) : Bool:=b.1.toList.all (okc n)
def calmB (b : Blk) : Bool:=b.1.toList.all calm
def selF (sel : List Nat) (i : Nat) : Nat:=sel.getD i 0
def backF (sel : List Nat) (k i : Nat) : Nat:=if i < sel.length then sel.getD i 0 else k + (i - sel.length)
def patch (H : List Blk) : List Nat → List Blk → List Blk
  | i :: sel,b :: X=>(patch H sel X).set i b
  | _,_=>H
def merge (H : List Blk) (zs xs : List Nat) (X : List Blk) : List Blk:=patch H xs (X.map (renB (backF (zs ++ xs) H.length))) ++ (X.drop xs.length).map (renB (backF (zs ++ xs) H.length))
inductive Run (P : Program) (f : FuncId) (R : Value → List Blk → Prop) : T → Prop
  | ret (v : Value) (H : List Blk) (h : R v H) : Run P f R (.ret v H)
  | head (todo : List Item) (t : Array Value) (H : List Blk) (h : Cfg P f todo t H R) : Run P f R (.head todo t H)
  | opt (x : Option Value) (k : Value → T) (v : Value) (h : x = some v) (hk : Run P f R (k v)) : Run P f R (.opt x k)
  | both (a b : T) (ha : Run P f R a) (hb : Run P f R b) : Run P f R (.both a b)
  | ite (c : Bool) (a b : T) (ha : c = true → Run P f R a) (hb : c = false → Run P f R b) : Run P f R (.ite c a b)
  | call (g : FuncId) (sel : List Nat) (H0 : List Blk) (args : Array Value) (H : List Blk) (k : Value → List Blk → T) (u : Value)
      (hF : Fun P g H0 args u H0) (hu : flat u = true) (hs : sel.mapM (fun i=>H[i]?) = some H0) (hc : H0.all (fun b=>b.1.toList.all flat) = true) (hn : sel.Nodup) (ho : args.toList.all (argOk sel.length) = true)
      (hk : Run P f R (k u H)) : Run P f R (.call g (args.toList.map (renum sel)).toArray H k)
  | qcall (g : FuncId) (sel : List Nat) (H0 : List Blk) (args : Array Value) (H : List Blk) (k : Value → T) (u : Value)
      (hF : Fun P g H0 args u H0) (hu : flat u = true) (hs : sel.mapM (fun i=>H[i]?) = some H0) (hc : H0.all (fun b=>b.1.toList.all flat) = true) (hn : sel.Nodup) (ho : args.toList.all (argOk sel.length) = true)
      (hk : Run P f R (k u)) : Run P f R (.qcall g (args.toList.map (renum sel)).toArray H k)
  | qcalm (g : FuncId) (zs : List Nat) (Z : List Blk) (args : Array Value) (H : List Blk) (k : Value → T) (u : Value)
      (hF : Fun P g Z args u Z) (hu : flat u = true) (hU : ∀ n,okU n u = true) (hz : zs.mapM (fun i=>H[i]?) = some Z) (hzc : Z.all calmB = true) (hn : zs.Nodup) (ho : args.toList.all (okA zs.length) = true)
      (hk : Run P f R (k u)) : Run P f R (.qcall g (args.toList.map (renA (selF zs))).toArray H k)
  | new (g : FuncId) (args : Array Value) (H : List Blk) (k : Value → List Blk → T) (S : Value → List Blk → Prop)
      (hF : FunR P g [] args S) (hS : ∀ u X,S u X → newOk u = true ∧ X.all (fun b=>b.1.toList.all calm) = true) (ho : args.toList.all flat = true)
      (hk : ∀ u X,S u X → Run P f R (k (shiftV H.length u) (H ++ X))) : Run P f R (.call g args H k)
  | chg (g : FuncId) (zs xs : List Nat) (Z X0 : List Blk) (args : Array Value) (H : List Blk) (k : Value → List Blk → T) (S : Value → List Blk → Prop)
      (hF : FunR P g (Z ++ X0) args fun u G=>∃ X,G = Z ++ X ∧ S u X) (hz : zs.mapM (fun i=>H[i]?) = some Z) (hzc : Z.all calmB = true) (hx : xs.mapM (fun i=>H[i]?) = some (X0.map (renB (selF (zs ++ xs)))))
      (hc : X0.all (okB (zs ++ xs).length) = true) (hn : (zs ++ xs).Nodup) (ho : args.toList.all (okA (zs ++ xs).length) = true)
      (hS : ∀ u X,S u X → xs.length ≤ X.length ∧ X.all (okB (zs.length + X.length)) = true ∧ okU (zs.length + X.length) u = true)
      (hk : ∀ u X,S u X → Run P f R (k (renU (backF (zs ++ xs) H.length) u) (merge H zs xs X))) : Run P f R (.call g (args.toList.map (renA (selF (zs ++ xs)))).toArray H k)
section
variable {P : Program} {E : Eqs} {m : List Nat} {t t' : Array Value} {H : List Blk} {w : World} {f : FuncId}
theorem RA.put (ht : RA m t t') {v v' : Value} (hv : VR m v v') (dst : Option Tmp) : RA m (putA t dst v) (putA t' dst v'):=by
  cases dst with
  | none=>exact ht
  | some d=>
    refine ⟨by simp [putA,ht.size],fun i u u' h1 h2=>?_⟩
    simp only [putA] at h1 h2
    by_cases e : d = i
    · subst e
      rw [Array.getElem?_setIfInBounds_self] at h1 h2
      split at h1
      · rename_i hlt
        rw [if_pos (by rw [← ht.size]; exact hlt)] at h2
        cases h1; cases h2
        exact hv
      · cases h1
    · rw [Array.getElem?_setIfInBounds_ne e] at h1 h2
      exact ht.at_ i u u' h1 h2
theorem act_put (t' : Array Value) (dst : Option Tmp) (v' : Value) : (act t').put dst v' = act (putA t' dst v'):=by cases dst <;> rfl
theorem select {H0 : List Blk} {sel : List Nat} (hH : RH m H w) (hs : sel.mapM (fun i=>H[i]?) = some H0) (hc : H0.all (fun b=>b.1.toList.all flat) = true) (hn : sel.Nodup) :
    ∃ m0,sel.mapM (fun i=>m[i]?) = some m0 ∧ RH m0 H0 w ∧ (∀ j ∈ m0,j ∈ m):=by
  have key : ∀ (sel : List Nat) (H0 : List Blk),sel.mapM (fun i=>H[i]?) = some H0 →
      ∃ m0,sel.mapM (fun i=>m[i]?) = some m0 ∧ m0.length = sel.length ∧ H0.length = sel.length ∧ (∀ (k i : Nat),sel[k]? = some i → m0[k]? = m[i]? ∧ H0[k]? = H[i]?) ∧ (∀ j ∈ m0,∃ i ∈ sel,m[i]? = some j):=by
    intro sel
    induction sel with
    | nil=>intro H0 h; simp at h; subst h; exact ⟨[],rfl,rfl,rfl,fun k i h=>by simp at h,fun j hj=>by simp at hj⟩
    | cons a sel ih=>
      intro H0 h
      simp only [List.mapM_cons,Option.bind_eq_bind,Option.bind_eq_some_iff,Option.pure_def,Option.some.injEq] at h
      obtain ⟨b,hb,H1,hH1,rfl⟩:=h
      obtain ⟨m1,e1,e2,e3,e4,e5⟩:=ih H1 hH1
      have hlt : a < m.length:=by rw [hH.len]; exact (List.getElem?_eq_some_iff.1 hb).1
      refine ⟨m[a] :: m1,?_,by simp [e2],by simp [e3],fun k i hk=>?_,fun j hj=>?_⟩
      · simp [List.mapM_cons,List.getElem?_eq_getElem hlt,e1]
      · cases k with
        | zero=>simp at hk; subst hk; exact ⟨by simp [List.getElem?_eq_getElem hlt],by simp [hb]⟩
        | succ k=>simp at hk; have:=e4 k i hk; exact ⟨by simpa using this.1,by simpa using this.2⟩
      · rcases List.mem_cons.1 hj with rfl | hj
        · exact ⟨a,by simp,List.getElem?_eq_getElem hlt⟩
        · obtain ⟨i,hi,hj⟩:=e5 j hj
          exact ⟨i,by simp [hi],hj⟩
  obtain ⟨m0,e1,e2,e3,e4,e5⟩:=key sel H0 hs
  refine ⟨m0,e1,⟨by rw [e2,e3],?_,fun i j b hj hb=>?_,hH.inv,fun i j b hj hb hT=>by
    have hi' : i < sel.length:=by rw [← e2]; exact (List.getElem?_eq_some_iff.1 hj).1
    have h4:=e4 i _ (List.getElem?_eq_getElem hi')
    rw [h4.1] at hj
    rw [h4.2] at hb
    exact hH.far _ j b hj hb hT⟩,fun j hj=>?_⟩
  · refine nodup_of_inj fun i j a hi hj=>?_
    have hi' : i < sel.length:=by rw [← e2]; exact (List.getElem?_eq_some_iff.1 hi).1
    have hj' : j < sel.length:=by rw [← e2]; exact (List.getElem?_eq_some_iff.1 hj).1
    rw [(e4 i _ (List.getElem?_eq_getElem hi')).1] at hi
    rw [(e4 j _ (List.getElem?_eq_getElem hj')).1] at hj
    have hij:=nodup_inj hH.nodup hi hj
    exact nodup_inj hn (List.getElem?_eq_getElem hi') (by rw [List.getElem?_eq_getElem hj',hij])
  · have hi' : i < sel.length:=by rw [← e2]; exact (List.getElem?_eq_some_iff.1 hj).1
    have h4:=e4 i _ (List.getElem?_eq_getElem hi')
    have hb0:=hb
    rw [h4.1] at hj
    rw [h4.2] at hb
    obtain ⟨cs,k1,k2⟩:=hH.blk _ j b hj hb
    refine ⟨cs,k1,k2.size,fun i v v' h1 h2=>?_⟩
    have hfb:=List.all_eq_true.1 hc b (List.mem_of_getElem? hb0)
    have hfl:=List.all_eq_true.1 hfb v (by rw [Array.mem_toList_iff]; exact Array.mem_of_getElem? h1)
    rw [(k2.at_ i v v' h1 h2).eq_of_flat hfl]
    exact VR.refl_of_flat _ hfl
  · obtain ⟨i,_,hj⟩:=e5 j hj
    exact List.mem_of_getElem? hj
end
end Go.Proofs.YtfhnlkinjbakgaaGreatDoor.Abs
namespace Go.Proofs.YtfhnlkinjbakgaaGreatDoor.Abs
open Go Go.RowKit
section
variable {P : Program} {E : Eqs} {f : FuncId}
theorem mapM_at {α β : Type} {φ : α → Option β} : ∀ {l : List α} {r : List β},l.mapM φ = some r → ∀ (k : Nat) (a : α),l[k]? = some a → r[k]? = φ a:=by
  intro l
  induction l with
  | nil=>intro r h k a hk; simp at hk
  | cons x l ih=>
    intro r h k a hk
    simp only [List.mapM_cons,Option.bind_eq_bind,Option.bind_eq_some_iff,Option.pure_def,Option.some.injEq] at h
    obtain ⟨y,hy,r',hr,rfl⟩:=h
    cases k with
    | zero=>simp at hk; subst hk; simp [hy]
    | succ k=>simp at hk; simpa using ih hr k a hk
theorem mapM_len {α β : Type} {φ : α → Option β} : ∀ {l : List α} {r : List β},l.mapM φ = some r → r.length = l.length:=by
  intro l
  induction l with
  | nil=>intro r h; simp at h; subst h; rfl
  | cons x l ih=>
    intro r h
    simp only [List.mapM_cons,Option.bind_eq_bind,Option.bind_eq_some_iff,Option.pure_def,Option.some.injEq] at h
    obtain ⟨y,hy,r',hr,rfl⟩:=h
    simp [ih hr]
theorem arg_rel {m m0 sel : List Nat} (hm : sel.mapM (fun i=>m[i]?) = some m0) {v v' : Value} (ho : argOk sel.length v = true) (h : VR m (renum sel v) v') : VR m0 v v':=by
  have ptr : ∀ (i o : Nat) (u' : Value),i < sel.length → VR m (.pointer (some ⟨sel.getD i 0,o,none⟩)) u' → VR m0 (.pointer (some ⟨i,o,none⟩)) u':=fun i o u' hi hv=>by
    cases hv with
    | pl _ h'=>simp [flat1] at h'
    | ptr _ j _ _ hj=>
      refine .ptr i j o none ?_
      rw [mapM_at hm i sel[i] (List.getElem?_eq_getElem hi)]
      simpa [List.getD,List.getElem?_eq_getElem hi] using hj
  have slc : ∀ (i o l c : Nat) (u' : Value),i < sel.length → VR m (.slice (some ⟨sel.getD i 0,o,none⟩) l c) u' → VR m0 (.slice (some ⟨i,o,none⟩) l c) u':=fun i o l c u' hi hv=>by
    cases hv with
    | pl _ h'=>simp [flat1] at h'
    | slice _ j _ _ _ _ hj=>
      refine .slice i j o l c none ?_
      rw [mapM_at hm i sel[i] (List.getElem?_eq_getElem hi)]
      simpa [List.getD,List.getElem?_eq_getElem hi] using hj
  have flat_ : flat v = true → VR m v v' → VR m0 v v':=fun hf hv=>by rw [hv.eq_of_flat hf]; exact VR.refl_of_flat m0 hf
  cases v with
  | pointer a=>
    cases a with
    | none=>exact flat_ rfl h
    | some a=>
      obtain ⟨i,o,s⟩:=a
      cases s with
      | none=>exact ptr i o v' (by simpa [argOk] using ho) h
      | some s=>simp [argOk,flat,flat1] at ho
  | func fn a c=>
    simp only [argOk,Bool.and_eq_true,beq_iff_eq] at ho
    simp only [renum] at h
    cases h with
    | pl _ h'=>simp [flat1] at h'
    | func _ _ a' _ c' ha hc h1 h2=>
      simp at hc
      refine .func fn a a' c c' ha hc (fun i v v' k1 _=>?_) fun i u u' k1 k2=>?_
      · rw [Array.getElem?_eq_none (by omega)] at k1; cases k1
      · have hu:=List.all_eq_true.1 ho.2 u (by rw [Array.mem_toList_iff]; exact Array.mem_of_getElem? k1)
        have k3:=h2 i _ u' (by rw [List.getElem?_toArray,List.getElem?_map,Array.getElem?_toList,k1]; rfl) k2
        cases u with
        | pointer q=>
          cases q with
          | none=>rw [VR.eq_of_flat (v:=.pointer none) rfl k3]; exact .pl _ rfl
          | some q=>
            obtain ⟨i,o,s⟩:=q
            cases s with
            | none=>exact ptr i o u' (by simpa using hu) k3
            | some s=>simp [flat1] at hu
        | _=>first | (simp [flat1] at hu; done) | (rw [VR.eq_of_flat (by first | rfl | exact hu) k3]; exact .pl _ hu)
  | slice a l c=>
    cases a with
    | none=>exact flat_ rfl h
    | some a=>
      obtain ⟨i,o,s⟩:=a
      cases s with
      | none=>exact slc i o l c v' (by simpa [argOk] using ho) h
      | some s=>simp [argOk,flat,flat1] at ho
  | agg cs=>exact flat_ ho h
  | tuple cs=>exact flat_ ho h
  | _=>exact flat_ ho h
theorem args_rel {m m0 sel : List Nat} (hm : sel.mapM (fun i=>m[i]?) = some m0) {args args' : Array Value} (ho : args.toList.all (argOk sel.length) = true)
    (h : RA m (args.toList.map (renum sel)).toArray args') : RA m0 args args':=by
  refine ⟨by have:=h.size; simpa using this,fun i v v' h1 h2=>?_⟩
  refine arg_rel hm (List.all_eq_true.1 ho v (by rw [Array.mem_toList_iff]; exact Array.mem_of_getElem? h1)) (h.at_ i _ v' ?_ h2)
  rw [List.getElem?_toArray,List.getElem?_map,Array.getElem?_toList,h1]; rfl
theorem call_reads {m : List Nat} {H H0 : List Blk} {w : World} {g : FuncId} {sel : List Nat} {args args' : Array Value} {u : Value} (hH : RH m H w)
    (hF : Fun P g H0 args u H0) (hu : flat u = true) (hs : sel.mapM (fun i=>H[i]?) = some H0) (hc : H0.all (fun b=>b.1.toList.all flat) = true) (hn : sel.Nodup) (ho : args.toList.all (argOk sel.length) = true)
    (ha : RA m (args.toList.map (renum sel)).toArray args') : Calls P g args' w fun e w'=>e = .returned u ∧ Below w.heap.size w w':=by
  obtain ⟨m0,hm0,hH0,_⟩:=select hH hs hc hn
  refine (hF.2 m0 args' w (args_rel hm0 ho ha) hH0).mono ?_
  rintro e w' ⟨v',n,rfl,hv,hH',_,hk⟩
  have hn0 : n = []:=by
    have h1:=hH'.len
    have h2:=hH0.len
    simp at h1
    exact List.length_eq_zero_iff.1 (by omega)
  subst hn0
  rw [List.append_nil] at hv hH'
  exact ⟨by rw [hv.eq_of_flat hu],hH0.below_of hH' hk⟩
theorem shift1_rel {m : List Nat} {k : Nat} (n : List Nat) (hk : m.length = k) {v v' : Value} (h : VR n v v') : (flat1 v = true ∨ (∃ i o,v = .pointer (some ⟨i,o,none⟩)) ∨ ∃ i o s l c,v = .slice (some ⟨i,o,s⟩) l c) → VR (m ++ n) (shift1 k v) v':=by
  rintro (hf | ⟨i,o,rfl⟩ | ⟨i,o,s,l,c,rfl⟩)
  · have e : shift1 k v = v:=by
      cases v with
      | slice a l c=>cases a with
        | none=>rfl
        | some a=>simp [flat1] at hf
      | pointer a=>cases a with
        | none=>rfl
        | some a=>simp [flat1] at hf
      | _=>rfl
    rw [e]
    have : flat v = true:=by cases v <;> first | exact hf | (simp [flat1] at hf)
    rw [h.eq_of_flat this]
    exact .pl v hf
  · cases h with
    | pl _ h'=>simp [flat1] at h'
    | ptr _ j _ _ hj=>
      refine .ptr (k + i) j o none ?_
      rw [List.getElem?_append_right (by omega)]
      simpa [hk] using hj
  · cases h with
    | pl _ h'=>simp [flat1] at h'
    | slice _ j _ _ _ _ hj=>
      refine .slice (k + i) j o l c s ?_
      rw [List.getElem?_append_right (by omega)]
      simpa [hk] using hj
theorem shift_rel {m n : List Nat} {k : Nat} (hk : m.length = k) {u v' : Value} (hu : newOk u = true) (h : VR n u v') : VR (m ++ n) (shiftV k u) v':=by
  have flat_ : ∀ {u v' : Value},flat u = true → VR n u v' → VR (m ++ n) u v':=fun hf hv=>by rw [hv.eq_of_flat hf]; exact VR.refl_of_flat _ hf
  cases u with
  | tuple vs=>
    simp only [newOk] at hu
    cases h with
    | pl _ h'=>simp [flat1] at h'
    | tuple _ vs' hs h1=>
      refine .tuple _ vs' (by simpa using hs) fun i u u' k1 k2=>?_
      simp only [List.getElem?_toArray,List.getElem?_map,Array.getElem?_toList,Option.map_eq_some_iff] at k1
      obtain ⟨q,hq,rfl⟩:=k1
      have hq':=List.all_eq_true.1 hu q (by rw [Array.mem_toList_iff]; exact Array.mem_of_getElem? hq)
      have hr:=h1 i q u' hq k2
      cases q with
      | agg cs=>exact flat_ (by exact hq') hr
      | pointer a=>
        cases a with
        | none=>exact shift1_rel n hk hr (.inl rfl)
        | some a=>
          obtain ⟨i,o,s⟩:=a
          cases s with
          | none=>exact shift1_rel n hk hr (.inr (.inl ⟨i,o,rfl⟩))
          | some s=>simp [flat1] at hq'
      | slice a l c=>
        cases a with
        | none=>exact shift1_rel n hk hr (.inl rfl)
        | some a=>obtain ⟨i,o,s⟩:=a; exact shift1_rel n hk hr (.inr (.inr ⟨i,o,s,l,c,rfl⟩))
      | _=>exact shift1_rel n hk hr (.inl hq')
  | func fn a c=>
    simp only [newOk,Bool.and_eq_true,beq_iff_eq] at hu
    cases h with
    | pl _ h'=>simp [flat1] at h'
    | func _ _ a' _ c' ha hc h1 h2=>
      refine .func fn a a' _ c' ha (by simpa using hc) (fun i v v' k1 _=>?_) fun i q q' k1 k2=>?_
      · rw [Array.getElem?_eq_none (by omega)] at k1; cases k1
      · simp only [List.getElem?_toArray,List.getElem?_map,Array.getElem?_toList,Option.map_eq_some_iff] at k1
        obtain ⟨q,hq,rfl⟩:=k1
        have hq':=List.all_eq_true.1 hu.2 q (by rw [Array.mem_toList_iff]; exact Array.mem_of_getElem? hq)
        have hr:=h2 i q q' hq k2
        cases q with
        | pointer a=>
          cases a with
          | none=>exact shift1_rel n hk hr (.inl rfl)
          | some a=>
            obtain ⟨i,o,s⟩:=a
            cases s with
            | none=>exact shift1_rel n hk hr (.inr (.inl ⟨i,o,rfl⟩))
            | some s=>simp [flat1] at hq'
        | _=>exact shift1_rel n hk hr (.inl hq')
  | pointer a=>
    cases a with
    | none=>exact shift1_rel n hk h (.inl rfl)
    | some a=>
      obtain ⟨i,o,s⟩:=a
      cases s with
      | none=>exact shift1_rel n hk h (.inr (.inl ⟨i,o,rfl⟩))
      | some s=>simp [newOk,flat,flat1] at hu
  | agg cs=>exact flat_ hu h
  | slice a l c=>cases a with
    | none=>exact flat_ hu h
    | some a=>obtain ⟨i,o,s⟩:=a; exact shift1_rel n hk h (.inr (.inr ⟨i,o,s,l,c,rfl⟩))
  | _=>exact flat_ hu h
theorem RH.beside {m n : List Nat} {H X : List Blk} {w w' : World} (hH : RH m H w) (hX : RH n X w') (hfl : X.all (fun b=>b.1.toList.all calm) = true) (hn : ∀ j ∈ n,w.heap.size ≤ j) (hk : Kept [] w w') : RH (m ++ n) (H ++ X) w':=by
  refine ⟨by simp [hH.len,hX.len],?_,fun i j b hj hb=>?_,hX.inv,hH.far.append hH.len hX.far⟩
  · rw [List.nodup_append]
    refine ⟨hH.nodup,hX.nodup,fun a ha b hb=>?_⟩
    have h1:=hH.lt_of_mem ha
    have h2:=hn b hb
    omega
  · by_cases hi : i < m.length
    · rw [List.getElem?_append_left hi] at hj
      rw [List.getElem?_append_left (by rw [← hH.len]; exact hi)] at hb
      obtain ⟨cs,hc,hr⟩:=hH.blk i j b hj hb
      exact ⟨cs,by rw [hk.block j (hH.lt hj) (by simp)]; exact hc,hr.mono n⟩
    · rw [List.getElem?_append_right (by omega)] at hj
      rw [List.getElem?_append_right (by rw [← hH.len]; omega),← hH.len] at hb
      obtain ⟨cs,hc,hr⟩:=hX.blk _ j b hj hb
      refine ⟨cs,hc,hr.size,fun i v v' h1 h2=>?_⟩
      have hf:=List.all_eq_true.1 hfl b (List.mem_of_getElem? hb)
      have hv:=List.all_eq_true.1 hf v (by rw [Array.mem_toList_iff]; exact Array.mem_of_getElem? h1)
      simp only [calm,Bool.or_eq_true] at hv
      have h3:=hr.at_ i v v' h1 h2
      rcases hv with (hv | hv) | hv
      · have : flat v = true:=by cases v <;> first | exact hv | (simp [flat1] at hv)
        rw [h3.eq_of_flat this]
        exact .pl v hv
      rotate_left
      · rw [h3.eq_of_flat (bare_flat hv)]
        exact VR.refl_of_flat _ (bare_flat hv)
      · cases h3 with
        | pl _ h=>exact .pl _ h
        | raw v'=>exact .raw v'
        | _=>simp [isRaw] at hv
theorem call_new {m : List Nat} {H : List Blk} {w : World} {g : FuncId} {args args' : Array Value} {S : Value → List Blk → Prop} (hH : RH m H w)
    (hF : FunR P g [] args S) (hS : ∀ u X,S u X → newOk u = true ∧ X.all (fun b=>b.1.toList.all calm) = true) (ho : args.toList.all flat = true) (ha : RA m args args') :
    Calls P g args' w fun e w'=>∃ u X v' n,e = .returned v' ∧ VR (m ++ n) (shiftV H.length u) v' ∧ RH (m ++ n) (H ++ X) w' ∧ (∀ j ∈ n,w.heap.size ≤ j) ∧ Kept m w w' ∧ S u X:=by
  have ha0 : RA [] args args':=⟨ha.size,fun i v v' h1 h2=>by
    have hf:=List.all_eq_true.1 ho v (by rw [Array.mem_toList_iff]; exact Array.mem_of_getElem? h1)
    rw [(ha.at_ i v v' h1 h2).eq_of_flat hf]
    exact VR.refl_of_flat _ hf⟩
  refine (hF.2 [] args' w ha0 (RH.nil w hH.inv)).mono ?_
  rintro e w' ⟨u,v',n,X,rfl,hv,hH',hn,hk,hs⟩
  rw [List.nil_append] at hv hH'
  exact ⟨u,X,v',n,rfl,shift_rel hH.len (hS u X hs).1 hv,hH.beside hH' (hS u X hs).2 hn hk,hn,⟨hk.os,hk.tape,hk.output,hk.size,fun k h1 _=>hk.block k h1 (by simp)⟩,hs⟩
theorem ren1_flat {ρ : Nat → Nat} {v : Value} (h : (flat1 v || isRaw v) = true) : ren1 ρ v = v:=by
  cases v with
  | pointer a=>cases a with
    | none=>rfl
    | some a=>simp [flat1,isRaw] at h
  | slice a l c=>cases a with
    | none=>rfl
    | some a=>simp [flat1,isRaw] at h
  | _=>rfl
theorem VR.kept1 {m M : List Nat} {v v' : Value} (h : (flat1 v || isRaw v) = true) (hv : VR m v v') : VR M v v':=by
  cases hv with
  | pl _ hf=>exact .pl _ hf
  | raw v'=>exact .raw v'
  | _=>simp [flat1,isRaw] at h
theorem VR.calm {m M : List Nat} {v v' : Value} (h : Abs.calm v = true) (hv : VR m v v') : VR M v v':=by
  unfold Abs.calm at h
  cases hb : bare v with
  | false=>rw [hb,Bool.or_false] at h; exact hv.kept1 h
  | true=>
    rw [hv.eq_of_flat (bare_flat hb)]
    exact VR.refl_of_flat _ (bare_flat hb)
theorem RA.calm {m M : List Nat} {b : Blk} {cs : Array Value} (h : calmB b = true) (hv : RA m b.1 cs) : RA M b.1 cs:=
  ⟨hv.size,fun i v v' h1 h2=>(hv.at_ i v v' h1 h2).calm (List.all_eq_true.1 h v (by rw [Array.mem_toList_iff]; exact Array.mem_of_getElem? h1))⟩
theorem ren_rel {m M : List Nat} {ρ : Nat → Nat} {n : Nat} (hm : ∀ i j,i < n → m[i]? = some j → M[ρ i]? = some j) {v v' : Value} (ho : okc n v = true) (hv : VR m v v') : VR M (ren1 ρ v) v':=by
  have plain : (flat1 v || isRaw v) = true → VR M (ren1 ρ v) v':=fun h=>by rw [ren1_flat h]; exact hv.kept1 h
  cases v with
  | pointer a=>
    cases a with
    | none=>exact plain rfl
    | some a=>
      obtain ⟨i,o,s⟩:=a
      cases hv with
      | pl _ h'=>simp [flat1] at h'
      | ptr _ j _ _ hj=>exact .ptr _ _ _ _ (hm i j (by simpa [okc] using ho) hj)
  | slice a l c=>
    cases a with
    | none=>exact plain rfl
    | some a=>
      obtain ⟨i,o,s⟩:=a
      cases hv with
      | pl _ h'=>simp [flat1] at h'
      | slice _ j _ _ _ _ hj=>exact .slice _ _ _ _ _ _ (hm i j (by simpa [okc] using ho) hj)
  | _=>exact plain ho
theorem unren_rel {m M : List Nat} {ρ : Nat → Nat} {n : Nat} (hm : ∀ i j,i < n → m[ρ i]? = some j → M[i]? = some j) {v v' : Value} (ho : okc n v = true) (hv : VR m (ren1 ρ v) v') : VR M v v':=by
  have plain : (flat1 v || isRaw v) = true → VR M v v':=fun h=>by rw [ren1_flat h] at hv; exact hv.kept1 h
  cases v with
  | pointer a=>
    cases a with
    | none=>exact plain rfl
    | some a=>
      obtain ⟨i,o,s⟩:=a
      change VR m (.pointer (some ⟨ρ i,o,s⟩)) v' at hv
      cases hv with
      | pl _ h'=>simp [flat1] at h'
      | ptr _ j _ _ hj=>exact .ptr _ _ _ _ (hm i j (by simpa [okc] using ho) hj)
  | slice a l c=>
    cases a with
    | none=>exact plain rfl
    | some a=>
      obtain ⟨i,o,s⟩:=a
      change VR m (.slice (some ⟨ρ i,o,s⟩) l c) v' at hv
      cases hv with
      | pl _ h'=>simp [flat1] at h'
      | slice _ j _ _ _ _ hj=>exact .slice _ _ _ _ _ _ (hm i j (by simpa [okc] using ho) hj)
  | _=>exact plain ho
theorem renA_rel {m M : List Nat} {ρ : Nat → Nat} {n : Nat} (hm : ∀ i j,i < n → m[i]? = some j → M[ρ i]? = some j) {v v' : Value} (ho : okA n v = true) (hv : VR m v v') : VR M (renA ρ v) v':=by
  cases v with
  | agg cs=>
    rw [VR.eq_of_flat (v:=.agg cs) ho hv]
    exact VR.refl_of_flat (v:=.agg cs) _ ho
  | _=>exact ren_rel (n:=n) hm (by exact ho) hv
theorem unrenA_rel {m M : List Nat} {ρ : Nat → Nat} {n : Nat} (hm : ∀ i j,i < n → m[ρ i]? = some j → M[i]? = some j) {v v' : Value} (ho : okA n v = true) (hv : VR m (renA ρ v) v') : VR M v v':=by
  cases v with
  | agg cs=>
    have hv' : VR m (.agg cs) v':=hv
    rw [VR.eq_of_flat (v:=.agg cs) ho hv']
    exact VR.refl_of_flat (v:=.agg cs) _ ho
  | _=>exact unren_rel (n:=n) hm (by exact ho) hv
theorem renU_rel {m M : List Nat} {ρ : Nat → Nat} {n : Nat} (hm : ∀ i j,i < n → m[i]? = some j → M[ρ i]? = some j) {v v' : Value} (ho : okU n v = true) (hv : VR m v v') : VR M (renU ρ v) v':=by
  cases v with
  | tuple vs=>
    cases hv with
    | pl _ h'=>simp [flat1] at h'
    | tuple _ vs' hs h1=>
      refine .tuple _ vs' (by simpa using hs) fun i u u' k1 k2=>?_
      simp only [List.getElem?_toArray,List.getElem?_map,Array.getElem?_toList,Option.map_eq_some_iff] at k1
      obtain ⟨q,hq,rfl⟩:=k1
      exact renA_rel hm (List.all_eq_true.1 ho q (by rw [Array.mem_toList_iff]; exact Array.mem_of_getElem? hq)) (h1 i q u' hq k2)
  | _=>exact renA_rel (n:=n) hm (by exact ho) hv
theorem renB_rel {m M : List Nat} {ρ : Nat → Nat} {n : Nat} (hm : ∀ i j,i < n → m[i]? = some j → M[ρ i]? = some j) {b : Blk} {cs : Array Value} (ho : okB n b = true) (h : RA m b.1 cs) : RA M (renB ρ b).1 cs:=by
  refine ⟨by simpa [renB] using h.size,fun i u u' k1 k2=>?_⟩
  simp only [renB,List.getElem?_toArray,List.getElem?_map,Array.getElem?_toList,Option.map_eq_some_iff] at k1
  obtain ⟨q,hq,rfl⟩:=k1
  exact ren_rel hm (List.all_eq_true.1 ho q (by rw [Array.mem_toList_iff]; exact Array.mem_of_getElem? hq)) (h.at_ i q u' hq k2)
theorem unrenB_rel {m M : List Nat} {ρ : Nat → Nat} {n : Nat} (hm : ∀ i j,i < n → m[ρ i]? = some j → M[i]? = some j) {b : Blk} {cs : Array Value} (ho : okB n b = true) (h : RA m (renB ρ b).1 cs) : RA M b.1 cs:=by
  refine ⟨by simpa [renB] using h.size,fun i u u' k1 k2=>?_⟩
  refine unren_rel hm (List.all_eq_true.1 ho u (by rw [Array.mem_toList_iff]; exact Array.mem_of_getElem? k1)) (h.at_ i (ren1 ρ u) u' ?_ k2)
  simp only [renB,List.getElem?_toArray,List.getElem?_map,Array.getElem?_toList,k1]
  rfl
theorem patch_len (H : List Blk) : ∀ (sel : List Nat) (X : List Blk),(patch H sel X).length = H.length
  | [],_=>rfl
  | _ :: _,[]=>rfl
  | _ :: sel,_ :: X=>by simp [patch,patch_len H sel X]
theorem patch_out (H : List Blk) : ∀ (sel : List Nat) (X : List Blk) (i : Nat),i ∉ sel → (patch H sel X)[i]? = H[i]?
  | [],_,_,_=>rfl
  | _ :: _,[],_,_=>rfl
  | a :: sel,b :: X,i,h=>by
    have ha : a ≠ i:=fun e=>h (by simp [e])
    simp only [patch,List.getElem?_set_ne ha]
    exact patch_out H sel X i fun hi=>h (by simp [hi])
theorem patch_in (H : List Blk) : ∀ (sel : List Nat) (X : List Blk) (k i : Nat),sel.Nodup → sel[k]? = some i → i < H.length → sel.length ≤ X.length → (patch H sel X)[i]? = X[k]?
  | [],_,_,_,_,h,_,_=>by simp at h
  | _ :: _,[],_,_,_,_,_,hl=>by simp at hl
  | a :: sel,b :: X,k,i,hn,hk,hi,hl=>by
    have hn':=List.nodup_cons.1 hn
    cases k with
    | zero=>
      simp at hk
      subst hk
      simp only [patch]
      rw [List.getElem?_set_self (by rw [patch_len]; exact hi)]
      rfl
    | succ k=>
      simp at hk
      have ha : a ≠ i:=fun e=>hn'.1 (by rw [e]; exact List.mem_of_getElem? hk)
      simp only [patch,List.getElem?_set_ne ha]
      rw [patch_in H sel X k i hn'.2 hk hi (by simpa using hl)]
      rfl
theorem call_chg {m : List Nat} {H Z X0 : List Blk} {w : World} {g : FuncId} {zs xs : List Nat} {args args' : Array Value} {S : Value → List Blk → Prop} (hH : RH m H w)
    (hF : FunR P g (Z ++ X0) args fun u G=>∃ X,G = Z ++ X ∧ S u X) (hz : zs.mapM (fun i=>H[i]?) = some Z) (hzc : Z.all calmB = true) (hx : xs.mapM (fun i=>H[i]?) = some (X0.map (renB (selF (zs ++ xs)))))
    (hc : X0.all (okB (zs ++ xs).length) = true) (hn : (zs ++ xs).Nodup) (ho : args.toList.all (okA (zs ++ xs).length) = true)
    (hS : ∀ u X,S u X → xs.length ≤ X.length ∧ X.all (okB (zs.length + X.length)) = true ∧ okU (zs.length + X.length) u = true) (ha : RA m (args.toList.map (renA (selF (zs ++ xs)))).toArray args') :
    Calls P g args' w fun e w'=>∃ u X v' n,e = .returned v' ∧ VR (m ++ n) (renU (backF (zs ++ xs) H.length) u) v' ∧ RH (m ++ n) (merge H zs xs X) w' ∧ (∀ j ∈ n,w.heap.size ≤ j) ∧ Kept m w w' ∧ S u X:=by
  have hlz : Z.length = zs.length:=mapM_len hz
  have hlx : X0.length = xs.length:=by have:=mapM_len hx; simpa using this
  have hsz : ∀ k i,zs[k]? = some i → i < H.length:=fun k i hk=>by
    have h1:=mapM_at hz k i hk
    have hk' : k < Z.length:=by rw [hlz]; exact (List.getElem?_eq_some_iff.1 hk).1
    rw [List.getElem?_eq_getElem hk'] at h1
    exact (List.getElem?_eq_some_iff.1 h1.symm).1
  have hsx : ∀ k i,xs[k]? = some i → i < H.length:=fun k i hk=>by
    have h1:=mapM_at hx k i hk
    have hk' : k < X0.length:=by rw [hlx]; exact (List.getElem?_eq_some_iff.1 hk).1
    rw [List.getElem?_map,List.getElem?_eq_getElem hk'] at h1
    exact (List.getElem?_eq_some_iff.1 h1.symm).1
  generalize hsel : zs ++ xs = sel at *
  have hll : sel.length = zs.length + xs.length:=by rw [← hsel,List.length_append]
  have hleft : ∀ k,k < zs.length → sel[k]? = zs[k]?:=fun k hk=>by rw [← hsel,List.getElem?_append_left hk]
  have hright : ∀ k,zs.length ≤ k → sel[k]? = xs[k - zs.length]?:=fun k hk=>by rw [← hsel,List.getElem?_append_right hk]
  have hsl : ∀ k i,sel[k]? = some i → i < H.length:=fun k i hk=>by
    by_cases h : k < zs.length
    · rw [hleft k h] at hk; exact hsz k i hk
    · rw [hright k (by omega)] at hk; exact hsx _ i hk
  let m0:=sel.map fun i=>m.getD i 0
  have hm0 : ∀ k i,sel[k]? = some i → m0[k]? = m[i]?:=fun k i hk=>by
    have hi : i < m.length:=by rw [hH.len]; exact hsl k i hk
    show (sel.map fun i=>m.getD i 0)[k]? = m[i]?
    rw [List.getElem?_map,hk,Option.map_some]
    simp [List.getD,List.getElem?_eq_getElem hi]
  have hm0l : m0.length = sel.length:=by simp [m0]
  have hback : ∀ i j,i < sel.length → m[selF sel i]? = some j → m0[i]? = some j:=fun i j hi hj=>by
    rw [hm0 i sel[i] (List.getElem?_eq_getElem hi)]
    simpa [selF,List.getD,List.getElem?_eq_getElem hi] using hj
  have hH0 : RH m0 (Z ++ X0) w:=by
    refine ⟨by rw [hm0l,hll,List.length_append,hlz,hlx],nodup_of_inj fun i j a hi hj=>?_,fun k j b hj hb=>?_,hH.inv,fun k j b hj hb hT=>by
      have hk : k < sel.length:=by rw [← hm0l]; exact (List.getElem?_eq_some_iff.1 hj).1
      rw [hm0 k _ (List.getElem?_eq_getElem hk)] at hj
      by_cases h : k < zs.length
      · have e1 : zs[k]? = some sel[k]:=by rw [← hleft k h]; exact List.getElem?_eq_getElem hk
        have h1:=mapM_at hz k sel[k] e1
        rw [List.getElem?_append_left (by rw [hlz]; exact h)] at hb
        rw [hb] at h1
        exact hH.far _ j _ hj h1.symm hT
      · have e1 : xs[k - zs.length]? = some sel[k]:=by rw [← hright k (by omega)]; exact List.getElem?_eq_getElem hk
        have h1:=mapM_at hx _ sel[k] e1
        rw [List.getElem?_append_right (by rw [hlz]; omega),hlz] at hb
        rw [List.getElem?_map,hb] at h1
        exact hH.far _ j _ hj h1.symm hT⟩
    · have hi' : i < sel.length:=by rw [← hm0l]; exact (List.getElem?_eq_some_iff.1 hi).1
      have hj' : j < sel.length:=by rw [← hm0l]; exact (List.getElem?_eq_some_iff.1 hj).1
      rw [hm0 i _ (List.getElem?_eq_getElem hi')] at hi
      rw [hm0 j _ (List.getElem?_eq_getElem hj')] at hj
      have hij:=nodup_inj hH.nodup hi hj
      exact nodup_inj hn (List.getElem?_eq_getElem hi') (by rw [List.getElem?_eq_getElem hj',hij])
    · have hk : k < sel.length:=by rw [← hm0l]; exact (List.getElem?_eq_some_iff.1 hj).1
      rw [hm0 k _ (List.getElem?_eq_getElem hk)] at hj
      by_cases h : k < zs.length
      · have e1 : zs[k]? = some sel[k]:=by rw [← hleft k h]; exact List.getElem?_eq_getElem hk
        have h1:=mapM_at hz k sel[k] e1
        rw [List.getElem?_append_left (by rw [hlz]; exact h)] at hb
        rw [hb] at h1
        obtain ⟨cs,c1,c2⟩:=hH.blk _ j _ hj h1.symm
        exact ⟨cs,c1,c2.calm (List.all_eq_true.1 hzc b (List.mem_of_getElem? hb))⟩
      · have e1 : xs[k - zs.length]? = some sel[k]:=by rw [← hright k (by omega)]; exact List.getElem?_eq_getElem hk
        have h1:=mapM_at hx _ sel[k] e1
        rw [List.getElem?_append_right (by rw [hlz]; omega),hlz] at hb
        rw [List.getElem?_map,hb] at h1
        obtain ⟨cs,c1,c2⟩:=hH.blk _ j _ hj h1.symm
        exact ⟨cs,c1,unrenB_rel hback (List.all_eq_true.1 hc b (List.mem_of_getElem? hb)) c2⟩
  have ha0 : RA m0 args args':=by
    refine ⟨by have:=ha.size; simpa using this,fun i v v' h1 h2=>?_⟩
    refine unrenA_rel hback (List.all_eq_true.1 ho v (by rw [Array.mem_toList_iff]; exact Array.mem_of_getElem? h1)) (ha.at_ i (renA (selF sel) v) v' ?_ h2)
    rw [List.getElem?_toArray,List.getElem?_map,Array.getElem?_toList,h1]; rfl
  have hmem : ∀ j ∈ m0,j ∈ m:=fun j hj=>by
    obtain ⟨k,hk,rfl⟩:=List.mem_iff_getElem.1 hj
    have hk' : k < sel.length:=by rw [← hm0l]; exact hk
    have:=hm0 k _ (List.getElem?_eq_getElem hk')
    rw [List.getElem?_eq_getElem hk] at this
    exact List.mem_of_getElem? this.symm
  refine (hF.2 m0 args' w ha0 hH0).mono ?_
  rintro e w' ⟨u,v',n,G,rfl,hv,hH',hnew,hk,X,rfl,hsu⟩
  obtain ⟨hXl,hXo,hUo⟩:=hS u X hsu
  have hnl : n.length = X.length - xs.length:=by
    have:=hH'.len
    simp only [List.length_append,hm0l,hll,hlz] at this
    omega
  have hfwd : ∀ i j,i < zs.length + X.length → (m0 ++ n)[i]? = some j → (m ++ n)[backF sel H.length i]? = some j:=fun i j hi hj=>by
    unfold backF
    by_cases h : i < sel.length
    · rw [if_pos h]
      rw [List.getElem?_append_left (by rw [hm0l]; exact h),hm0 i _ (List.getElem?_eq_getElem h)] at hj
      have hlt:=(List.getElem?_eq_some_iff.1 hj).1
      have e1 : sel.getD i 0 = sel[i]:=by simp [List.getD,List.getElem?_eq_getElem h]
      rw [e1,List.getElem?_append_left hlt]
      exact hj
    · rw [if_neg h]
      rw [List.getElem?_append_right (by rw [hm0l]; omega),hm0l] at hj
      rw [List.getElem?_append_right (by rw [hH.len]; omega),hH.len,Nat.add_sub_cancel_left]
      exact hj
  have hxn : xs.Nodup:=by rw [← hsel,List.nodup_append] at hn; exact hn.2.1
  unfold merge
  rw [hsel]
  refine ⟨u,X,v',n,rfl,renU_rel hfwd hUo hv,⟨?_,?_,fun q j b hj hb=>?_,hH'.inv,fun q j b hj hb hT=>?_⟩,hnew,⟨hk.os,hk.tape,hk.output,hk.size,fun k h1 h2=>hk.block k h1 fun h3=>h2 (hmem k h3)⟩,hsu⟩
  · simp only [List.length_append,patch_len,List.length_map,List.length_drop,hH.len]
    omega
  · rw [List.nodup_append]
    have hnd:=hH'.nodup
    rw [List.nodup_append] at hnd
    refine ⟨hH.nodup,hnd.2.1,fun a ha b hb=>?_⟩
    have h1:=hH.lt_of_mem ha
    have h2:=hnew b hb
    omega
  · by_cases hq : q < H.length
    · rw [List.getElem?_append_left (by rw [patch_len]; exact hq)] at hb
      rw [List.getElem?_append_left (by rw [hH.len]; exact hq)] at hj
      by_cases hqx : q ∈ xs
      · obtain ⟨k,hk1,hk2⟩:=List.mem_iff_getElem.1 hqx
        have hkq : xs[k]? = some q:=by rw [List.getElem?_eq_getElem hk1,hk2]
        rw [patch_in H xs _ k q hxn hkq hq (by simpa using hXl),List.getElem?_map,Option.map_eq_some_iff] at hb
        obtain ⟨b0,hb0,rfl⟩:=hb
        have hks : sel[zs.length + k]? = some q:=by rw [hright _ (by omega),Nat.add_sub_cancel_left]; exact hkq
        have hj0 : (m0 ++ n)[zs.length + k]? = some j:=by
          rw [List.getElem?_append_left (by rw [hm0l,hll]; omega),hm0 _ q hks]
          exact hj
        obtain ⟨cs,c1,c2⟩:=hH'.blk _ j b0 hj0 (by rw [List.getElem?_append_right (by rw [hlz]; omega),hlz,Nat.add_sub_cancel_left]; exact hb0)
        exact ⟨cs,c1,renB_rel hfwd (List.all_eq_true.1 hXo b0 (List.mem_of_getElem? hb0)) c2⟩
      · rw [patch_out H xs _ q hqx] at hb
        by_cases hqz : q ∈ zs
        · obtain ⟨k,hk1,hk2⟩:=List.mem_iff_getElem.1 hqz
          have hkq : zs[k]? = some q:=by rw [List.getElem?_eq_getElem hk1,hk2]
          have hks : sel[k]? = some q:=by rw [hleft _ hk1]; exact hkq
          have hj0 : (m0 ++ n)[k]? = some j:=by
            rw [List.getElem?_append_left (by rw [hm0l,hll]; omega),hm0 _ q hks]
            exact hj
          have h1:=mapM_at hz k q hkq
          rw [hb] at h1
          obtain ⟨cs,c1,c2⟩:=hH'.blk _ j b hj0 (by rw [List.getElem?_append_left (by rw [hlz]; exact hk1)]; exact h1)
          exact ⟨cs,c1,c2.calm (List.all_eq_true.1 hzc b (List.mem_of_getElem? h1))⟩
        · obtain ⟨cs,c1,c2⟩:=hH.blk q j b hj hb
          refine ⟨cs,?_,c2.mono n⟩
          rw [hk.block j (hH.lt hj) fun hj0=>?_]
          · exact c1
          · obtain ⟨k,hk1,hk2⟩:=List.mem_iff_getElem.1 hj0
            have hk' : k < sel.length:=by rw [← hm0l]; exact hk1
            have h3:=hm0 k _ (List.getElem?_eq_getElem hk')
            rw [List.getElem?_eq_getElem hk1,hk2] at h3
            have h4 : q = sel[k]:=nodup_inj hH.nodup hj h3.symm
            have h5 : q ∈ zs ++ xs:=by rw [hsel,h4]; exact List.getElem_mem hk'
            rcases List.mem_append.1 h5 with h5 | h5
            · exact hqz h5
            · exact hqx h5
    · rw [List.getElem?_append_right (by rw [patch_len]; omega),patch_len,List.getElem?_map,List.getElem?_drop,Option.map_eq_some_iff] at hb
      rw [List.getElem?_append_right (by rw [hH.len]; omega),hH.len] at hj
      obtain ⟨b0,hb0,rfl⟩:=hb
      have hj0 : (m0 ++ n)[zs.length + (xs.length + (q - H.length))]? = some j:=by
        rw [List.getElem?_append_right (by rw [hm0l,hll]; omega),hm0l,hll,← Nat.add_assoc,Nat.add_sub_cancel_left]
        exact hj
      obtain ⟨cs,c1,c2⟩:=hH'.blk _ j b0 hj0 (by rw [List.getElem?_append_right (by rw [hlz]; omega),hlz,Nat.add_sub_cancel_left]; exact hb0)
      exact ⟨cs,c1,renB_rel hfwd (List.all_eq_true.1 hXo b0 (List.mem_of_getElem? hb0)) c2⟩
  · by_cases hq : q < H.length
    · rw [List.getElem?_append_left (by rw [patch_len]; exact hq)] at hb
      rw [List.getElem?_append_left (by rw [hH.len]; exact hq)] at hj
      by_cases hqx : q ∈ xs
      · obtain ⟨k,hk1,hk2⟩:=List.mem_iff_getElem.1 hqx
        have hkq : xs[k]? = some q:=by rw [List.getElem?_eq_getElem hk1,hk2]
        rw [patch_in H xs _ k q hxn hkq hq (by simpa using hXl),List.getElem?_map,Option.map_eq_some_iff] at hb
        obtain ⟨b0,hb0,rfl⟩:=hb
        have hks : sel[zs.length + k]? = some q:=by rw [hright _ (by omega),Nat.add_sub_cancel_left]; exact hkq
        have hj0 : (m0 ++ n)[zs.length + k]? = some j:=by
          rw [List.getElem?_append_left (by rw [hm0l,hll]; omega),hm0 _ q hks]
          exact hj
        exact hH'.far _ j b0 hj0 (by rw [List.getElem?_append_right (by rw [hlz]; omega),hlz,Nat.add_sub_cancel_left]; exact hb0) hT
      · rw [patch_out H xs _ q hqx] at hb
        by_cases hqz : q ∈ zs
        · obtain ⟨k,hk1,hk2⟩:=List.mem_iff_getElem.1 hqz
          have hkq : zs[k]? = some q:=by rw [List.getElem?_eq_getElem hk1,hk2]
          have hks : sel[k]? = some q:=by rw [hleft _ hk1]; exact hkq
          have hj0 : (m0 ++ n)[k]? = some j:=by
            rw [List.getElem?_append_left (by rw [hm0l,hll]; omega),hm0 _ q hks]
            exact hj
          have h1:=mapM_at hz k q hkq
          rw [hb] at h1
          exact hH'.far _ j b hj0 (by rw [List.getElem?_append_left (by rw [hlz]; exact hk1)]; exact h1) hT
        · exact hH.far q j b hj hb hT
    · rw [List.getElem?_append_right (by rw [patch_len]; omega),patch_len,List.getElem?_map,List.getElem?_drop,Option.map_eq_some_iff] at hb
      rw [List.getElem?_append_right (by rw [hH.len]; omega),hH.len] at hj
      obtain ⟨b0,hb0,rfl⟩:=hb
      have hj0 : (m0 ++ n)[zs.length + (xs.length + (q - H.length))]? = some j:=by
        rw [List.getElem?_append_right (by rw [hm0l,hll]; omega),hm0l,hll,← Nat.add_assoc,Nat.add_sub_cancel_left]
        exact hj
      exact hH'.far _ j b0 hj0 (by rw [List.getElem?_append_right (by rw [hlz]; omega),hlz,Nat.add_sub_cancel_left]; exact hb0) hT
theorem ren1_fl (ρ : Nat → Nat) {v : Value} (h : flat1 v = true) : ren1 ρ v = v:=by
  cases v with
  | pointer a=>cases a with
    | none=>rfl
    | some a=>cases h
  | slice a l c=>cases a with
    | none=>rfl
    | some a=>cases h
  | _=>rfl
theorem renA_fl (ρ : Nat → Nat) {v : Value} (h : (match v with | .agg cs=>cs.toList.all flat1 | v=>flat1 v) = true) : renA ρ v = v:=by
  cases v with
  | agg cs=>rfl
  | _=>exact ren1_fl ρ h
theorem renU_fl (ρ : Nat → Nat) {v : Value} (h : flat v = true) : renU ρ v = v:=by
  cases v with
  | tuple vs=>
    have h' : vs.toList.all (fun v=>match v with | .agg cs=>cs.toList.all flat1 | v=>flat1 v) = true:=h
    show Value.tuple (vs.toList.map (renA ρ)).toArray = .tuple vs
    rw [show vs.toList.map (renA ρ) = vs.toList.map id from List.map_congr_left fun v hv=>renA_fl ρ (List.all_eq_true.1 h' v hv)]
    simp
  | agg cs=>rfl
  | func a b c=>rfl
  | pointer a=>exact ren1_fl ρ h
  | slice a l c=>exact ren1_fl ρ h
  | _=>rfl
theorem call_calm {m : List Nat} {H Z : List Blk} {w : World} {g : FuncId} {zs : List Nat} {args args' : Array Value} {u : Value} (hH : RH m H w)
    (hF : Fun P g Z args u Z) (hu : flat u = true) (hU : ∀ n,okU n u = true) (hz : zs.mapM (fun i=>H[i]?) = some Z) (hzc : Z.all calmB = true) (hn : zs.Nodup) (ho : args.toList.all (okA zs.length) = true)
    (ha : RA m (args.toList.map (renA (selF zs))).toArray args') : Calls P g args' w fun e w'=>e = .returned u ∧ Below w.heap.size w w':=by
  have hF' : FunR P g (Z ++ []) args fun v G=>∃ X,G = Z ++ X ∧ (v = u ∧ X = []):=by
    refine ⟨hF.1,?_⟩
    rw [List.append_nil]
    intro m args' w ha hH
    exact (hF.2 m args' w ha hH).mono fun _ _ ⟨v',n,h1,h2,h3,h4,h5⟩=>⟨_,v',n,Z,h1,h2,h3,h4,h5,[],by rw [List.append_nil],rfl,rfl⟩
  refine (call_chg (zs:=zs) (xs:=[]) (X0:=[]) hH hF' hz hzc rfl rfl (by rw [List.append_nil]; exact hn) (by rw [List.append_nil]; exact ho) (fun v X hs=>by
    obtain ⟨rfl,rfl⟩:=hs
    exact ⟨Nat.le_refl _,rfl,hU _⟩) (by rw [List.append_nil]; exact ha)).mono ?_
  rintro e w' ⟨v,X,v',n,rfl,hv,hH',_,hk,rfl,rfl⟩
  have hm : merge H zs [] [] = H:=by simp [merge,patch]
  rw [hm] at hH'
  have hn0 : n = []:=by
    have h1:=hH'.len
    have h2:=hH.len
    simp at h1
    exact List.length_eq_zero_iff.1 (by omega)
  subst hn0
  rw [List.append_nil] at hv hH'
  rw [renU_fl _ hu] at hv
  exact ⟨by rw [hv.eq_of_flat hu],hH.below_of hH' hk⟩
def QN (P : Program) (f : FuncId) (m0 : List Nat) (w0 : World) (K : Array Value → List Blk → T) (R : Value → List Blk → Prop) : Exit → Act → World → Prop:=
  fun e a w=>e = .normal ∧ ∃ (n : List Nat) (t t' : Array Value) (H : List Blk),a = act t' ∧ RA (m0 ++ n) t t' ∧ RH (m0 ++ n) H w ∧ (∀ j ∈ n,w0.heap.size ≤ j) ∧ Kept m0 w0 w ∧ Run P f R (K t H)
theorem run_ite {c : Bool} {a b : T} {R : Value → List Blk → Prop} (h : Run P f R (.ite c a b)) : Run P f R (if c = true then a else b):=by
  cases h with
  | ite _ _ _ ha hb=>cases c <;> simp_all
theorem run_fail {R : Value → List Blk → Prop} (h : Run P f R .fail) : False:=by cases h
theorem yielded_some {ops : Array Oper} {tmps : Array Value} {j d : Nat} (h : (ops[j]?).bind (·.dst) = some d) : yielded ops tmps j = match tmps[d]? with | some (.bool b)=>some b | _=>none:=by
  unfold yielded
  rw [h]
  rfl
theorem yielded_none {ops : Array Oper} {tmps : Array Value} {j : Nat} (h : (ops[j]?).bind (·.dst) = none) : yielded ops tmps j = none:=by
  unfold yielded
  rw [h]
  rfl
theorem set_self {t : Array Value} {d : Nat} {v : Value} (h : t[d]? = some v) : t.setIfInBounds d v = t:=by
  apply Array.ext_getElem?
  intro i
  by_cases e : d = i
  · subst e
    rw [Array.getElem?_setIfInBounds_self,if_pos (Array.getElem?_eq_some_iff.1 h).1,h]
  · rw [Array.getElem?_setIfInBounds_ne e]
theorem guarded_run {ops : Array Oper} {o : Oper} {m : List Nat} {t t' : Array Value} (ht : RA m t t') {go skip : Array Value → T} {R : Value → List Blk → Prop} (h : Run P f R (guarded ops o t go skip)) :
    (Region.wanted o (yielded ops t') = true ∧ Run P f R (go t)) ∨ (Region.wanted o (yielded ops t') = false ∧ Run P f R (skip t)):=by
  unfold guarded at h
  cases hg : o.guard with
  | none=>simp only [hg] at h; exact .inl ⟨by simp [Region.wanted,hg],h⟩
  | some jw=>
    obtain ⟨j,want⟩:=jw
    simp only [hg] at h
    cases hd : (ops[j]?).bind (·.dst) with
    | none=>
      simp only [hd] at h
      exact .inr ⟨by simp [Region.wanted,hg,yielded_none hd],h⟩
    | some d=>
      simp only [hd] at h
      have hy:=yielded_some (tmps:=t') hd
      cases hv : t[d]? with
      | none=>
        simp only [hv] at h
        have : t'[d]? = none:=by
          rw [Array.getElem?_eq_none_iff] at hv ⊢
          rw [← ht.size]; exact hv
        refine .inr ⟨?_,h⟩
        rw [this] at hy
        simp [Region.wanted,hg,hy]
      | some u=>
        have hlt : d < t'.size:=by rw [← ht.size]; exact (Array.getElem?_eq_some_iff.1 hv).1
        have hr:=ht.at_ d u _ hv (Array.getElem?_eq_getElem hlt)
        have hv':=Array.getElem?_eq_getElem hlt
        have other : (∀ b,u ≠ .bool b) → isRaw u = false → Region.wanted o (yielded ops t') = false:=fun hne hraw=>by
          have : yielded ops t' j = none:=by
            rw [hy,hv']
            generalize t'[d] = u' at hr
            cases hr with
            | pl _ hf=>cases u <;> first | rfl | exact absurd rfl (hne _)
            | raw _=>simp [isRaw] at hraw
            | _=>rfl
          simp [Region.wanted,hg,this]
        cases u with
        | bool b=>
          simp only [hv] at h
          have hb : t'[d] = .bool b:=hr.eq_of_flat rfl
          have hw : Region.wanted o (yielded ops t') = (b == want):=by
            rw [hv',hb] at hy
            simp only [Region.wanted,hg,hy]
            cases b <;> cases want <;> rfl
          rw [hw]
          have h2:=run_ite h
          cases b with
          | true=>
            simp only [if_true,set_self hv] at h2
            cases want
            · exact .inr ⟨rfl,h2⟩
            · exact .inl ⟨rfl,h2⟩
          | false=>
            simp only [Bool.false_eq_true,if_false,set_self hv] at h2
            cases want
            · exact .inl ⟨rfl,h2⟩
            · exact .inr ⟨rfl,h2⟩
        | iface _ _=>simp only [hv] at h; exact (run_fail h).elim
        | _=>simp only [hv] at h; exact .inr ⟨other (by intro b; simp) rfl,h⟩
theorem opsN_run (hE : EqsOk P E) {ops : Array Oper} {K : Array Value → List Blk → T} {R : Value → List Blk → Prop} {m0 : List Nat} {w0 : World} :
    ∀ (l : List Oper) (n : List Nat) (t t' : Array Value) (H : List Blk) (w : World),RA (m0 ++ n) t t' → RH (m0 ++ n) H w → (∀ j ∈ n,w0.heap.size ≤ j) → Kept m0 w0 w →
      Run P f R (opsN P E ops K l t H) → wpList P ops (QN P f m0 w0 K R) l (act t') w
  | [],n,t,t',H,w,ht,hH,hn,hk,h=>⟨rfl,n,t,t',H,rfl,ht,hH,hn,hk,h⟩
  | o :: l,n,t,t',H,w,ht,hH,hn,hk,h=>by
    have next : ∀ (n' : List Nat) (t2 t2' : Array Value) (H2 : List Blk) (w2 : World),RA (m0 ++ n ++ n') t2 t2' → RH (m0 ++ n ++ n') H2 w2 → (∀ j ∈ n',w.heap.size ≤ j) → Kept (m0 ++ n) w w2 → Run P f R (opsN P E ops K l t2 H2) →
        wpList P ops (QN P f m0 w0 K R) l (act t2') w2:=fun n' t2 t2' H2 w2 a1 a2 a3 a4 a5=>by
      refine opsN_run hE l (n ++ n') t2 t2' H2 w2 (by rw [← List.append_assoc]; exact a1) (by rw [← List.append_assoc]; exact a2) (fun j hj=>?_) (hk.trans a4 hn) a5
      rcases List.mem_append.1 hj with hj | hj
      · exact hn j hj
      · exact Nat.le_trans hk.size (a3 j hj)
    have same : ∀ (t2 t2' : Array Value) ,RA (m0 ++ n) t2 t2' → Run P f R (opsN P E ops K l t2 H) → wpList P ops (QN P f m0 w0 K R) l (act t2') w:=fun t2 t2' a1 a5=>
      next [] t2 t2' H w (by simpa using a1) (by simpa using hH) (by simp) (Kept.refl _ _) a5
    simp only [wpList]
    simp only [opsN] at h
    rcases guarded_run ht h with ⟨hw,h⟩ | ⟨hw,h⟩
    · have hw' : Region.wanted o (yielded ops (act t').tmps) = true:=hw
      rw [if_pos hw']
      left
      unfold Oper.wp
      unfold stepN at h
      split at h
      · rename_i u hu
        obtain ⟨u',hr,hv⟩:=opA_val (w:=w) ht (fun _=>hH) hE hu
        rw [hr,Oper.upon_value,act_put]
        exact same _ _ (ht.put hv _) h
      · rename_i u H2 hu
        obtain ⟨w',u',n',hr,hv,hH',hn',hk'⟩:=opA_mem ht hH hu
        have h2:=next n' (putA t o.dst u) (putA t' o.dst u') H2 w' ((ht.mono n').put hv _) hH' hn' hk' h
        rcases hr with hr | ⟨hr,rfl⟩
        · rw [hr,Oper.upon_value,act_put]; exact h2
        · rw [hr,Oper.upon_skip,act_put]; exact h2
      · rename_i c x y hu
        obtain ⟨u',hr,hv⟩:=opA_pick (E:=E) ht hu w
        rw [hr,Oper.upon_value,act_put]
        have h2:=run_ite h
        cases c
        · exact same _ _ (ht.put hv _) h2
        · exact same _ _ (ht.put hv _) h2
      · rename_i c u hu
        have h2:=run_ite h
        cases c
        · exact (run_fail h2).elim
        · obtain ⟨u',hr,hv⟩:=opA_chk hE ht hu rfl w
          rw [hr,Oper.upon_value,act_put]
          exact same _ _ (ht.put hv _) h2
      · rename_i x hu
        cases h with
        | opt _ _ u hx hk2=>
          obtain ⟨u',hr,hv⟩:=opA_opt ht hH hu hx
          rw [hr,Oper.upon_value,act_put]
          exact same _ _ (ht.put hv _) hk2
      · rename_i g args hu
        cases h with
        | call _ sel H0 args0 _ _ u hF hfl hs hcc hsn hok hk2=>
          obtain ⟨args',hr,ha⟩:=opA_enter (E:=E) ht hu hF.1 w
          rw [hr,Oper.upon_enter]
          refine (call_reads hH hF hfl hs hcc hsn hok ha).mono ?_
          rintro e w' ⟨rfl,hb⟩
          show wpList P ops _ _ ((act t').put o.dst u) w'
          rw [act_put]
          exact next [] _ _ H w' (by simpa using ht.put (VR.refl_of_flat _ hfl) o.dst) (by simpa using hH.below hb) (by simp) (Kept.of_below hb) hk2
        | new _ _ _ _ S hF hS hok hk2=>
          obtain ⟨args',hr,ha⟩:=opA_enter (E:=E) ht hu hF.1 w
          rw [hr,Oper.upon_enter]
          refine (call_new hH hF hS hok ha).mono ?_
          rintro e w' ⟨u,X,v',n',rfl,hv,hH',hn',hk',hs⟩
          show wpList P ops _ _ ((act t').put o.dst v') w'
          rw [act_put]
          exact next n' _ _ _ w' ((ht.mono n').put hv _) hH' hn' hk' (hk2 u X hs)
        | chg _ zs xs Z X0 args0 _ _ S hF hz hzc hx hcc hsn hok hS hk2=>
          obtain ⟨args',hr,ha⟩:=opA_enter (E:=E) ht hu hF.1 w
          rw [hr,Oper.upon_enter]
          refine (call_chg hH hF hz hzc hx hcc hsn hok hS ha).mono ?_
          rintro e w' ⟨u,X,v',n',rfl,hv,hH',hn',hk',hs'⟩
          show wpList P ops _ _ ((act t').put o.dst v') w'
          rw [act_put]
          exact next n' _ _ _ w' ((ht.mono n').put hv _) hH' hn' hk' (hk2 u X hs')
      · exact (run_fail h).elim
    · have hw' : ¬ Region.wanted o (yielded ops (act t').tmps) = true:=by
        show ¬ Region.wanted o (yielded ops t') = true
        simp [hw]
      rw [if_neg hw',act_put]
      exact same _ _ (ht.put (VR.undef _) _) h
end
end Go.Proofs.YtfhnlkinjbakgaaGreatDoor.Abs
