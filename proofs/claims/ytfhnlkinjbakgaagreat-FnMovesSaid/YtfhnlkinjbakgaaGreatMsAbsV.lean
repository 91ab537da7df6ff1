/- The abstract machine: calls whose callee turns what it is shown, or makes blocks that hold places; lists of bytes and of points in memory. -/
import Derived.Test.YtfhnlkinjbakgaaGreatMsAbsP
namespace Go.Proofs.YtfhnlkinjbakgaaGreat.Abs
open Go Go.RowKit
variable {P : Program} {E : Eqs} {f : FuncId} {fn : Func} {tr : T} {R : Value → List Blk → Prop}
def FunS (P : Program) (f : FuncId) (Z X0 : List Blk) (args : Array Value) (S : Value → List Blk → Prop) : Prop:=FunR P f (Z ++ X0) args fun u G=>∃ X,G = Z ++ X ∧ S u X
theorem Run.cg {S : Value → List Blk → Prop} {g : FuncId} {Z X0 : List Blk} {args : Array Value} (zs xs : List Nat) (hF : FunS P g Z X0 args S)
    (hS : ∀ u X,S u X → xs.length ≤ X.length ∧ X.all (okB (zs.length + X.length)) = true ∧ okU (zs.length + X.length) u = true) (hzc : Z.all calmB = true) (hk : ∀ u X,S u X → Run P f R (tr.turned zs xs u X))
    (h : tr.callOf = some (g,(args.toList.map (renA (selF (zs ++ xs)))).toArray):=by kernel_rfl) (hc0 : tr.isCall = true:=by kernel_rfl) (hz : tr.sawB zs = some Z:=by kernel_rfl)
    (hx : tr.sawB xs = some (X0.map (renB (selF (zs ++ xs)))):=by kernel_rfl) (hc : X0.all (okB (zs ++ xs).length) = true:=by kernel_rfl) (hn : (zs ++ xs).Nodup:=by decide) (ho : args.toList.all (okA (zs ++ xs).length) = true:=by kernel_rfl) : Run P f R tr:=by
  cases tr <;> simp [T.isCall] at hc0
  simp [T.callOf] at h
  obtain ⟨rfl,rfl⟩:=h
  exact .chg _ zs xs Z X0 args _ _ S hF hz hzc hx hc hn ho hS hk
theorem Run.vq {α β : Type} {H : List Blk} {e : α → Value} {x : α} {φ : α → β} {gv : β → Value} {g : FuncId} {args : Array Value} {Z : List Blk} (zs : List Nat) (hF : Fun P g Z args (e x) Z) (hzc : Z.all calmB = true) (hk : ∀ r : α,r = x → Run P f (RvH H (gv (φ r))) (tr.after (e r)))
    (h : tr.callOf = some (g,(args.toList.map (renA (selF zs))).toArray):=by kernel_rfl) (hc0 : tr.isQ = true:=by kernel_rfl) (hz : tr.seen zs = some Z:=by kernel_rfl)
    (hn : zs.Nodup:=by decide) (ho : args.toList.all (okA zs.length) = true:=by kernel_rfl) (hu : ∀ r,flat (e r) = true:=by exact fun _=>rfl) (hU : ∀ (n : Nat) (r : α),okU n (e r) = true:=by exact fun _ _=>rfl) : Run P f (RvH H (gv (bindP x φ))) tr:=by
  cases tr <;> simp [T.isQ] at hc0
  simp [T.callOf] at h
  obtain ⟨rfl,rfl⟩:=h
  exact .qcalm _ zs Z args _ _ _ hF (hu x) (fun n=>hU n x) hz hzc hn ho (hk x rfl)
theorem Run.vl {α β : Type} {H : List Blk} {e : α → Value} {x : α} {φ : α → β} {gv : β → Value} {g : FuncId} {args : Array Value} {Z : List Blk} (zs : List Nat) (hF : Fun P g Z args (e x) Z) (hzc : Z.all calmB = true) (hk : ∀ r : α,r = x → Run P f (RvH H (gv (φ r))) (tr.turned zs [] (e r) []))
    (h : tr.callOf = some (g,(args.toList.map (renA (selF (zs ++ [])))).toArray):=by kernel_rfl) (hc0 : tr.isCall = true:=by kernel_rfl) (hz : tr.sawB zs = some Z:=by kernel_rfl) (hx : tr.sawB [] = some []:=by kernel_rfl)
    (hn : (zs ++ []).Nodup:=by decide) (ho : args.toList.all (okA (zs ++ []).length) = true:=by kernel_rfl) (hu : ∀ (n : Nat) (r : α),okU n (e r) = true:=by exact fun _ _=>rfl) : Run P f (RvH H (gv (bindP x φ))) tr:=by
  have hF' : FunS P g Z [] args fun u X=>u = e x ∧ X = []:=by
    refine ⟨hF.1,?_⟩
    rw [List.append_nil]
    intro m args' w ha hH
    refine (hF.2 m args' w ha hH).mono fun _ _ ⟨v',n,h1,h2,h3,h4,h5⟩=>⟨_,v',n,Z,h1,h2,h3,h4,h5,[],by rw [List.append_nil],rfl,rfl⟩
  refine Run.cg zs [] hF' (fun u X hs=>?_) hzc (fun u X hs=>?_) h hc0 hz hx rfl hn ho
  · obtain ⟨rfl,rfl⟩:=hs
    exact ⟨Nat.le_refl _,rfl,hu _ x⟩
  · obtain ⟨rfl,rfl⟩:=hs
    exact hk x rfl
theorem ren1_id (v : Value) : ren1 (fun i=>i) v = v:=by
  cases v with
  | pointer a=>cases a <;> rfl
  | slice a l c=>cases a <;> rfl
  | _=>rfl
theorem renA_id (v : Value) : renA (fun i=>i) v = v:=by
  cases v with
  | pointer a=>exact ren1_id (.pointer a)
  | slice a l c=>exact ren1_id (.slice a l c)
  | _=>rfl
theorem renU_id (v : Value) : renU (fun i=>i) v = v:=by
  cases v with
  | tuple vs=>
    have : vs.toList.map (renA fun i=>i) = vs.toList:=by
      rw [show (renA fun i=>i) = id from funext renA_id,List.map_id]
    simp only [renU,this]
  | pointer a=>exact ren1_id (.pointer a)
  | slice a l c=>exact ren1_id (.slice a l c)
  | _=>rfl
theorem renB_id (b : Blk) : renB (fun i=>i) b = b:=by
  have : b.1.toList.map (ren1 fun i=>i) = b.1.toList:=by
    rw [show (ren1 fun i=>i) = id from funext ren1_id,List.map_id]
  simp only [renB,this]
theorem FunS.of {S : Value → List Blk → Prop} {Z X0 : List Blk} {args : Array Value} (hS : ∀ u X,S u X → X0.length ≤ X.length ∧ X.all (okB (Z.length + X.length)) = true ∧ okU (Z.length + X.length) u = true) (hzc : Z.all calmB = true)
    (h : FunR P f (Z ++ X0) args fun u G=>∃ X Y,G = Z ++ (X ++ Y) ∧ S u X) : FunS P f Z X0 args S:=by
  refine ⟨h.1,fun m args' w ha hH=>(h.2 m args' w ha hH).mono ?_⟩
  rintro ex w' ⟨u,v',n,G,rfl,h1,h2,h3,h4,X,Y,rfl,hs⟩
  obtain ⟨hXl,hXo,hUo⟩:=hS u X hs
  have hml : m.length = Z.length + X0.length:=by rw [hH.len,List.length_append]
  have hk : (m ++ n).take (Z.length + X.length) = m ++ n.take (Z.length + X.length - m.length):=by
    rw [List.take_append,List.take_of_length_le (by omega)]
  have hto : ∀ i j,i < Z.length + X.length → (m ++ n)[i]? = some j → (m ++ n.take (Z.length + X.length - m.length))[i]? = some j:=fun i j hi hj=>by
    rw [← hk,List.getElem?_take_of_lt hi]; exact hj
  have hlen:=h2.len
  simp only [List.length_append] at hlen
  refine ⟨u,v',n.take (Z.length + X.length - m.length),Z ++ X,rfl,?_,⟨?_,?_,fun q j b hj hb=>?_⟩,fun j hj=>h3 j (List.mem_of_mem_take hj),h4,X,rfl,hs⟩
  · have:=renU_rel (ρ:=fun i=>i) hto hUo h1
    rwa [renU_id] at this
  · simp only [List.length_append,List.length_take]
    omega
  · rw [← hk]
    exact (List.take_sublist _ _).nodup h2.nodup
  · have hq : q < Z.length + X.length:=by
      have:=(List.getElem?_eq_some_iff.1 hb).1
      simpa [List.length_append] using this
    have hj0 : (m ++ n)[q]? = some j:=by
      rw [← hk,List.getElem?_take_of_lt hq] at hj
      exact hj
    obtain ⟨cs,c1,c2⟩:=h2.blk q j b hj0 (by rw [← List.append_assoc,List.getElem?_append_left (by simpa [List.length_append] using hq)]; exact hb)
    refine ⟨cs,c1,?_⟩
    by_cases hz : q < Z.length
    · rw [List.getElem?_append_left hz] at hb
      exact c2.calm (List.all_eq_true.1 hzc b (List.mem_of_getElem? hb))
    · rw [List.getElem?_append_right (by omega)] at hb
      have:=renB_rel (ρ:=fun i=>i) hto (List.all_eq_true.1 hXo b (List.mem_of_getElem? hb)) c2
      rwa [renB_id] at this
def byteAt (L : List U8) (i : I64) : U8:=L.getD i.val.toNat (cu8 0)
def srcB (T : TypeId) (cv : Value) (a : I64) (s : U64) : Blk:=(#[cv,.int .i64 a.val,.int .u64 s.val],T)
end Go.Proofs.YtfhnlkinjbakgaaGreat.Abs
