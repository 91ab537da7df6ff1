/- A law's arguments: slices of bytes. -/
import Derived.Test.YtfhnlkinjbakgaaGreatMsAbsD
import Derived.Test.YtfhnlkinjbakgaaGreatMsAbsL
import Derived.ChangeSlices
namespace Go.Proofs.YtfhnlkinjbakgaaGreat.Abs
open Go Go.RowKit Go.ChangeShapes Go.WideShapes
def keepInt : Value → Value
  | .int k n=>.int k n
  | v=>.iface 0 v
def absRow (c : Array Value) : Array Value:=c.map keepInt
theorem keepInt_rel (m : List Nat) (v : Value) : VR m (keepInt v) v:=by
  cases v <;> first | exact .pl _ rfl | exact .raw _
theorem absRow_rel (m : List Nat) (c : Array Value) : RA m (absRow c) c:=
  ⟨by simp [absRow],fun i v v' h1 h2=>by
    unfold absRow at h1
    rw [Array.getElem?_map,h2] at h1
    cases h1
    exact keepInt_rel m v'⟩
theorem absRow_calm (c : Array Value) : (absRow c).toList.all calm = true:=by
  rw [List.all_eq_true]
  intro v hv
  unfold absRow at hv
  rw [Array.toList_map] at hv
  obtain ⟨x,_,rfl⟩:=List.mem_map.1 hv
  cases x <;> rfl
theorem wu8_val {n : Int} (h : 0 ≤ n ∧ n ≤ 255) : (wu8 n).val = n:=by
  show IntKind.u8.wrap n = n
  simp only [IntKind.wrap,IntKind.bits,IntKind.signed]
  simp
  omega
structure Seen (w : World) (v : Value) where
  j : Nat
  c : Array Value
  T : TypeId
  fr : Nat × Nat
  off : Nat
  L : List U8
  cap : Nat
  blk : w.heap[j]? = some (.cells c T fr)
  val : v = .slice (some ⟨j,off,none⟩) L.length cap
  at_ : ∀ (i : Nat) (b : U8),L[i]? = some b → (absRow c)[off + i]? = some (.int .u8 b.val)
variable {P : Program} {f : FuncId}
theorem open_bytes {H : Type} {enc : TypeId × Value → H} {W : World} {base : Nat} {t e : TypeId} {v : Value} {d : DataW H} {ps : List MemPlace} (ht : P.underlying t = some (.slice e)) (he : P.underlying e = some (.int .u8)) (hc : P.cellsOf e = 1)
    (hval : Value.okWide P W .any base t v) (h : DataW.Trod enc P W 0 (fun _=>true) true t v d ps) : v = .slice none 0 0 ∨ Nonempty (Seen W v):=by
  obtain ⟨a,len,cap,rfl⟩:=okWide_slice ht hval
  obtain ⟨fuel,hf⟩:=h
  rcases open_ints ht he hc hf with ⟨hcs,_⟩ | ⟨x,l,c,zs,hcs,_,hl,hm,hz,_,hcell,hwz⟩
  · simp [Value.cells] at hcs
    obtain ⟨rfl,rfl,rfl⟩:=hcs
    exact .inl rfl
  · simp [Value.cells] at hcs
    obtain ⟨rfl,rfl,rfl⟩:=hcs
    right
    simp only [Value.okWide,ht,Cell.okWide,Cell.ok] at hval
    obtain ⟨_,_,_,hspot,row,cells,hshape,_⟩:=hval
    obtain ⟨j,off,spot⟩:=x
    simp only at hspot
    subst hspot
    have hblk : ∃ cs fr,W.heap[j]? = some (.cells cs row fr):=by
      unfold World.shape? at hshape
      split at hshape
      · rename_i cs elem fr hh
        simp only [Option.some.injEq,Prod.mk.injEq] at hshape
        obtain ⟨rfl,_⟩:=hshape
        exact ⟨cs,fr,hh⟩
      · cases hshape
    obtain ⟨cs,fr,hb⟩:=hblk
    have hlen : len ≤ zs.length:=by
      have : zs.length = cap:=by simpa using hz
      omega
    refine ⟨⟨j,cs,row,fr,off,(zs.take len).map wu8,cap,hb,?_,fun i b hi=>?_⟩⟩
    · rw [List.length_map,List.length_take,Nat.min_eq_left hlen]
    · rw [List.getElem?_map] at hi
      cases hx : (zs.take len)[i]? with
      | none=>rw [hx] at hi; cases hi
      | some z=>
        rw [hx] at hi
        simp only [Option.map_some,Option.some.injEq] at hi
        subst hi
        have hil : i < len:=by
          have:=(List.getElem?_eq_some_iff.1 hx).1
          rw [List.length_take] at this
          omega
        rw [List.getElem?_take_of_lt hil] at hx
        have hzm:=hwz z (List.mem_of_getElem? hx)
        have hr : 0 ≤ z ∧ z ≤ 255:=by
          simp [Lit.wf,IntKind.min,IntKind.max,IntKind.bits,IntKind.signed] at hzm
          omega
        rw [wu8_val hr]
        have h1:=hcell i (by omega)
        rw [List.getD_eq_getElem?_getD,hx] at h1
        simp only [Option.getD_some] at h1
        have h2 : W.cell? ⟨j,off + i,none⟩ = cs[off + i]?:=by
          unfold World.cell?
          simp [hb]
        have h3 : (⟨j,off,none⟩ : Addr).add i = ⟨j,off + i,none⟩:=by
          unfold Addr.add
          split
          · rename_i h0; subst h0; rfl
          · rfl
        rw [h3,h2] at h1
        unfold absRow
        rw [Array.getElem?_map,h1]
        rfl
noncomputable def Seen.cd {w : World} {v : Value} (s : Seen w v) : Cd:=⟨absRow s.c,Classical.choose (frOf_all s.T s.fr),s.off,s.L,s.cap,s.at_,absRow_calm s.c⟩
theorem Seen.fr_ok {w : World} {v : Value} (s : Seen w v) : frOf s.cd.ty = (s.T,s.fr):=Classical.choose_spec (frOf_all s.T s.fr)
theorem Seen.rh {w : World} {v : Value} (s : Seen w v) : RH [s.j] [(s.cd.row,s.cd.ty)] w:=
  ⟨rfl,by simp,fun i j b hj hb=>by
    cases i with
    | zero=>
      cases hj; cases hb
      exact ⟨s.c,by rw [s.fr_ok]; exact s.blk,absRow_rel _ _⟩
    | succ i=>simp at hj⟩
theorem Seen.arg {w : World} {v : Value} (s : Seen w v) {m : List Nat} {i : Nat} (h : m[i]? = some s.j) : VR m (s.cd.sl i) v:=by
  have h2 : VR m (s.cd.sl i) (.slice (some ⟨s.j,s.off,none⟩) s.L.length s.cap):=.slice _ _ _ _ _ _ h
  exact Eq.mp (congrArg (fun z=>VR m (s.cd.sl i) z) s.val.symm) h2
theorem Seen.rh2 {w : World} {v u : Value} (s : Seen w v) (q : Seen w u) (hne : s.j ≠ q.j) : RH [s.j,q.j] [(s.cd.row,s.cd.ty),(q.cd.row,q.cd.ty)] w:=
  ⟨rfl,by simp [hne],fun i j b hj hb=>by
    match i,hj,hb with
    | 0,hj,hb=>cases hj; cases hb; exact ⟨s.c,by rw [s.fr_ok]; exact s.blk,absRow_rel _ _⟩
    | 1,hj,hb=>cases hj; cases hb; exact ⟨q.c,by rw [q.fr_ok]; exact q.blk,absRow_rel _ _⟩
    | i + 2,hj,hb=>simp at hj⟩
theorem Seen.same {w : World} {v u : Value} (s : Seen w v) (q : Seen w u) (he : s.j = q.j) : ∃ c1 : Cv s.cd.row,∀ {m : List Nat} {i : Nat},m[i]? = some s.j → VR m ((s.cd.vw c1).sl i) u:=by
  have hc : q.c = s.c:=by
    have h3 : some (Obj.cells s.c s.T s.fr) = some (Obj.cells q.c q.T q.fr):=by rw [← s.blk,← q.blk,he]
    simp only [Option.some.injEq,Obj.cells.injEq] at h3
    exact h3.1.symm
  have hat : ∀ (i : Nat) (b : U8),q.L[i]? = some b → s.cd.row[q.off + i]? = some (.int .u8 b.val):=fun i b hi=>by
    have h4:=q.at_ i b hi
    rw [hc] at h4
    exact h4
  refine ⟨⟨q.off,q.L,q.cap,hat⟩,fun {m i} hm=>?_⟩
  have h2 : VR m ((s.cd.vw ⟨q.off,q.L,q.cap,hat⟩).sl i) (.slice (some ⟨q.j,q.off,none⟩) q.L.length q.cap):=.slice _ _ _ _ _ _ (by rw [← he]; exact hm)
  exact Eq.mp (congrArg (fun z=>VR m ((s.cd.vw ⟨q.off,q.L,q.cap,hat⟩).sl i) z) q.val.symm) h2
theorem Fun.callsH {H : List Blk} {args args' : Array Value} {v : Value} {m : List Nat} {w : World} (h : Fun P f H args v H) (hv : flat v = true) (ha : RA m args args') (hH : RH m H w) :
    Calls P f args' w fun e w'=>e = .returned v ∧ Below w.heap.size w w':=by
  refine (h.2 m args' w ha hH).mono ?_
  rintro e w' ⟨v',n,rfl,h1,h2,h3,h4⟩
  have hn : n = []:=by
    have e1:=h2.len
    have e2:=hH.len
    rw [List.length_append] at e1
    exact List.length_eq_zero_iff.1 (by omega)
  subst hn
  rw [List.append_nil] at h2
  exact ⟨by rw [h1.eq_of_flat hv],hH.below_of h2 h4⟩
theorem ra2 {m : List Nat} {v v' u u' : Value} (h : VR m v v') (k : VR m u u') : RA m #[v,u] #[v',u']:=
  ⟨rfl,fun i x x' h1 h2=>by
    match i,h1,h2 with
    | 0,h1,h2=>cases h1; cases h2; exact h
    | 1,h1,h2=>cases h1; cases h2; exact k
    | i + 2,h1,h2=>simp at h1⟩
theorem bytes2 {W : World} {v u r : Value} (hr : flat r = true) (hv : v = .slice none 0 0 ∨ Nonempty (Seen W v)) (hu : u = .slice none 0 0 ∨ Nonempty (Seen W u))
    (hll : ∀ C D : Cd,Fun P f [(C.row,C.ty),(D.row,D.ty)] #[C.sl 0,D.sl 1] r [(C.row,C.ty),(D.row,D.ty)]) (hln : ∀ C : Cd,Fun P f [(C.row,C.ty)] #[C.sl 0,.slice none 0 0] r [(C.row,C.ty)])
    (hnl : ∀ C : Cd,Fun P f [(C.row,C.ty)] #[.slice none 0 0,C.sl 0] r [(C.row,C.ty)]) (hnn : Fun P f [] #[.slice none 0 0,.slice none 0 0] r []) (hlv : ∀ (C : Cd) (V : Cv C.row),Fun P f [(C.row,C.ty)] #[C.sl 0,(C.vw V).sl 0] r [(C.row,C.ty)]) :
    Calls P f #[v,u] W fun e w'=>e = .returned r ∧ Below W.heap.size W w':=by
  rcases hv with rfl | ⟨⟨s⟩⟩
  · rcases hu with rfl | ⟨⟨q⟩⟩
    · exact hnn.callsH hr (ra2 (.pl _ rfl) (.pl _ rfl)) (RH.nil W)
    · exact (hnl q.cd).callsH hr (ra2 (.pl _ rfl) (q.arg rfl)) q.rh
  · rcases hu with rfl | ⟨⟨q⟩⟩
    · exact (hln s.cd).callsH hr (ra2 (s.arg rfl) (.pl _ rfl)) s.rh
    · by_cases he : s.j = q.j
      · obtain ⟨c1,h1⟩:=s.same q he
        exact (hlv s.cd c1).callsH hr (ra2 (s.arg rfl) (h1 rfl)) s.rh
      · exact (hll s.cd q.cd).callsH hr (ra2 (s.arg rfl) (q.arg rfl)) (s.rh2 q he)
end Go.Proofs.YtfhnlkinjbakgaaGreat.Abs
